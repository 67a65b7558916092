/- TapPlays: for every script the law returns true. No condition beyond what the given statement says of its arguments. -/
import Derived.Test.YthaliljaglldjaaGreatRows
import Derived.Test.YthaliljaglldjaaGreatmCC
namespace Go.Proofs.YthaliljaglldjaaGreat.tapPlays
open Go.ChangeShapes Go.WideShapes Go.ChangeAt Go.RowKit Go.Joins
theorem own:ownKnob Tryz.prog.godebug=none:=by kernel_rfl
theorem cellsStep:Tryz.prog.cellsOf 72=5:=by kernel_rfl
set_option maxRecDepth 100000 in
theorem lifted (os:Os) (started:os.Started) (H:Type) (enc:TypeId × Value->H) :
 ReturnsInHanded {} Tryz.checked os 6 .any (Rows.tapPlaysSpec.pre6 enc Tryz.prog Tryz.f6 Rows.tapPlaysRow.domain false) (Rows.tapPlaysSpec.post enc Tryz.prog Tryz.f6 false true false false):=by
 refine returnsInHanded_of_change (C:=Tryz.checked) own started (by kernel_rfl) Tryz.func6
  (ChangeSpec.witness6 (enc:=enc) (C:=Tryz.checked) false ⟨#[],#[.slice none 0 0],[]⟩ 8 (by kernel_rfl) (by kernel_rfl) (by kernel_rfl) (by kernel_rfl)) ?_
 intro W base args ds gs before hval0 hW _ _;have hval:∀ (j:Nat) t v,Tryz.f6.params[j]? = some t->args[j]? = some v->Value.okWide Tryz.prog W .any base t v:=hval0;have hW':=hW;obtain⟨p,q,hA0,hV,rfl,_,_⟩:=hW;have hA:DataW.TrodAll enc Tryz.prog W 0 (fun _=>true) true Tryz.f6.params.toList args.toList ds p:=hA0;rw [Tryz.params6]at hA hval;obtain⟨v0,d0,rfl,rfl,h0⟩:=trodAll_one hA;obtain⟨rfl,rfl⟩:=trodVars_none hV;clear hA0 hval0;simp only [List.append_nil]at hW';have hlt:∀ x ∈ p,x.block<W.heap.size:=fun x hx=>by simpa using hW'.lt x (by simpa using hx)
 obtain⟨sa,cs,ts,rfl,hzw,hz⟩:=open_sts Tryz.underlying70 cellsStep (fun n cs x h=>open_st5 Tryz.underlying72 cellsStep rfl rfl rfl rfl rfl (by kernel_rfl) (by kernel_rfl) (by kernel_rfl) (by kernel_rfl) (by kernel_rfl) Tryz.underlying3 Tryz.underlying35 Tryz.underlying25 Tryz.underlying25 Tryz.underlying2 h) (hval 0 70 v0 rfl rfl) h0;refine(plays13_W W sa ts.length cs ts hz hzw rfl).mono fun e W' ⟨he,hb⟩=>?_;subst he;have g0:=Below.trod Tryz.laidOut (by kernel_rfl) (of_decide_eq_true (by kernel_rfl)) h0 hb hlt;exact⟨_,rfl,⟨_,_,_,[],_,[],hW',trodAll_mk1 (shut_bool Tryz.underlying4 _),trodAll_mk1 g0,rfl,hb.frame _,fun h=>by cases h⟩⟩
theorem named:Tryz.pinned.checked.prog.funcNamed Rows.tapPlaysRow.func=some 6:=by kernel_rfl
theorem joined:joinedFacts Tryz.pinned.checked.prog 6 Tryz.f6 Rows.tapPlaysSpec Rows.tapPlaysRow=true:=by kernel_rfl
theorem inst:Tryz.f6.isInstance Tryz.pinned.checked.prog Rows.tapPlaysRow.origin Rows.tapPlaysRow.targs:=of_decide_eq_true (by kernel_rfl)
theorem wrap:Tryz.f6.isWrapper Tryz.pinned.checked.prog Rows.tapPlaysRow.wrapper Rows.tapPlaysRow.mainSum:=by unfold Func.isWrapper;first | (rw [if_pos (by decide +kernel)];kernel_rfl) | (rw [if_neg (by decide +kernel)];exact⟨rfl,rfl⟩)
theorem over:Rows.tapPlaysRow.holds Tryz.pinned (OpenSpec.ofChange Rows.tapPlaysSpec) :=
 OpenClaim.holds_of_wide 6 Tryz.f6 rfl rfl rfl rfl rfl rfl rfl ⟨rfl,rfl,rfl,rfl,rfl⟩ rfl rfl rfl rfl rfl named Tryz.func6 joined inst wrap (fun os started H enc _=>lifted os started H enc)
theorem tapPlays_holds:Rows.TapPlaysSaid:=over
#print axioms tapPlays_holds
end Go.Proofs.YthaliljaglldjaaGreat.tapPlays
