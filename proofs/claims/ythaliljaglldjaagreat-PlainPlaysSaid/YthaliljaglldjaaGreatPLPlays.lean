/- PlainPlays: for every number of sides and every script the law returns true. No condition beyond what the given statement says of its arguments. -/
import Derived.Test.YthaliljaglldjaaGreatRows
import Derived.Test.YthaliljaglldjaaGreatmBU
namespace Go.Proofs.YthaliljaglldjaaGreat.plainPlays
open Go.ChangeShapes Go.WideShapes Go.ChangeAt Go.RowKit Go.Joins
theorem own:ownKnob Tryz.prog.godebug=none:=by kernel_rfl
set_option maxRecDepth 100000 in
theorem lifted (os:Os) (started:os.Started) (H:Type) (enc:TypeId × Value->H) :
 ReturnsInHanded {} Tryz.checked os 4 .any (Rows.plainPlaysSpec.pre6 enc Tryz.prog Tryz.f4 Rows.plainPlaysRow.domain false) (Rows.plainPlaysSpec.post enc Tryz.prog Tryz.f4 false true false false):=by
 refine returnsInHanded_of_change (C:=Tryz.checked) own started (by kernel_rfl) Tryz.func4
  (ChangeSpec.witness6 (enc:=enc) (C:=Tryz.checked) false ⟨#[],#[.int .i64 0,.slice none 0 0],[]⟩ 8 (by kernel_rfl) (by kernel_rfl) (by kernel_rfl) (by kernel_rfl)) ?_
 intro W base args ds gs before hval0 hW _ _;have hval:∀ (j:Nat) t v,Tryz.f4.params[j]? = some t->args[j]? = some v->Value.okWide Tryz.prog W .any base t v:=hval0;have hW':=hW;obtain⟨p,q,hA0,hV,rfl,_,_⟩:=hW;have hA:DataW.TrodAll enc Tryz.prog W 0 (fun _=>true) true Tryz.f4.params.toList args.toList ds p:=hA0;rw [Tryz.params4]at hA hval;obtain⟨v0,v1,d0,d1,p0,p1,rfl,rfl,rfl,h0,h1⟩:=trodAll_two hA;obtain⟨rfl,rfl⟩:=trodVars_none hV;clear hA0 hval0;simp only [List.append_nil]at hW';have hlt:∀ x ∈ p0 ++ p1,x.block<W.heap.size:=fun x hx=>by simpa using hW'.lt x (by simpa using hx)
 obtain⟨n,rfl,-,-,-⟩:=open_int Tryz.underlying3 (hval 0 3 v0 rfl rfl) h0;obtain⟨sa,cs,ts,rfl,hzw,hz⟩:=open_sts8 (hval 1 52 v1 rfl rfl) h1;refine(plays8_W W n sa ts.length cs ts hz hzw rfl).mono fun e W' ⟨he,hb⟩=>?_;subst he;have g0:=Below.trod Tryz.laidOut (by kernel_rfl) (of_decide_eq_true (by kernel_rfl)) h0 hb fun x hx=>hlt x (List.mem_append.2 (.inl hx));have g1:=Below.trod Tryz.laidOut (by kernel_rfl) (of_decide_eq_true (by kernel_rfl)) h1 hb fun x hx=>hlt x (List.mem_append.2 (.inr hx));exact⟨_,rfl,⟨_,_,_,[],_,[],hW',trodAll_mk1 (shut_bool Tryz.underlying4 _),trodAll_mk2 g0 g1,rfl,hb.frame _,fun h=>by cases h⟩⟩
theorem named:Tryz.pinned.checked.prog.funcNamed Rows.plainPlaysRow.func=some 4:=by kernel_rfl
theorem joined:joinedFacts Tryz.pinned.checked.prog 4 Tryz.f4 Rows.plainPlaysSpec Rows.plainPlaysRow=true:=by kernel_rfl
theorem inst:Tryz.f4.isInstance Tryz.pinned.checked.prog Rows.plainPlaysRow.origin Rows.plainPlaysRow.targs:=of_decide_eq_true (by kernel_rfl)
theorem wrap:Tryz.f4.isWrapper Tryz.pinned.checked.prog Rows.plainPlaysRow.wrapper Rows.plainPlaysRow.mainSum:=by unfold Func.isWrapper;first | (rw [if_pos (by decide +kernel)];kernel_rfl) | (rw [if_neg (by decide +kernel)];exact⟨rfl,rfl⟩)
theorem over:Rows.plainPlaysRow.holds Tryz.pinned (OpenSpec.ofChange Rows.plainPlaysSpec) :=
 OpenClaim.holds_of_wide 4 Tryz.f4 rfl rfl rfl rfl rfl rfl rfl ⟨rfl,rfl,rfl,rfl,rfl⟩ rfl rfl rfl rfl rfl named Tryz.func4 joined inst wrap (fun os started H enc _=>lifted os started H enc)
theorem plainPlays_holds:Rows.PlainPlaysSaid:=over
#print axioms plainPlays_holds
end Go.Proofs.YthaliljaglldjaaGreat.plainPlays
