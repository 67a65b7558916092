/- PursePlays: for every script the law returns true. No condition beyond what the given statement says of its arguments. -/
import Derived.Test.YthaliljaglldjaaGreatRows
import Derived.Test.YthaliljaglldjaaGreatmBR
import Derived.Test.YthaliljaglldjaaGreatmBP
import Derived.Deep.Slices
import Derived.Lib.SmallJoins
import Derived.WalkKit
import Derived.ProofKit
import Derived.OpenShut
import Derived.ChangeSame
import Derived.RowKit
namespace Go.Proofs.YthaliljaglldjaaGreat.pursePlays
open Go.ChangeShapes Go.WideShapes Go.ChangeAt Go.RowKit Go.Joins
theorem own:ownKnob Tryz.prog.godebug = none:=by kernel_rfl
theorem cellsStep:Tryz.prog.cellsOf 62 = 5:=by kernel_rfl
set_option maxRecDepth 100000 in
theorem lifted (os:Os) (started:os.Started) (H:Type) (enc:TypeId × Value→H) :
 ReturnsInHanded {} Tryz.checked os 5 .any (Rows.pursePlaysSpec.pre6 enc Tryz.prog Tryz.f5 Rows.pursePlaysRow.domain false) (Rows.pursePlaysSpec.post enc Tryz.prog Tryz.f5 false true false false):=by
 refine returnsInHanded_of_change (C:=Tryz.checked) own started (by kernel_rfl) Tryz.func5
  (ChangeSpec.witness6 (enc:=enc) (C:=Tryz.checked) false ⟨#[],#[.slice none 0 0],[]⟩ 8 (by kernel_rfl) (by kernel_rfl) (by kernel_rfl) (by kernel_rfl)) ?_
 intro W base args ds gs before hval0 hW _ _
 have hval:∀ (j:Nat) t v,Tryz.f5.params[j]? = some t→args[j]? = some v→Value.okWide Tryz.prog W .any base t v:=hval0
 have hW':=hW
 obtain ⟨p,q,hA0,hV,rfl,_,_⟩:=hW
 have hA:DataW.TrodAll enc Tryz.prog W 0 (fun _=>true) true Tryz.f5.params.toList args.toList ds p:=hA0
 rw [Tryz.params5] at hA hval
 obtain ⟨v0,d0,rfl,rfl,h0⟩:=trodAll_one hA
 obtain ⟨rfl,rfl⟩:=trodVars_none hV
 clear hA0 hval0
 simp only [List.append_nil] at hW'
 have hlt:∀ x ∈ p,x.block < W.heap.size:=fun x hx=>by simpa using hW'.lt x (by simpa using hx)
 obtain ⟨sa,cs,ts,rfl,hzw,hz⟩:=open_sts Tryz.underlying57 cellsStep (fun n cs x h=>open_st5 Tryz.underlying62 cellsStep rfl rfl rfl rfl rfl (by kernel_rfl) (by kernel_rfl) (by kernel_rfl) (by kernel_rfl) (by kernel_rfl) Tryz.underlying3 Tryz.underlying35 Tryz.underlying25 Tryz.underlying25 Tryz.underlying2 h) (hval 0 57 v0 rfl rfl) h0
 refine (plays_W W sa ts.length cs ts hz hzw rfl).mono fun e W' ⟨he,hb⟩=>?_
 subst he
 have g0:=Below.trod Tryz.laidOut (by kernel_rfl) (of_decide_eq_true (by kernel_rfl)) h0 hb hlt
 exact ⟨_,rfl,⟨_,_,_,[],_,[],hW',trodAll_mk1 (shut_bool Tryz.underlying4 _),trodAll_mk1 g0,rfl,hb.frame _,fun h=>by cases h⟩⟩
theorem over:Rows.pursePlaysRow.holds Tryz.pinned (OpenSpec.ofChange Rows.pursePlaysSpec) :=
 OpenClaim.holds_of_wide 5 Tryz.f5 rfl rfl rfl rfl rfl rfl rfl ⟨rfl,rfl,rfl,rfl,rfl⟩ rfl rfl rfl rfl rfl (by kernel_rfl) Tryz.func5 (by kernel_rfl)
  (of_decide_eq_true (by kernel_rfl)) (by unfold Func.isWrapper;first | (rw [if_pos (by decide +kernel)];kernel_rfl) | (rw [if_neg (by decide +kernel)];exact ⟨rfl,rfl⟩))
  (fun os started H enc _=>lifted os started H enc)
theorem pursePlays_holds:Rows.PursePlaysSaid:=over
#print axioms pursePlays_holds
end Go.Proofs.YthaliljaglldjaaGreat.pursePlays
