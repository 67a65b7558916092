/- WorldSides: for every tree, every list of edges and any three sides the law returns true. No condition beyond what the given statement says of its arguments. -/
import Derived.Test.YtkbemnhgohokkaaRows
import Derived.Test.YtkbemnhgohokkaaSidesW
import Derived.WalkKit
import Derived.ProofKit
import Derived.OpenShut
import Derived.ChangeSame
import Derived.RowKit
namespace Go.Proofs.Ytkbemnhgohokkaa.worldSides
open Go.ChangeShapes Go.WideShapes Go.ChangeAt Go.RowKit

theorem own : ownKnob Try.prog.godebug = none := by kernel_rfl
theorem cellsSide : Try.prog.cellsOf 25 = 1 := by kernel_rfl
theorem cellsInt : Try.prog.cellsOf 3 = 1 := by kernel_rfl
theorem cellsA3 : Try.prog.cellsOf 26 = 3 := by kernel_rfl

set_option maxRecDepth 100000 in
theorem lifted (os : Os) (started : os.Started) (H : Type) (enc : TypeId × Value → H) :
    ReturnsInHanded {} Try.checked os 4 .any (Rows.worldSidesSpec.pre6 enc Try.prog Try.f4 Rows.worldSidesRow.domain false) (Rows.worldSidesSpec.post enc Try.prog Try.f4 false true false false) := by
  refine returnsInHanded_of_change (C := Try.checked) own started (by kernel_rfl) Try.func4
    (ChangeSpec.witness6 (enc := enc) (C := Try.checked) false ⟨#[], #[.slice none 0 0, .slice none 0 0, .agg #[.int .i64 0, .int .i64 0, .int .i64 0]], []⟩ 8 (by kernel_rfl) (by kernel_rfl) (by kernel_rfl) (by kernel_rfl)) ?_
  intro W base args ds gs before hval0 hW _ _
  have hval : ∀ (j : Nat) t v, Try.f4.params[j]? = some t → args[j]? = some v → Value.okWide Try.prog W .any base t v := hval0
  have hW' := hW
  obtain ⟨p, q, hA0, hV, rfl, _, _⟩ := hW
  have hA : DataW.TrodAll enc Try.prog W 0 (fun _ => true) true Try.f4.params.toList args.toList ds p := hA0
  rw [Try.params4] at hA hval
  obtain ⟨v0, v1, v2, d0, d1, d2, p0, p1, p2, rfl, rfl, rfl, h0, h1, h2⟩ := trodAll_three hA
  obtain ⟨rfl, rfl⟩ := trodVars_none hV
  clear hA0 hval0
  simp only [List.append_nil, List.append_assoc] at hW'
  have hlt : ∀ x ∈ p0 ++ (p1 ++ p2), x.block < W.heap.size := fun x hx => by simpa using hW'.lt x (by simpa using hx)
  obtain ⟨pa, c0, xs, rfl, hl0, -, hx⟩ := open_nums Try.underlying23 Try.underlying25 cellsSide (hval 0 23 v0 rfl rfl) h0
  obtain ⟨qa, c1, ys, rfl, hl1, -, hy⟩ := open_nums Try.underlying24 Try.underlying3 cellsInt (hval 1 24 v1 rfl rfl) h1
  obtain ⟨s0, s1, s2, rfl⟩ := open_arr3 Try.underlying26 Try.underlying25 cellsSide cellsA3 (hval 2 26 v2 rfl rfl) h2
  refine (sides_walk W pa qa c0 c1 ys.length xs ys hx.side hy s0 s1 s2 rfl).mono fun e W' ⟨he, hb⟩ => ?_
  subst he
  have g0 := Below.trod Try.laidOut (by kernel_rfl) (of_decide_eq_true (by kernel_rfl)) h0 hb (fun x hx => hlt x (by simp [hx]))
  have g1 := Below.trod Try.laidOut (by kernel_rfl) (of_decide_eq_true (by kernel_rfl)) h1 hb (fun x hx => hlt x (by simp [hx]))
  have g2 := Below.trod Try.laidOut (by kernel_rfl) (of_decide_eq_true (by kernel_rfl)) h2 hb (fun x hx => hlt x (by simp [hx]))
  exact ⟨_, rfl, ⟨_, _, _, [], _, [], hW', trodAll_mk1 (shut_bool Try.underlying4 _), trodAll_mk3 g0 g1 g2, rfl, hb.frame _, fun h => by cases h⟩⟩

theorem over : Rows.worldSidesRow.holds Try.pinned (OpenSpec.ofChange Rows.worldSidesSpec) :=
  OpenClaim.holds_of_wide 4 Try.f4 rfl rfl rfl rfl rfl rfl rfl ⟨rfl, rfl, rfl, rfl, rfl⟩ rfl rfl rfl rfl rfl (by kernel_rfl) Try.func4 (by kernel_rfl)
    (of_decide_eq_true (by kernel_rfl)) (by unfold Func.isWrapper; first | (rw [if_pos (by decide +kernel)]; kernel_rfl) | (rw [if_neg (by decide +kernel)]; exact ⟨rfl, rfl⟩))
    (fun os started H enc _ => lifted os started H enc)

theorem worldSides_holds : Rows.WorldSidesSaid := over
#print axioms worldSides_holds
end Go.Proofs.Ytkbemnhgohokkaa.worldSides
