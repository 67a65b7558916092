/- Facet. -/
import Derived.Test.YtmefjkggibbhoaaGreatMake
import Derived.Test.YtmefjkggibbhoaaGreatWalkB
import Derived.Test.YtmefjkggibbhoaaGreatWalkD
import Derived.Deep.QuietTactic
import Derived.BigQuiet
namespace Go.Proofs.YtmefjkggibbhoaaGreat
open Go.RowKit Go.ChangeMaps Go.MapKept
variable {w : World} {p : Nat} {M : WM} {F : Nat → Prop}

set_option maxHeartbeats 1000000 in
set_option maxRecDepth 8000 in
theorem Facet_what (hW : IsW w p M F) {r s v : Int} {t : Th} (hr : (Lit.int .i64 r).wf = true) (ht : M.at r = some t) (hv : AbleIs M 63 r v) (hs : s = v) :
    Calls Tryz.prog 35 #[.pointer (some ⟨p, 0, none⟩), .int .i64 r, .int .u8 s] w fun e w' => e = .returned (.tuple #[.int .i64 0, .int .i64 70]) ∧ Below w.heap.size w w' := by
  subst hs
  have HW : Hid (IsW w p M F) := hW
  have Hv : Hid (AbleIs M 63 r s) := hv
  have hIs : (M.at r).isSome = true := by rw [ht]; rfl
  clear hW hv
  go_enter Tryz.func35, Tryz.ntmps35
  go_wp2_with fail
  refine (none_W HW.out).mono ?_
  rintro e _ ⟨rfl, rfl⟩
  go_wp2_with fail
  refine (Is_W HW.out hr).mono ?_
  rw [hIs]
  rintro e _ ⟨rfl, rfl⟩
  go_wp2_with fail
  refine (Able_W HW.out hr Hv.out).mono ?_
  rintro e w1 ⟨rfl, hb1⟩
  have HB : Hid (Below w.heap.size w w1) := hb1
  clear hb1
  go_wp2_with fail
  refine (Kind_W (HW.out.below HB.out) hr).mono ?_
  rintro e _ ⟨rfl, rfl⟩
  go_wp2_with fail
  all_goals (go_ret2; exact ⟨rfl, HB.out⟩)

/-- A facet. -/
abbrev ft (r s : Int) : Th := lt 14 0 0 0 0 0 r 0 s false

set_option maxHeartbeats 1000000 in
set_option maxRecDepth 8000 in
theorem Facet_there (hW : IsW w p M F) {r s v q : Int} {t : Th} (hr : (Lit.int .i64 r).wf = true) (hsw : (Lit.int .u8 s).wf = true) (ht : M.at r = some t) (h14 : t.kind ≠ 14) (hv : AbleIs M 63 r v) (hs : s ≠ v)
    (hand : bits BinOp.andNot .u8 s v = 0) (hf : M.find r s = some q) :
    Calls Tryz.prog 35 #[.pointer (some ⟨p, 0, none⟩), .int .i64 r, .int .u8 s] w fun e w' => e = .returned (.tuple #[.int .i64 q, .int .i64 0]) ∧ Below w.heap.size w w' := by
  have HW : Hid (IsW w p M F) := hW
  have Hv : Hid (AbleIs M 63 r v) := hv
  have hIs : (M.at r).isSome = true := by rw [ht]; rfl
  have hK : (M.kindOf r == 14) = false := by simp [WM.kindOf, ht, h14]
  have hsv : (s == v) = false := by simpa using hs
  have Hf : Hid (M.find r s = some q) := hf
  clear hW hv hf ht
  go_enter Tryz.func35, Tryz.ntmps35
  go_wp2_with fail
  refine (none_W HW.out).mono ?_
  rintro e _ ⟨rfl, rfl⟩
  go_wp2_with fail
  refine (Is_W HW.out hr).mono ?_
  rw [hIs]
  rintro e _ ⟨rfl, rfl⟩
  go_wp2_with fail
  refine (Able_W HW.out hr Hv.out).mono ?_
  rintro e w1 ⟨rfl, hb1⟩
  have HB : Hid (Below w.heap.size w w1) := hb1
  clear hb1
  go_wp2_with fail
  refine (Kind_W (HW.out.below HB.out) hr).mono ?_
  rintro e _ ⟨rfl, rfl⟩
  go_wp2_with fail
  refine (Find_W (HW.out.below HB.out) hr hsw).mono ?_
  rw [Hf.out]
  rintro e _ ⟨rfl, rfl⟩
  go_wp2_with fail
  go_ret2
  exact ⟨rfl, HB.out⟩

set_option maxHeartbeats 1000000 in
set_option maxRecDepth 8000 in
theorem Facet_new (hW : IsW w p M F) {r s v : Int} {t : Th} (hr : (Lit.int .i64 r).wf = true) (hsw : (Lit.int .u8 s).wf = true) (ht : M.at r = some t) (h14 : t.kind ≠ 14) (hv : AbleIs M 63 r v) (hs : s ≠ v)
    (hand : bits BinOp.andNot .u8 s v = 0) (hf : M.find r s = none) (hs0 : 0 ≤ s ∧ s ≤ 255) (hl : M.last + 1 ≤ 1099511627776) :
    Calls Tryz.prog 35 #[.pointer (some ⟨p, 0, none⟩), .int .i64 r, .int .u8 s] w fun e w' => e = .returned (.tuple #[.int .i64 (M.last + 1), .int .i64 0]) ∧ ∃ F', IsW w' p (M.add (ft r s)) F' ∧ Grew F w F' w' := by
  have a : AddOk M (ft r s) := {
    wf := ⟨⟨by show (1 : Int) ≤ 14; decide, by show (14 : Int) ≤ 16; decide⟩, hr, rfl, hs0⟩
    last := hl
    home := fun h => absurd rfl h
    made := fun h => absurd rfl h
    wrap := fun _ => ⟨t, ht⟩
    gate := fun h => absurd (show (14 : Int) = 15 from h) (by decide)
    purse := fun h => absurd (show (14 : Int) = 9 from h) (by decide)
    facet := fun _ => hf }
  have HA : Hid (AddOk M (ft r s)) := a
  have HW : Hid (IsW w p M F) := hW
  have Hv : Hid (AbleIs M 63 r v) := hv
  have hIs : (M.at r).isSome = true := by rw [ht]; rfl
  have hK : (M.kindOf r == 14) = false := by simp [WM.kindOf, ht, h14]
  have hsv : (s == v) = false := by simpa using hs
  have Hf : Hid (M.find r s = none) := hf
  clear hW hv hf ht a hl
  go_enter Tryz.func35, Tryz.ntmps35
  go_wp2_with fail
  refine (none_W HW.out).mono ?_
  rintro e _ ⟨rfl, rfl⟩
  go_wp2_with fail
  refine (Is_W HW.out hr).mono ?_
  rw [hIs]
  rintro e _ ⟨rfl, rfl⟩
  go_wp2_with fail
  refine (Able_W HW.out hr Hv.out).mono ?_
  rintro e w1 ⟨rfl, hb1⟩
  have HB : Hid (Below w.heap.size w w1) := hb1
  clear hb1
  go_wp2_with fail
  refine (Kind_W (HW.out.below HB.out) hr).mono ?_
  rintro e _ ⟨rfl, rfl⟩
  go_wp2_with fail
  refine (Find_W (HW.out.below HB.out) hr hsw).mono ?_
  rw [Hf.out]
  rintro e _ ⟨rfl, rfl⟩
  go_wp2_with fail
  refine (lay_W (HW.out.below HB.out) HA.out (deep_lt _ NoB _ _ _ _ _ _ _ _ _ _) (fun _ h => h.elim)).mono ?_
  rintro e w5 ⟨rfl, hW5, hk5⟩
  have HF : Hid (∃ F', IsW w5 p (M.add (ft r s)) F' ∧ Grew F w F' w5) := ⟨_, hW5, Below.keeps HB.out hk5, by
    have := HB.out.size
    rintro b ((h | h) | h)
    · exact .inl h
    · exact h.elim
    · right; omega⟩
  clear hW5 hk5
  go_wp2_with fail
  go_ret2
  exact ⟨rfl, HF.out⟩
end Go.Proofs.YtmefjkggibbhoaaGreat
