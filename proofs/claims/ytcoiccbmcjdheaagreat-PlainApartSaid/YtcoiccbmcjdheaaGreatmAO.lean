/- A part of the proof, several texts in one: FormV, WalkE. -/
import Derived.Test.YtcoiccbmcjdheaaGreatmAN
import Derived.Test.YtcoiccbmcjdheaaGreatmAD
import Derived.Deep.QuietTactic
import Derived.BigQuiet
import Derived.Test.YtcoiccbmcjdheaaGreatmAE
import Derived.StillTailTactics
/- form: a What that is one, its values any. Printed by gen_formv.py. -/
namespace Go.Proofs.YtcoiccbmcjdheaaGreat
open Go.RowKit Go.ChangeMaps Go.MapKept
variable {w : World} {p : Nat} {M : WM} {F : Nat → Prop}

def blankB (vk vn : Int) (s : ByteArray) (n : Nat) (r : Int) : Bool := vk == 0 && (vn == 0 && (s == ⟨#[]⟩ && (n == 0 && r == 0)))
set_option maxRecDepth 8000 in
theorem blank_G (w : World) (vk vn : Int) (s : ByteArray) (pa : Option Addr) (n c : Nat) (r : Int) : Calls Tryz.prog 92 #[.agg #[.int .u8 vk, .int .i64 vn, .string s, .slice pa n c, .int .i64 r]] w fun e w' => e = .returned (.bool (blankB vk vn s n r)) ∧ Below w.heap.size w w' := by
  by_cases q0 : vk = 0
  rotate_left
  · have q0' : (vk == 0) = false := by simpa using q0
    have hb : blankB vk vn s n r = false := by simp [blankB, q0']
    rw [hb]
    clear hb q0
    go_enter Tryz.func92, Tryz.ntmps92
    go_wp2
    go_ret
    exact ⟨rfl, by go_grown⟩
  subst q0
  by_cases q1 : vn = 0
  rotate_left
  · have q1' : (vn == 0) = false := by simpa using q1
    have hb : blankB 0 vn s n r = false := by simp [blankB, q1']
    rw [hb]
    clear hb q1
    go_enter Tryz.func92, Tryz.ntmps92
    go_wp2
    go_ret
    exact ⟨rfl, by go_grown⟩
  subst q1
  by_cases q2 : s = ⟨#[]⟩
  rotate_left
  · have q2' : (s == ⟨#[]⟩) = false := by
      cases h : s == ⟨#[]⟩ with
      | true => exact absurd ((Go.MapKept.bytes_beq _ _).1 h) q2
      | false => rfl
    have hb : blankB 0 0 s n r = false := by simp [blankB, q2']
    rw [hb]
    have q2l : ¬ s.toList = [] := fun h => q2 (by
      rw [ByteArray.toList_eq] at h
      obtain ⟨⟨d⟩⟩ := s
      simp only at h
      rw [h])
    clear hb q2
    go_enter Tryz.func92, Tryz.ntmps92
    go_wp2
    go_ret
    exact ⟨rfl, by go_grown⟩
  subst q2
  by_cases q3 : n = 0
  rotate_left
  · have q3' : ((n : Int) == 0) = false := by
      have : (n : Int) ≠ 0 := by omega
      simpa using this
    have hb : blankB 0 0 ⟨#[]⟩ n r = false := by simp [blankB, q3]
    rw [hb]
    clear hb q3
    go_enter Tryz.func92, Tryz.ntmps92
    go_wp2
    go_ret
    exact ⟨rfl, by go_grown⟩
  subst q3
  by_cases q4 : r = 0
  rotate_left
  · have q4' : (r == 0) = false := by simpa using q4
    have hb : blankB 0 0 ⟨#[]⟩ 0 r = false := by simp [blankB, q4']
    rw [hb]
    clear hb q4
    go_enter Tryz.func92, Tryz.ntmps92
    go_wp2
    go_ret
    exact ⟨rfl, by go_grown⟩
  subst q4
  go_enter Tryz.func92, Tryz.ntmps92
  go_wp2
  go_ret
  exact ⟨rfl, by go_grown⟩

/-- What form asks of the calls on a thing's values. -/
def VYes (w : World) (a : Array Value) : Prop := ∀ w', Below w.heap.size w w' → Calls Tryz.prog 27 #[.agg a] w' fun e w'' => e = .returned (.bool true) ∧ Below w'.heap.size w' w''
def OfYes (w : World) (v : Value) : Prop := ∀ w', Below w.heap.size w w' → Calls Tryz.prog 21 #[v] w' fun e w'' => (∃ pr nr cr, e = .returned (.tuple #[.agg #[.int .u8 3, .int .i64 0, .string ⟨#[]⟩, .slice pr nr cr, .int .i64 0], .int .i64 0])) ∧ Below w'.heap.size w' w''
theorem vYes {v : Val} {raw : Value} (hS : SlAt w F raw v.l) (hm : mayV v = true) : VYes w (vcs v raw) := fun w' hb => by
  have := vMay_G (hS.on hb) (v := v)
  rwa [hm] at this
theorem vYes0 : VYes w #[.int .u8 0, .int .i64 0, .string ⟨#[]⟩, .slice none 0 0, .int .i64 0] := fun w' _ => vMay_W w' 0 0 (.inl ⟨rfl, rfl⟩)
theorem ofYes0 : OfYes w (.slice none 0 0) := fun w' _ => (vOf_W w').mono fun _ _ h => ⟨⟨none, 0, 0, h.1⟩, h.2⟩
theorem ofYes {l : List Val} {s : Value} (hS : SlAt w F s l) (hl : l.length ≤ 1024) (ho : ofE l = 0) : OfYes w s := fun w' hb => (Of_G l s (hS.on hb) (by omega)).mono fun _ _ h => by
  obtain ⟨h1, ⟨-, raw', h2, h3⟩ | ⟨h2, -⟩⟩ := h
  · obtain ⟨pr, cr, rfl⟩ := h3.form
    exact ⟨⟨pr, _, cr, h2⟩, h1⟩
  · exact absurd ho h2

set_option maxHeartbeats 2000000 in
set_option maxRecDepth 8000 in
theorem formV_1 (hW : IsW w p M F) {h : Int} {vk vn vr : Int} {vstr : ByteArray} {pv : Option Addr} {vl cv : Nat} (hs : sideB M h = true) (hV : VYes w #[.int .u8 vk, .int .i64 vn, .string vstr, .slice pv vl cv, .int .i64 vr]) (hO : OfYes w (.slice none 0 0)) : Calls Tryz.prog 71 #[.pointer (some ⟨p, 0, none⟩), .agg #[.int .u8 1, .int .i64 h, .int .u8 vk, .int .i64 vn, .string vstr, .slice pv vl cv, .int .i64 vr, .slice none 0 0, .int .i64 0, .int .i64 0, .int .i64 0, .int .i64 0, .int .u8 0, .bool false, .slice none 0 0, .slice none 0 0]] w fun e w' => e = .returned (.bool true) ∧ Below w.heap.size w w' := by
  have HW : Hid (IsW w p M F) := hW
  have HV : Hid (VYes w #[.int .u8 vk, .int .i64 vn, .string vstr, .slice pv vl cv, .int .i64 vr]) := hV
  have HO : Hid (OfYes w (.slice none 0 0)) := hO
  clear hW hV hO
  have Hbl := (show Hid (∀ w, Calls Tryz.prog 92 #[.agg #[.int .u8 vk, .int .i64 vn, .string vstr, .slice pv vl cv, .int .i64 vr]] w fun e w' => e = .returned (.bool (blankB vk vn vstr vl vr)) ∧ Below w.heap.size w w') from fun w => blank_G w vk vn vstr pv vl cv vr)
  cases hbl : blankB vk vn vstr vl vr
  all_goals (rw [hbl] at Hbl; clear hbl)
  · go_enter Tryz.func71, Tryz.ntmps71
    go_wp2_with fail
    refine (bare_1 _ h vn vr 0 0 0 0 vk 0 vstr false pv none none none vl cv 0 0 0 0 0 0).mono ?_
    rintro e w1 ⟨rfl, hb1⟩
    have B1 := below_blk hb1 (blk_new _ _)
    obtain ⟨a0, a1, a2, a3, a4, a5, a6, a7, a8, a9, a10, a11, a12, a13, a14, a15⟩ := cells16 B1
    have hz1 : w.heap.size < w1.heap.size := by have := hb1.size; simp at this; omega
    have HB1 : Hid (Below w.heap.size w w1) := ((Below.refl _ _).alloc (Nat.le_refl _) _).trans (hb1.mono (by simp; try omega))
    clear hb1
    go_wp2_with fail
    refine Calls.mono (Hbl.out _) ?_
    rintro e w2 ⟨rfl, hb2⟩
    have B2 := below_blk hb2 (blk_old _ _ B1)
    clear a0 a1 a2 a3 a4 a5 a6 a7 a8 a9 a10 a11 a12 a13 a14 a15
    obtain ⟨a0, a1, a2, a3, a4, a5, a6, a7, a8, a9, a10, a11, a12, a13, a14, a15⟩ := cells16 B2
    have hz2 : w.heap.size < w2.heap.size := by have := hb2.size; simp at this; omega
    have HB2 : Hid (Below w.heap.size w w2) := (HB1.out.alloc (by first | omega | (simp; try omega)) _).trans (hb2.mono (by first | omega | (simp; try omega)))
    clear hb2 B1 HB1 hz1
    go_wp2_with fail
    refine (side_W (HW.out.below HB2.out) h).mono ?_
    rw [hs]
    rintro e _ ⟨rfl, rfl⟩
    go_wp2_with fail
    refine Calls.mono (HV.out _ HB2.out) ?_
    rintro e w3 ⟨rfl, hb3⟩
    have B3 := below_blk hb3 B2
    clear a0 a1 a2 a3 a4 a5 a6 a7 a8 a9 a10 a11 a12 a13 a14 a15
    obtain ⟨a0, a1, a2, a3, a4, a5, a6, a7, a8, a9, a10, a11, a12, a13, a14, a15⟩ := cells16 B3
    have hz3 : w.heap.size < w3.heap.size := by have := hb3.size; omega
    have HB3 : Hid (Below w.heap.size w w3) := HB2.out.trans (hb3.mono (by first | omega | (simp; try omega)))
    clear hb3 B2 HB2 hz2
    go_wp2_with fail
    refine Calls.mono (HO.out _ HB3.out) ?_
    rintro e w4 ⟨⟨pr, nr, cr, rfl⟩, hb4⟩
    have B4 := below_blk hb4 B3
    clear a0 a1 a2 a3 a4 a5 a6 a7 a8 a9 a10 a11 a12 a13 a14 a15
    obtain ⟨a0, a1, a2, a3, a4, a5, a6, a7, a8, a9, a10, a11, a12, a13, a14, a15⟩ := cells16 B4
    have hz4 : w.heap.size < w4.heap.size := by have := hb4.size; omega
    have HB4 : Hid (Below w.heap.size w w4) := HB3.out.trans (hb4.mono (by first | omega | (simp; try omega)))
    clear hb4 B3 HB3 hz3
    go_wp2_with fail
    go_rounds 1
    have hB := HB4.out
    have hZ : w.heap.size ≤ w4.heap.size := by omega
    go_ret
    exact ⟨rfl, by go_grown⟩
  · go_enter Tryz.func71, Tryz.ntmps71
    go_wp2_with fail
    refine (bare_1 _ h vn vr 0 0 0 0 vk 0 vstr false pv none none none vl cv 0 0 0 0 0 0).mono ?_
    rintro e w1 ⟨rfl, hb1⟩
    have B1 := below_blk hb1 (blk_new _ _)
    obtain ⟨a0, a1, a2, a3, a4, a5, a6, a7, a8, a9, a10, a11, a12, a13, a14, a15⟩ := cells16 B1
    have hz1 : w.heap.size < w1.heap.size := by have := hb1.size; simp at this; omega
    have HB1 : Hid (Below w.heap.size w w1) := ((Below.refl _ _).alloc (Nat.le_refl _) _).trans (hb1.mono (by simp; try omega))
    clear hb1
    go_wp2_with fail
    refine Calls.mono (Hbl.out _) ?_
    rintro e w2 ⟨rfl, hb2⟩
    have B2 := below_blk hb2 (blk_old _ _ B1)
    clear a0 a1 a2 a3 a4 a5 a6 a7 a8 a9 a10 a11 a12 a13 a14 a15
    obtain ⟨a0, a1, a2, a3, a4, a5, a6, a7, a8, a9, a10, a11, a12, a13, a14, a15⟩ := cells16 B2
    have hz2 : w.heap.size < w2.heap.size := by have := hb2.size; simp at this; omega
    have HB2 : Hid (Below w.heap.size w w2) := (HB1.out.alloc (by first | omega | (simp; try omega)) _).trans (hb2.mono (by first | omega | (simp; try omega)))
    clear hb2 B1 HB1 hz1
    go_wp2_with fail
    refine Calls.mono (Hbl.out _) ?_
    rintro e w3 ⟨rfl, hb3⟩
    have B3 := below_blk hb3 B2
    clear a0 a1 a2 a3 a4 a5 a6 a7 a8 a9 a10 a11 a12 a13 a14 a15
    obtain ⟨a0, a1, a2, a3, a4, a5, a6, a7, a8, a9, a10, a11, a12, a13, a14, a15⟩ := cells16 B3
    have hz3 : w.heap.size < w3.heap.size := by have := hb3.size; omega
    have HB3 : Hid (Below w.heap.size w w3) := HB2.out.trans (hb3.mono (by first | omega | (simp; try omega)))
    clear hb3 B2 HB2 hz2
    go_wp2_with fail
    refine (side_W (HW.out.below HB3.out) h).mono ?_
    rw [hs]
    rintro e _ ⟨rfl, rfl⟩
    go_wp2_with fail
    refine Calls.mono (HV.out _ HB3.out) ?_
    rintro e w4 ⟨rfl, hb4⟩
    have B4 := below_blk hb4 B3
    clear a0 a1 a2 a3 a4 a5 a6 a7 a8 a9 a10 a11 a12 a13 a14 a15
    obtain ⟨a0, a1, a2, a3, a4, a5, a6, a7, a8, a9, a10, a11, a12, a13, a14, a15⟩ := cells16 B4
    have hz4 : w.heap.size < w4.heap.size := by have := hb4.size; omega
    have HB4 : Hid (Below w.heap.size w w4) := HB3.out.trans (hb4.mono (by first | omega | (simp; try omega)))
    clear hb4 B3 HB3 hz3
    go_wp2_with fail
    refine Calls.mono (HO.out _ HB4.out) ?_
    rintro e w5 ⟨⟨pr, nr, cr, rfl⟩, hb5⟩
    have B5 := below_blk hb5 B4
    clear a0 a1 a2 a3 a4 a5 a6 a7 a8 a9 a10 a11 a12 a13 a14 a15
    obtain ⟨a0, a1, a2, a3, a4, a5, a6, a7, a8, a9, a10, a11, a12, a13, a14, a15⟩ := cells16 B5
    have hz5 : w.heap.size < w5.heap.size := by have := hb5.size; omega
    have HB5 : Hid (Below w.heap.size w w5) := HB4.out.trans (hb5.mono (by first | omega | (simp; try omega)))
    clear hb5 B4 HB4 hz4
    go_wp2_with fail
    go_rounds 1
    have hB := HB5.out
    have hZ : w.heap.size ≤ w5.heap.size := by omega
    go_ret
    exact ⟨rfl, by go_grown⟩

set_option maxHeartbeats 2000000 in
set_option maxRecDepth 8000 in
theorem formV_2 (hW : IsW w p M F) {h : Int} {ps : Option Addr} {nl cs : Nat} (hs : sideB M h = true) (hV : VYes w #[.int .u8 0, .int .i64 0, .string ⟨#[]⟩, .slice none 0 0, .int .i64 0]) (hO : OfYes w (.slice ps nl cs)) : Calls Tryz.prog 71 #[.pointer (some ⟨p, 0, none⟩), .agg #[.int .u8 2, .int .i64 h, .int .u8 0, .int .i64 0, .string ⟨#[]⟩, .slice none 0 0, .int .i64 0, .slice ps nl cs, .int .i64 0, .int .i64 0, .int .i64 0, .int .i64 0, .int .u8 0, .bool false, .slice none 0 0, .slice none 0 0]] w fun e w' => e = .returned (.bool true) ∧ Below w.heap.size w w' := by
  have HW : Hid (IsW w p M F) := hW
  have HV : Hid (VYes w #[.int .u8 0, .int .i64 0, .string ⟨#[]⟩, .slice none 0 0, .int .i64 0]) := hV
  have HO : Hid (OfYes w (.slice ps nl cs)) := hO
  clear hW hV hO
  go_enter Tryz.func71, Tryz.ntmps71
  go_wp2_with fail
  refine (bare_2 _ h 0 0 0 0 0 0 0 0 ⟨#[]⟩ false none ps none none 0 0 nl cs 0 0 0 0).mono ?_
  rintro e w1 ⟨rfl, hb1⟩
  have B1 := below_blk hb1 (blk_new _ _)
  obtain ⟨a0, a1, a2, a3, a4, a5, a6, a7, a8, a9, a10, a11, a12, a13, a14, a15⟩ := cells16 B1
  have hz1 : w.heap.size < w1.heap.size := by have := hb1.size; simp at this; omega
  have HB1 : Hid (Below w.heap.size w w1) := ((Below.refl _ _).alloc (Nat.le_refl _) _).trans (hb1.mono (by simp; try omega))
  clear hb1
  go_wp2_with fail
  refine Calls.mono (blank0_W _) ?_
  rintro e w2 ⟨rfl, hb2⟩
  have B2 := below_blk hb2 (blk_old _ _ B1)
  clear a0 a1 a2 a3 a4 a5 a6 a7 a8 a9 a10 a11 a12 a13 a14 a15
  obtain ⟨a0, a1, a2, a3, a4, a5, a6, a7, a8, a9, a10, a11, a12, a13, a14, a15⟩ := cells16 B2
  have hz2 : w.heap.size < w2.heap.size := by have := hb2.size; simp at this; omega
  have HB2 : Hid (Below w.heap.size w w2) := (HB1.out.alloc (by first | omega | (simp; try omega)) _).trans (hb2.mono (by first | omega | (simp; try omega)))
  clear hb2 B1 HB1 hz1
  go_wp2_with fail
  refine Calls.mono (blank0_W _) ?_
  rintro e w3 ⟨rfl, hb3⟩
  have B3 := below_blk hb3 B2
  clear a0 a1 a2 a3 a4 a5 a6 a7 a8 a9 a10 a11 a12 a13 a14 a15
  obtain ⟨a0, a1, a2, a3, a4, a5, a6, a7, a8, a9, a10, a11, a12, a13, a14, a15⟩ := cells16 B3
  have hz3 : w.heap.size < w3.heap.size := by have := hb3.size; omega
  have HB3 : Hid (Below w.heap.size w w3) := HB2.out.trans (hb3.mono (by first | omega | (simp; try omega)))
  clear hb3 B2 HB2 hz2
  go_wp2_with fail
  refine (side_W (HW.out.below HB3.out) h).mono ?_
  rw [hs]
  rintro e _ ⟨rfl, rfl⟩
  go_wp2_with fail
  refine Calls.mono (HV.out _ HB3.out) ?_
  rintro e w4 ⟨rfl, hb4⟩
  have B4 := below_blk hb4 B3
  clear a0 a1 a2 a3 a4 a5 a6 a7 a8 a9 a10 a11 a12 a13 a14 a15
  obtain ⟨a0, a1, a2, a3, a4, a5, a6, a7, a8, a9, a10, a11, a12, a13, a14, a15⟩ := cells16 B4
  have hz4 : w.heap.size < w4.heap.size := by have := hb4.size; omega
  have HB4 : Hid (Below w.heap.size w w4) := HB3.out.trans (hb4.mono (by first | omega | (simp; try omega)))
  clear hb4 B3 HB3 hz3
  go_wp2_with fail
  refine Calls.mono (HO.out _ HB4.out) ?_
  rintro e w5 ⟨⟨pr, nr, cr, rfl⟩, hb5⟩
  have B5 := below_blk hb5 B4
  clear a0 a1 a2 a3 a4 a5 a6 a7 a8 a9 a10 a11 a12 a13 a14 a15
  obtain ⟨a0, a1, a2, a3, a4, a5, a6, a7, a8, a9, a10, a11, a12, a13, a14, a15⟩ := cells16 B5
  have hz5 : w.heap.size < w5.heap.size := by have := hb5.size; omega
  have HB5 : Hid (Below w.heap.size w w5) := HB4.out.trans (hb5.mono (by first | omega | (simp; try omega)))
  clear hb5 B4 HB4 hz4
  go_wp2_with fail
  go_rounds 1
  have hB := HB5.out
  have hZ : w.heap.size ≤ w5.heap.size := by omega
  go_ret
  exact ⟨rfl, by go_grown⟩

set_option maxHeartbeats 2000000 in
set_option maxRecDepth 8000 in
theorem formV_4 (hW : IsW w p M F) {h : Int} {ps : Option Addr} {nl cs : Nat} (hs : sideB M h = true) (hV : VYes w #[.int .u8 0, .int .i64 0, .string ⟨#[]⟩, .slice none 0 0, .int .i64 0]) (hO : OfYes w (.slice ps nl cs)) : Calls Tryz.prog 71 #[.pointer (some ⟨p, 0, none⟩), .agg #[.int .u8 4, .int .i64 h, .int .u8 0, .int .i64 0, .string ⟨#[]⟩, .slice none 0 0, .int .i64 0, .slice ps nl cs, .int .i64 0, .int .i64 0, .int .i64 0, .int .i64 0, .int .u8 0, .bool false, .slice none 0 0, .slice none 0 0]] w fun e w' => e = .returned (.bool true) ∧ Below w.heap.size w w' := by
  have HW : Hid (IsW w p M F) := hW
  have HV : Hid (VYes w #[.int .u8 0, .int .i64 0, .string ⟨#[]⟩, .slice none 0 0, .int .i64 0]) := hV
  have HO : Hid (OfYes w (.slice ps nl cs)) := hO
  clear hW hV hO
  go_enter Tryz.func71, Tryz.ntmps71
  go_wp2_with fail
  refine (bare_4 _ h 0 0 0 0 0 0 0 0 ⟨#[]⟩ false none ps none none 0 0 nl cs 0 0 0 0).mono ?_
  rintro e w1 ⟨rfl, hb1⟩
  have B1 := below_blk hb1 (blk_new _ _)
  obtain ⟨a0, a1, a2, a3, a4, a5, a6, a7, a8, a9, a10, a11, a12, a13, a14, a15⟩ := cells16 B1
  have hz1 : w.heap.size < w1.heap.size := by have := hb1.size; simp at this; omega
  have HB1 : Hid (Below w.heap.size w w1) := ((Below.refl _ _).alloc (Nat.le_refl _) _).trans (hb1.mono (by simp; try omega))
  clear hb1
  go_wp2_with fail
  refine Calls.mono (blank0_W _) ?_
  rintro e w2 ⟨rfl, hb2⟩
  have B2 := below_blk hb2 (blk_old _ _ B1)
  clear a0 a1 a2 a3 a4 a5 a6 a7 a8 a9 a10 a11 a12 a13 a14 a15
  obtain ⟨a0, a1, a2, a3, a4, a5, a6, a7, a8, a9, a10, a11, a12, a13, a14, a15⟩ := cells16 B2
  have hz2 : w.heap.size < w2.heap.size := by have := hb2.size; simp at this; omega
  have HB2 : Hid (Below w.heap.size w w2) := (HB1.out.alloc (by first | omega | (simp; try omega)) _).trans (hb2.mono (by first | omega | (simp; try omega)))
  clear hb2 B1 HB1 hz1
  go_wp2_with fail
  refine Calls.mono (blank0_W _) ?_
  rintro e w3 ⟨rfl, hb3⟩
  have B3 := below_blk hb3 B2
  clear a0 a1 a2 a3 a4 a5 a6 a7 a8 a9 a10 a11 a12 a13 a14 a15
  obtain ⟨a0, a1, a2, a3, a4, a5, a6, a7, a8, a9, a10, a11, a12, a13, a14, a15⟩ := cells16 B3
  have hz3 : w.heap.size < w3.heap.size := by have := hb3.size; omega
  have HB3 : Hid (Below w.heap.size w w3) := HB2.out.trans (hb3.mono (by first | omega | (simp; try omega)))
  clear hb3 B2 HB2 hz2
  go_wp2_with fail
  refine (side_W (HW.out.below HB3.out) h).mono ?_
  rw [hs]
  rintro e _ ⟨rfl, rfl⟩
  go_wp2_with fail
  refine Calls.mono (HV.out _ HB3.out) ?_
  rintro e w4 ⟨rfl, hb4⟩
  have B4 := below_blk hb4 B3
  clear a0 a1 a2 a3 a4 a5 a6 a7 a8 a9 a10 a11 a12 a13 a14 a15
  obtain ⟨a0, a1, a2, a3, a4, a5, a6, a7, a8, a9, a10, a11, a12, a13, a14, a15⟩ := cells16 B4
  have hz4 : w.heap.size < w4.heap.size := by have := hb4.size; omega
  have HB4 : Hid (Below w.heap.size w w4) := HB3.out.trans (hb4.mono (by first | omega | (simp; try omega)))
  clear hb4 B3 HB3 hz3
  go_wp2_with fail
  refine Calls.mono (HO.out _ HB4.out) ?_
  rintro e w5 ⟨⟨pr, nr, cr, rfl⟩, hb5⟩
  have B5 := below_blk hb5 B4
  clear a0 a1 a2 a3 a4 a5 a6 a7 a8 a9 a10 a11 a12 a13 a14 a15
  obtain ⟨a0, a1, a2, a3, a4, a5, a6, a7, a8, a9, a10, a11, a12, a13, a14, a15⟩ := cells16 B5
  have hz5 : w.heap.size < w5.heap.size := by have := hb5.size; omega
  have HB5 : Hid (Below w.heap.size w w5) := HB4.out.trans (hb5.mono (by first | omega | (simp; try omega)))
  clear hb5 B4 HB4 hz4
  go_wp2_with fail
  go_rounds 1
  have hB := HB5.out
  have hZ : w.heap.size ≤ w5.heap.size := by omega
  go_ret
  exact ⟨rfl, by go_grown⟩

set_option maxHeartbeats 2000000 in
set_option maxRecDepth 8000 in
theorem formV_10 (hW : IsW w p M F) {h : Int} {vk vn vr : Int} {vstr : ByteArray} {pv : Option Addr} {vl cv : Nat} (hs : sideB M h = true) (hV : VYes w #[.int .u8 vk, .int .i64 vn, .string vstr, .slice pv vl cv, .int .i64 vr]) (hO : OfYes w (.slice none 0 0)) : Calls Tryz.prog 71 #[.pointer (some ⟨p, 0, none⟩), .agg #[.int .u8 10, .int .i64 h, .int .u8 vk, .int .i64 vn, .string vstr, .slice pv vl cv, .int .i64 vr, .slice none 0 0, .int .i64 0, .int .i64 0, .int .i64 0, .int .i64 0, .int .u8 0, .bool true, .slice none 0 0, .slice none 0 0]] w fun e w' => e = .returned (.bool true) ∧ Below w.heap.size w w' := by
  have HW : Hid (IsW w p M F) := hW
  have HV : Hid (VYes w #[.int .u8 vk, .int .i64 vn, .string vstr, .slice pv vl cv, .int .i64 vr]) := hV
  have HO : Hid (OfYes w (.slice none 0 0)) := hO
  clear hW hV hO
  have Hbl := (show Hid (∀ w, Calls Tryz.prog 92 #[.agg #[.int .u8 vk, .int .i64 vn, .string vstr, .slice pv vl cv, .int .i64 vr]] w fun e w' => e = .returned (.bool (blankB vk vn vstr vl vr)) ∧ Below w.heap.size w w') from fun w => blank_G w vk vn vstr pv vl cv vr)
  cases hbl : blankB vk vn vstr vl vr
  all_goals (rw [hbl] at Hbl; clear hbl)
  · go_enter Tryz.func71, Tryz.ntmps71
    go_wp2_with fail
    refine (bare_10 _ h vn vr 0 0 0 0 vk 0 vstr true pv none none none vl cv 0 0 0 0 0 0).mono ?_
    rintro e w1 ⟨rfl, hb1⟩
    have B1 := below_blk hb1 (blk_new _ _)
    obtain ⟨a0, a1, a2, a3, a4, a5, a6, a7, a8, a9, a10, a11, a12, a13, a14, a15⟩ := cells16 B1
    have hz1 : w.heap.size < w1.heap.size := by have := hb1.size; simp at this; omega
    have HB1 : Hid (Below w.heap.size w w1) := ((Below.refl _ _).alloc (Nat.le_refl _) _).trans (hb1.mono (by simp; try omega))
    clear hb1
    go_wp2_with fail
    refine Calls.mono (Hbl.out _) ?_
    rintro e w2 ⟨rfl, hb2⟩
    have B2 := below_blk hb2 (blk_old _ _ B1)
    clear a0 a1 a2 a3 a4 a5 a6 a7 a8 a9 a10 a11 a12 a13 a14 a15
    obtain ⟨a0, a1, a2, a3, a4, a5, a6, a7, a8, a9, a10, a11, a12, a13, a14, a15⟩ := cells16 B2
    have hz2 : w.heap.size < w2.heap.size := by have := hb2.size; simp at this; omega
    have HB2 : Hid (Below w.heap.size w w2) := (HB1.out.alloc (by first | omega | (simp; try omega)) _).trans (hb2.mono (by first | omega | (simp; try omega)))
    clear hb2 B1 HB1 hz1
    go_wp2_with fail
    refine (side_W (HW.out.below HB2.out) h).mono ?_
    rw [hs]
    rintro e _ ⟨rfl, rfl⟩
    go_wp2_with fail
    refine Calls.mono (HV.out _ HB2.out) ?_
    rintro e w3 ⟨rfl, hb3⟩
    have B3 := below_blk hb3 B2
    clear a0 a1 a2 a3 a4 a5 a6 a7 a8 a9 a10 a11 a12 a13 a14 a15
    obtain ⟨a0, a1, a2, a3, a4, a5, a6, a7, a8, a9, a10, a11, a12, a13, a14, a15⟩ := cells16 B3
    have hz3 : w.heap.size < w3.heap.size := by have := hb3.size; omega
    have HB3 : Hid (Below w.heap.size w w3) := HB2.out.trans (hb3.mono (by first | omega | (simp; try omega)))
    clear hb3 B2 HB2 hz2
    go_wp2_with fail
    refine Calls.mono (HO.out _ HB3.out) ?_
    rintro e w4 ⟨⟨pr, nr, cr, rfl⟩, hb4⟩
    have B4 := below_blk hb4 B3
    clear a0 a1 a2 a3 a4 a5 a6 a7 a8 a9 a10 a11 a12 a13 a14 a15
    obtain ⟨a0, a1, a2, a3, a4, a5, a6, a7, a8, a9, a10, a11, a12, a13, a14, a15⟩ := cells16 B4
    have hz4 : w.heap.size < w4.heap.size := by have := hb4.size; omega
    have HB4 : Hid (Below w.heap.size w w4) := HB3.out.trans (hb4.mono (by first | omega | (simp; try omega)))
    clear hb4 B3 HB3 hz3
    go_wp2_with fail
    go_rounds 1
    have hB := HB4.out
    have hZ : w.heap.size ≤ w4.heap.size := by omega
    go_ret
    exact ⟨rfl, by go_grown⟩
  · go_enter Tryz.func71, Tryz.ntmps71
    go_wp2_with fail
    refine (bare_10 _ h vn vr 0 0 0 0 vk 0 vstr true pv none none none vl cv 0 0 0 0 0 0).mono ?_
    rintro e w1 ⟨rfl, hb1⟩
    have B1 := below_blk hb1 (blk_new _ _)
    obtain ⟨a0, a1, a2, a3, a4, a5, a6, a7, a8, a9, a10, a11, a12, a13, a14, a15⟩ := cells16 B1
    have hz1 : w.heap.size < w1.heap.size := by have := hb1.size; simp at this; omega
    have HB1 : Hid (Below w.heap.size w w1) := ((Below.refl _ _).alloc (Nat.le_refl _) _).trans (hb1.mono (by simp; try omega))
    clear hb1
    go_wp2_with fail
    refine Calls.mono (Hbl.out _) ?_
    rintro e w2 ⟨rfl, hb2⟩
    have B2 := below_blk hb2 (blk_old _ _ B1)
    clear a0 a1 a2 a3 a4 a5 a6 a7 a8 a9 a10 a11 a12 a13 a14 a15
    obtain ⟨a0, a1, a2, a3, a4, a5, a6, a7, a8, a9, a10, a11, a12, a13, a14, a15⟩ := cells16 B2
    have hz2 : w.heap.size < w2.heap.size := by have := hb2.size; simp at this; omega
    have HB2 : Hid (Below w.heap.size w w2) := (HB1.out.alloc (by first | omega | (simp; try omega)) _).trans (hb2.mono (by first | omega | (simp; try omega)))
    clear hb2 B1 HB1 hz1
    go_wp2_with fail
    refine Calls.mono (Hbl.out _) ?_
    rintro e w3 ⟨rfl, hb3⟩
    have B3 := below_blk hb3 B2
    clear a0 a1 a2 a3 a4 a5 a6 a7 a8 a9 a10 a11 a12 a13 a14 a15
    obtain ⟨a0, a1, a2, a3, a4, a5, a6, a7, a8, a9, a10, a11, a12, a13, a14, a15⟩ := cells16 B3
    have hz3 : w.heap.size < w3.heap.size := by have := hb3.size; omega
    have HB3 : Hid (Below w.heap.size w w3) := HB2.out.trans (hb3.mono (by first | omega | (simp; try omega)))
    clear hb3 B2 HB2 hz2
    go_wp2_with fail
    refine (side_W (HW.out.below HB3.out) h).mono ?_
    rw [hs]
    rintro e _ ⟨rfl, rfl⟩
    go_wp2_with fail
    refine Calls.mono (HV.out _ HB3.out) ?_
    rintro e w4 ⟨rfl, hb4⟩
    have B4 := below_blk hb4 B3
    clear a0 a1 a2 a3 a4 a5 a6 a7 a8 a9 a10 a11 a12 a13 a14 a15
    obtain ⟨a0, a1, a2, a3, a4, a5, a6, a7, a8, a9, a10, a11, a12, a13, a14, a15⟩ := cells16 B4
    have hz4 : w.heap.size < w4.heap.size := by have := hb4.size; omega
    have HB4 : Hid (Below w.heap.size w w4) := HB3.out.trans (hb4.mono (by first | omega | (simp; try omega)))
    clear hb4 B3 HB3 hz3
    go_wp2_with fail
    refine Calls.mono (HO.out _ HB4.out) ?_
    rintro e w5 ⟨⟨pr, nr, cr, rfl⟩, hb5⟩
    have B5 := below_blk hb5 B4
    clear a0 a1 a2 a3 a4 a5 a6 a7 a8 a9 a10 a11 a12 a13 a14 a15
    obtain ⟨a0, a1, a2, a3, a4, a5, a6, a7, a8, a9, a10, a11, a12, a13, a14, a15⟩ := cells16 B5
    have hz5 : w.heap.size < w5.heap.size := by have := hb5.size; omega
    have HB5 : Hid (Below w.heap.size w w5) := HB4.out.trans (hb5.mono (by first | omega | (simp; try omega)))
    clear hb5 B4 HB4 hz4
    go_wp2_with fail
    go_rounds 1
    have hB := HB5.out
    have hZ : w.heap.size ≤ w5.heap.size := by omega
    go_ret
    exact ⟨rfl, by go_grown⟩

end Go.Proofs.YtcoiccbmcjdheaaGreat
/- A thing more: index, lay. An edge that is cut. -/
namespace Go.Proofs.YtcoiccbmcjdheaaGreat
open Go.RowKit Go.ChangeMaps Go.MapKept

theorem drew_map {P : Program} {k : TypeId} {w : World} {b n : Nat} {f : Value → Option Value} (h : HasMap P k w b f n) : HasMap P k w.drew b f n := h

/-- A map of at most n entries. -/
def MapLe (P : Program) (k : TypeId) (w : World) (b : Nat) (f : Value → Option Value) (n : Nat) : Prop := ∃ m, m ≤ n ∧ HasMap P k w b f m

theorem index_plain {w : World} {p tb b : Nat} {r k : Int} (c2 : w.cell? ⟨p, 2, none⟩ = some (.map (some tb)))
    (hl : (Instr.lookup 72 (.map (some tb)) (.int .i64 r) false).run Tryz.prog w = .ok (.pointer (some ⟨b, 0, none⟩)) w) (k0 : w.cell? ⟨b, 0, none⟩ = some (.int .u8 k)) (hk : (k == 14) = false) :
    Calls Tryz.prog 37 #[.pointer (some ⟨p, 0, none⟩), .int .i64 r] w fun e w' => e = .returned (.tuple #[]) ∧ w = w' := by
  go_enter Tryz.func37, Tryz.ntmps37
  go_wp2
  go_end0
  exact ⟨rfl, rfl⟩

set_option maxRecDepth 8000 in
theorem index_facet {w : World} {p tb fb b fn : Nat} {r t s : Int} {f g : Value → Option Value} (c2 : w.cell? ⟨p, 2, none⟩ = some (.map (some tb))) (c3 : w.cell? ⟨p, 3, none⟩ = some (.map (some fb)))
    (hl : (Instr.lookup 72 (.map (some tb)) (.int .i64 r) false).run Tryz.prog w = .ok (.pointer (some ⟨b, 0, none⟩)) w) (k0 : w.cell? ⟨b, 0, none⟩ = some (.int .u8 14))
    (k6 : w.cell? ⟨b, 10, none⟩ = some (.int .i64 t)) (k8 : w.cell? ⟨b, 12, none⟩ = some (.int .u8 s)) (ht : (Lit.int .i64 t).wf = true) (hs : (Lit.int .u8 s).wf = true)
    (hm : HasMap Tryz.prog 116 w fb f fn) (hn : fn < maxLen) (hg : g (fkey t s) = some (.int .i64 r)) (hg' : ∀ x, x ≠ fkey t s → g x = f x) :
    Calls Tryz.prog 37 #[.pointer (some ⟨p, 0, none⟩), .int .i64 r] w fun e w' => e = .returned (.tuple #[]) ∧ Turned w w' fb ∧ MapLe Tryz.prog 116 w' fb g (fn + 1) := by
  obtain ⟨kl, hkl⟩ := key_f ht hs
  obtain ⟨w2, hrun, r1, r2⟩ := (drew_map hm).store keyedFKey Tryz.underlying73 hn hkl (.int .i64 r) hg hg'
  simp only [fkey] at hrun
  have Hr1 : Hid (MapLe Tryz.prog 116 w2 fb g (fn + 1)) := ⟨_, by split <;> omega, r1⟩
  have Hr2 : Hid (Turned w w2 fb) := Turned.of_drew r2
  clear r1 r2 hm hg hg' hkl hn
  go_enter Tryz.func37, Tryz.ntmps37
  go_wp2
  go_still_tail 14, (by kernel_rfl)
  change wpList _ _ _ _ _ w.drew
  go_wp2
  go_end0
  exact ⟨rfl, Hr2.out, Hr1.out⟩

/-- The world's own calls change last, one thing, and what is made at home: an edge that is cut. -/
def WM.cutE (M : WM) (n : Nat) : WM := { M with cuts := M.cuts.set n true }
theorem WM.cutE_ok {M : WM} (h : M.ok) (n : Nat) : (M.cutE n).ok := { h with cuts := by show (M.cuts.set n true).length = _; rw [List.length_set]; exact h.cuts }


end Go.Proofs.YtcoiccbmcjdheaaGreat
