/- A part of the proof, several texts in one: FormV, Set, SetW, LayW. -/
import Derived.Test.YthaliljaglldjaaGreatmAO
import Derived.Test.YthaliljaglldjaaGreatmAB
import Derived.Test.YthaliljaglldjaaGreatmAQ
import Derived.Test.YthaliljaglldjaaGreatmAC
import Derived.Deep.QuietTactic
import Derived.BigQuiet
import Derived.Test.YthaliljaglldjaaGreatmAD
import Derived.Test.YthaliljaglldjaaGreatmAL
import Derived.Test.YthaliljaglldjaaGreatmAE
/- form: a What that is one, its values any. Printed by gen_formv.py. -/
namespace Go.Proofs.YthaliljaglldjaaGreat
open Go.RowKit Go.ChangeMaps Go.MapKept
variable {w : World} {p : Nat} {M : WM} {F : Nat → Prop}
def blankB (vk vn : Int) (s : ByteArray) (n : Nat) (r : Int) : Bool := vk == 0 && (vn == 0 && (s == ⟨#[]⟩ && (n == 0 && r == 0)))
set_option maxRecDepth 8000 in
theorem blank_G (w : World) (vk vn : Int) (s : ByteArray) (pa : Option Addr) (n c : Nat) (r : Int) : Calls Tryz.prog 160 #[.agg #[.int .u8 vk, .int .i64 vn, .string s, .slice pa n c, .int .i64 r]] w fun e w' => e = .returned (.bool (blankB vk vn s n r)) ∧ Below w.heap.size w w' := by
  by_cases q0 : vk = 0
  rotate_left
  · have q0' : (vk == 0) = false := by simpa using q0
    have hb : blankB vk vn s n r = false := by simp [blankB, q0']
    rw [hb]
    clear hb q0
    go_enter Tryz.func160, Tryz.ntmps160
    go_wp2
    go_ret
    exact ⟨rfl, by go_grown⟩
  subst q0
  by_cases q1 : vn = 0
  rotate_left
  · have q1' : (vn == 0) = false := by simpa using q1
    have hb : blankB 0 vn s n r = false := by simp [blankB, q1']
    rw [hb]
    clear hb q1
    go_enter Tryz.func160, Tryz.ntmps160
    go_wp2
    go_ret
    exact ⟨rfl, by go_grown⟩
  subst q1
  by_cases q2 : s = ⟨#[]⟩
  rotate_left
  · have q2' : (s == ⟨#[]⟩) = false := by
      cases h : s == ⟨#[]⟩ with
      | true => exact absurd ((Go.MapKept.bytes_beq _ _).1 h) q2
      | false => rfl
    have hb : blankB 0 0 s n r = false := by simp [blankB, q2']
    rw [hb]
    have q2l : ¬ s.toList = [] := fun h => q2 (by
      rw [ByteArray.toList_eq] at h
      obtain ⟨⟨d⟩⟩ := s
      simp only at h
      rw [h])
    clear hb q2
    go_enter Tryz.func160, Tryz.ntmps160
    go_wp2
    go_ret
    exact ⟨rfl, by go_grown⟩
  subst q2
  by_cases q3 : n = 0
  rotate_left
  · have q3' : ((n : Int) == 0) = false := by
      have : (n : Int) ≠ 0 := by omega
      simpa using this
    have hb : blankB 0 0 ⟨#[]⟩ n r = false := by simp [blankB, q3]
    rw [hb]
    clear hb q3
    go_enter Tryz.func160, Tryz.ntmps160
    go_wp2
    go_ret
    exact ⟨rfl, by go_grown⟩
  subst q3
  by_cases q4 : r = 0
  rotate_left
  · have q4' : (r == 0) = false := by simpa using q4
    have hb : blankB 0 0 ⟨#[]⟩ 0 r = false := by simp [blankB, q4']
    rw [hb]
    clear hb q4
    go_enter Tryz.func160, Tryz.ntmps160
    go_wp2
    go_ret
    exact ⟨rfl, by go_grown⟩
  subst q4
  go_enter Tryz.func160, Tryz.ntmps160
  go_wp2
  go_ret
  exact ⟨rfl, by go_grown⟩
def VYes (w : World) (a : Array Value) : Prop := ∀ w', Below w.heap.size w w' → Calls Tryz.prog 161 #[.agg a] w' fun e w'' => e = .returned (.bool true) ∧ Below w'.heap.size w' w''
def OfYes (w : World) (v : Value) : Prop := ∀ w', Below w.heap.size w w' → Calls Tryz.prog 162 #[v] w' fun e w'' => (∃ pr nr cr, e = .returned (.tuple #[.agg #[.int .u8 3, .int .i64 0, .string ⟨#[]⟩, .slice pr nr cr, .int .i64 0], .int .i64 0])) ∧ Below w'.heap.size w' w''
theorem vYes {v : Val} {raw : Value} (hS : SlAt w F raw v.l) (hm : mayV v = true) : VYes w (vcs v raw) := fun w' hb => by
  have := vMay_G (hS.on hb) (v := v)
  rwa [hm] at this
theorem vYes0 : VYes w #[.int .u8 0, .int .i64 0, .string ⟨#[]⟩, .slice none 0 0, .int .i64 0] := fun w' _ => vMay_W w' 0 0 (.inl ⟨rfl, rfl⟩)
theorem ofYes0 : OfYes w (.slice none 0 0) := fun w' _ => (vOf_W w').mono fun _ _ h => ⟨⟨none, 0, 0, h.1⟩, h.2⟩
theorem ofYes {l : List Val} {s : Value} (hS : SlAt w F s l) (hl : l.length ≤ 1024) (ho : ofE l = 0) : OfYes w s := fun w' hb => (Of_G l s (hS.on hb) (by omega)).mono fun _ _ h => by
  obtain ⟨h1, ⟨-, raw', h2, h3⟩ | ⟨h2, -⟩⟩ := h
  · obtain ⟨pr, cr, rfl⟩ := h3.form
    exact ⟨⟨pr, _, cr, h2⟩, h1⟩
  · exact absurd ho h2
set_option maxHeartbeats 2000000 in
set_option maxRecDepth 8000 in
theorem formV_1 (hW : IsW w p M F) {h : Int} {vk vn vr : Int} {vstr : ByteArray} {pv : Option Addr} {vl cv : Nat} (hs : sideB M h = true) (hV : VYes w #[.int .u8 vk, .int .i64 vn, .string vstr, .slice pv vl cv, .int .i64 vr]) (hO : OfYes w (.slice none 0 0)) : Calls Tryz.prog 74 #[.pointer (some ⟨p, 0, none⟩), .agg #[.int .u8 1, .int .i64 h, .int .u8 vk, .int .i64 vn, .string vstr, .slice pv vl cv, .int .i64 vr, .slice none 0 0, .int .i64 0, .int .i64 0, .int .i64 0, .int .i64 0, .int .u8 0, .bool false, .slice none 0 0, .slice none 0 0]] w fun e w' => e = .returned (.bool true) ∧ Below w.heap.size w w' := by
  have HW : Hid (IsW w p M F) := hW
  have HV : Hid (VYes w #[.int .u8 vk, .int .i64 vn, .string vstr, .slice pv vl cv, .int .i64 vr]) := hV
  have HO : Hid (OfYes w (.slice none 0 0)) := hO
  clear hW hV hO
  have Hbl := (show Hid (∀ w, Calls Tryz.prog 160 #[.agg #[.int .u8 vk, .int .i64 vn, .string vstr, .slice pv vl cv, .int .i64 vr]] w fun e w' => e = .returned (.bool (blankB vk vn vstr vl vr)) ∧ Below w.heap.size w w') from fun w => blank_G w vk vn vstr pv vl cv vr)
  cases hbl : blankB vk vn vstr vl vr
  all_goals (rw [hbl] at Hbl; clear hbl)
  · go_enter Tryz.func74, Tryz.ntmps74
    go_wp2_with fail
    refine (bare_1 _ h vn vr 0 0 0 0 vk 0 vstr false pv none none none vl cv 0 0 0 0 0 0).mono ?_
    rintro e w1 ⟨rfl, hb1⟩
    have B1 := below_blk hb1 (blk_new _ _)
    obtain ⟨a0, a1, a2, a3, a4, a5, a6, a7, a8, a9, a10, a11, a12, a13, a14, a15⟩ := cells16 B1
    have hz1 : w.heap.size < w1.heap.size := by have := hb1.size; simp at this; omega
    have HB1 : Hid (Below w.heap.size w w1) := ((Below.refl _ _).alloc (Nat.le_refl _) _).trans (hb1.mono (by simp; try omega))
    clear hb1
    go_wp2_with fail
    refine Calls.mono (Hbl.out _) ?_
    rintro e w2 ⟨rfl, hb2⟩
    have B2 := below_blk hb2 (blk_old _ _ B1)
    clear a0 a1 a2 a3 a4 a5 a6 a7 a8 a9 a10 a11 a12 a13 a14 a15
    obtain ⟨a0, a1, a2, a3, a4, a5, a6, a7, a8, a9, a10, a11, a12, a13, a14, a15⟩ := cells16 B2
    have hz2 : w.heap.size < w2.heap.size := by have := hb2.size; simp at this; omega
    have HB2 : Hid (Below w.heap.size w w2) := (HB1.out.alloc (by first | omega | (simp; try omega)) _).trans (hb2.mono (by first | omega | (simp; try omega)))
    clear hb2 B1 HB1 hz1
    go_wp2_with fail
    refine (side_W (HW.out.below HB2.out) h).mono ?_
    rw [hs]
    rintro e _ ⟨rfl, rfl⟩
    go_wp2_with fail
    refine Calls.mono (HV.out _ HB2.out) ?_
    rintro e w3 ⟨rfl, hb3⟩
    have B3 := below_blk hb3 B2
    clear a0 a1 a2 a3 a4 a5 a6 a7 a8 a9 a10 a11 a12 a13 a14 a15
    obtain ⟨a0, a1, a2, a3, a4, a5, a6, a7, a8, a9, a10, a11, a12, a13, a14, a15⟩ := cells16 B3
    have hz3 : w.heap.size < w3.heap.size := by have := hb3.size; omega
    have HB3 : Hid (Below w.heap.size w w3) := HB2.out.trans (hb3.mono (by first | omega | (simp; try omega)))
    clear hb3 B2 HB2 hz2
    go_wp2_with fail
    refine Calls.mono (HO.out _ HB3.out) ?_
    rintro e w4 ⟨⟨pr, nr, cr, rfl⟩, hb4⟩
    have B4 := below_blk hb4 B3
    clear a0 a1 a2 a3 a4 a5 a6 a7 a8 a9 a10 a11 a12 a13 a14 a15
    obtain ⟨a0, a1, a2, a3, a4, a5, a6, a7, a8, a9, a10, a11, a12, a13, a14, a15⟩ := cells16 B4
    have hz4 : w.heap.size < w4.heap.size := by have := hb4.size; omega
    have HB4 : Hid (Below w.heap.size w w4) := HB3.out.trans (hb4.mono (by first | omega | (simp; try omega)))
    clear hb4 B3 HB3 hz3
    go_wp2_with fail
    go_rounds 1
    have hB := HB4.out
    have hZ : w.heap.size ≤ w4.heap.size := by omega
    go_ret
    exact ⟨rfl, by go_grown⟩
  · go_enter Tryz.func74, Tryz.ntmps74
    go_wp2_with fail
    refine (bare_1 _ h vn vr 0 0 0 0 vk 0 vstr false pv none none none vl cv 0 0 0 0 0 0).mono ?_
    rintro e w1 ⟨rfl, hb1⟩
    have B1 := below_blk hb1 (blk_new _ _)
    obtain ⟨a0, a1, a2, a3, a4, a5, a6, a7, a8, a9, a10, a11, a12, a13, a14, a15⟩ := cells16 B1
    have hz1 : w.heap.size < w1.heap.size := by have := hb1.size; simp at this; omega
    have HB1 : Hid (Below w.heap.size w w1) := ((Below.refl _ _).alloc (Nat.le_refl _) _).trans (hb1.mono (by simp; try omega))
    clear hb1
    go_wp2_with fail
    refine Calls.mono (Hbl.out _) ?_
    rintro e w2 ⟨rfl, hb2⟩
    have B2 := below_blk hb2 (blk_old _ _ B1)
    clear a0 a1 a2 a3 a4 a5 a6 a7 a8 a9 a10 a11 a12 a13 a14 a15
    obtain ⟨a0, a1, a2, a3, a4, a5, a6, a7, a8, a9, a10, a11, a12, a13, a14, a15⟩ := cells16 B2
    have hz2 : w.heap.size < w2.heap.size := by have := hb2.size; simp at this; omega
    have HB2 : Hid (Below w.heap.size w w2) := (HB1.out.alloc (by first | omega | (simp; try omega)) _).trans (hb2.mono (by first | omega | (simp; try omega)))
    clear hb2 B1 HB1 hz1
    go_wp2_with fail
    refine Calls.mono (Hbl.out _) ?_
    rintro e w3 ⟨rfl, hb3⟩
    have B3 := below_blk hb3 B2
    clear a0 a1 a2 a3 a4 a5 a6 a7 a8 a9 a10 a11 a12 a13 a14 a15
    obtain ⟨a0, a1, a2, a3, a4, a5, a6, a7, a8, a9, a10, a11, a12, a13, a14, a15⟩ := cells16 B3
    have hz3 : w.heap.size < w3.heap.size := by have := hb3.size; omega
    have HB3 : Hid (Below w.heap.size w w3) := HB2.out.trans (hb3.mono (by first | omega | (simp; try omega)))
    clear hb3 B2 HB2 hz2
    go_wp2_with fail
    refine (side_W (HW.out.below HB3.out) h).mono ?_
    rw [hs]
    rintro e _ ⟨rfl, rfl⟩
    go_wp2_with fail
    refine Calls.mono (HV.out _ HB3.out) ?_
    rintro e w4 ⟨rfl, hb4⟩
    have B4 := below_blk hb4 B3
    clear a0 a1 a2 a3 a4 a5 a6 a7 a8 a9 a10 a11 a12 a13 a14 a15
    obtain ⟨a0, a1, a2, a3, a4, a5, a6, a7, a8, a9, a10, a11, a12, a13, a14, a15⟩ := cells16 B4
    have hz4 : w.heap.size < w4.heap.size := by have := hb4.size; omega
    have HB4 : Hid (Below w.heap.size w w4) := HB3.out.trans (hb4.mono (by first | omega | (simp; try omega)))
    clear hb4 B3 HB3 hz3
    go_wp2_with fail
    refine Calls.mono (HO.out _ HB4.out) ?_
    rintro e w5 ⟨⟨pr, nr, cr, rfl⟩, hb5⟩
    have B5 := below_blk hb5 B4
    clear a0 a1 a2 a3 a4 a5 a6 a7 a8 a9 a10 a11 a12 a13 a14 a15
    obtain ⟨a0, a1, a2, a3, a4, a5, a6, a7, a8, a9, a10, a11, a12, a13, a14, a15⟩ := cells16 B5
    have hz5 : w.heap.size < w5.heap.size := by have := hb5.size; omega
    have HB5 : Hid (Below w.heap.size w w5) := HB4.out.trans (hb5.mono (by first | omega | (simp; try omega)))
    clear hb5 B4 HB4 hz4
    go_wp2_with fail
    go_rounds 1
    have hB := HB5.out
    have hZ : w.heap.size ≤ w5.heap.size := by omega
    go_ret
    exact ⟨rfl, by go_grown⟩
set_option maxHeartbeats 2000000 in
set_option maxRecDepth 8000 in
theorem formV_2 (hW : IsW w p M F) {h : Int} {ps : Option Addr} {nl cs : Nat} (hs : sideB M h = true) (hV : VYes w #[.int .u8 0, .int .i64 0, .string ⟨#[]⟩, .slice none 0 0, .int .i64 0]) (hO : OfYes w (.slice ps nl cs)) : Calls Tryz.prog 74 #[.pointer (some ⟨p, 0, none⟩), .agg #[.int .u8 2, .int .i64 h, .int .u8 0, .int .i64 0, .string ⟨#[]⟩, .slice none 0 0, .int .i64 0, .slice ps nl cs, .int .i64 0, .int .i64 0, .int .i64 0, .int .i64 0, .int .u8 0, .bool false, .slice none 0 0, .slice none 0 0]] w fun e w' => e = .returned (.bool true) ∧ Below w.heap.size w w' := by
  have HW : Hid (IsW w p M F) := hW
  have HV : Hid (VYes w #[.int .u8 0, .int .i64 0, .string ⟨#[]⟩, .slice none 0 0, .int .i64 0]) := hV
  have HO : Hid (OfYes w (.slice ps nl cs)) := hO
  clear hW hV hO
  go_enter Tryz.func74, Tryz.ntmps74
  go_wp2_with fail
  refine (bare_2 _ h 0 0 0 0 0 0 0 0 ⟨#[]⟩ false none ps none none 0 0 nl cs 0 0 0 0).mono ?_
  rintro e w1 ⟨rfl, hb1⟩
  have B1 := below_blk hb1 (blk_new _ _)
  obtain ⟨a0, a1, a2, a3, a4, a5, a6, a7, a8, a9, a10, a11, a12, a13, a14, a15⟩ := cells16 B1
  have hz1 : w.heap.size < w1.heap.size := by have := hb1.size; simp at this; omega
  have HB1 : Hid (Below w.heap.size w w1) := ((Below.refl _ _).alloc (Nat.le_refl _) _).trans (hb1.mono (by simp; try omega))
  clear hb1
  go_wp2_with fail
  refine Calls.mono (blank0_W _) ?_
  rintro e w2 ⟨rfl, hb2⟩
  have B2 := below_blk hb2 (blk_old _ _ B1)
  clear a0 a1 a2 a3 a4 a5 a6 a7 a8 a9 a10 a11 a12 a13 a14 a15
  obtain ⟨a0, a1, a2, a3, a4, a5, a6, a7, a8, a9, a10, a11, a12, a13, a14, a15⟩ := cells16 B2
  have hz2 : w.heap.size < w2.heap.size := by have := hb2.size; simp at this; omega
  have HB2 : Hid (Below w.heap.size w w2) := (HB1.out.alloc (by first | omega | (simp; try omega)) _).trans (hb2.mono (by first | omega | (simp; try omega)))
  clear hb2 B1 HB1 hz1
  go_wp2_with fail
  refine Calls.mono (blank0_W _) ?_
  rintro e w3 ⟨rfl, hb3⟩
  have B3 := below_blk hb3 B2
  clear a0 a1 a2 a3 a4 a5 a6 a7 a8 a9 a10 a11 a12 a13 a14 a15
  obtain ⟨a0, a1, a2, a3, a4, a5, a6, a7, a8, a9, a10, a11, a12, a13, a14, a15⟩ := cells16 B3
  have hz3 : w.heap.size < w3.heap.size := by have := hb3.size; omega
  have HB3 : Hid (Below w.heap.size w w3) := HB2.out.trans (hb3.mono (by first | omega | (simp; try omega)))
  clear hb3 B2 HB2 hz2
  go_wp2_with fail
  refine (side_W (HW.out.below HB3.out) h).mono ?_
  rw [hs]
  rintro e _ ⟨rfl, rfl⟩
  go_wp2_with fail
  refine Calls.mono (HV.out _ HB3.out) ?_
  rintro e w4 ⟨rfl, hb4⟩
  have B4 := below_blk hb4 B3
  clear a0 a1 a2 a3 a4 a5 a6 a7 a8 a9 a10 a11 a12 a13 a14 a15
  obtain ⟨a0, a1, a2, a3, a4, a5, a6, a7, a8, a9, a10, a11, a12, a13, a14, a15⟩ := cells16 B4
  have hz4 : w.heap.size < w4.heap.size := by have := hb4.size; omega
  have HB4 : Hid (Below w.heap.size w w4) := HB3.out.trans (hb4.mono (by first | omega | (simp; try omega)))
  clear hb4 B3 HB3 hz3
  go_wp2_with fail
  refine Calls.mono (HO.out _ HB4.out) ?_
  rintro e w5 ⟨⟨pr, nr, cr, rfl⟩, hb5⟩
  have B5 := below_blk hb5 B4
  clear a0 a1 a2 a3 a4 a5 a6 a7 a8 a9 a10 a11 a12 a13 a14 a15
  obtain ⟨a0, a1, a2, a3, a4, a5, a6, a7, a8, a9, a10, a11, a12, a13, a14, a15⟩ := cells16 B5
  have hz5 : w.heap.size < w5.heap.size := by have := hb5.size; omega
  have HB5 : Hid (Below w.heap.size w w5) := HB4.out.trans (hb5.mono (by first | omega | (simp; try omega)))
  clear hb5 B4 HB4 hz4
  go_wp2_with fail
  go_rounds 1
  have hB := HB5.out
  have hZ : w.heap.size ≤ w5.heap.size := by omega
  go_ret
  exact ⟨rfl, by go_grown⟩
set_option maxHeartbeats 2000000 in
set_option maxRecDepth 8000 in
theorem formV_4 (hW : IsW w p M F) {h : Int} {ps : Option Addr} {nl cs : Nat} (hs : sideB M h = true) (hV : VYes w #[.int .u8 0, .int .i64 0, .string ⟨#[]⟩, .slice none 0 0, .int .i64 0]) (hO : OfYes w (.slice ps nl cs)) : Calls Tryz.prog 74 #[.pointer (some ⟨p, 0, none⟩), .agg #[.int .u8 4, .int .i64 h, .int .u8 0, .int .i64 0, .string ⟨#[]⟩, .slice none 0 0, .int .i64 0, .slice ps nl cs, .int .i64 0, .int .i64 0, .int .i64 0, .int .i64 0, .int .u8 0, .bool false, .slice none 0 0, .slice none 0 0]] w fun e w' => e = .returned (.bool true) ∧ Below w.heap.size w w' := by
  have HW : Hid (IsW w p M F) := hW
  have HV : Hid (VYes w #[.int .u8 0, .int .i64 0, .string ⟨#[]⟩, .slice none 0 0, .int .i64 0]) := hV
  have HO : Hid (OfYes w (.slice ps nl cs)) := hO
  clear hW hV hO
  go_enter Tryz.func74, Tryz.ntmps74
  go_wp2_with fail
  refine (bare_4 _ h 0 0 0 0 0 0 0 0 ⟨#[]⟩ false none ps none none 0 0 nl cs 0 0 0 0).mono ?_
  rintro e w1 ⟨rfl, hb1⟩
  have B1 := below_blk hb1 (blk_new _ _)
  obtain ⟨a0, a1, a2, a3, a4, a5, a6, a7, a8, a9, a10, a11, a12, a13, a14, a15⟩ := cells16 B1
  have hz1 : w.heap.size < w1.heap.size := by have := hb1.size; simp at this; omega
  have HB1 : Hid (Below w.heap.size w w1) := ((Below.refl _ _).alloc (Nat.le_refl _) _).trans (hb1.mono (by simp; try omega))
  clear hb1
  go_wp2_with fail
  refine Calls.mono (blank0_W _) ?_
  rintro e w2 ⟨rfl, hb2⟩
  have B2 := below_blk hb2 (blk_old _ _ B1)
  clear a0 a1 a2 a3 a4 a5 a6 a7 a8 a9 a10 a11 a12 a13 a14 a15
  obtain ⟨a0, a1, a2, a3, a4, a5, a6, a7, a8, a9, a10, a11, a12, a13, a14, a15⟩ := cells16 B2
  have hz2 : w.heap.size < w2.heap.size := by have := hb2.size; simp at this; omega
  have HB2 : Hid (Below w.heap.size w w2) := (HB1.out.alloc (by first | omega | (simp; try omega)) _).trans (hb2.mono (by first | omega | (simp; try omega)))
  clear hb2 B1 HB1 hz1
  go_wp2_with fail
  refine Calls.mono (blank0_W _) ?_
  rintro e w3 ⟨rfl, hb3⟩
  have B3 := below_blk hb3 B2
  clear a0 a1 a2 a3 a4 a5 a6 a7 a8 a9 a10 a11 a12 a13 a14 a15
  obtain ⟨a0, a1, a2, a3, a4, a5, a6, a7, a8, a9, a10, a11, a12, a13, a14, a15⟩ := cells16 B3
  have hz3 : w.heap.size < w3.heap.size := by have := hb3.size; omega
  have HB3 : Hid (Below w.heap.size w w3) := HB2.out.trans (hb3.mono (by first | omega | (simp; try omega)))
  clear hb3 B2 HB2 hz2
  go_wp2_with fail
  refine (side_W (HW.out.below HB3.out) h).mono ?_
  rw [hs]
  rintro e _ ⟨rfl, rfl⟩
  go_wp2_with fail
  refine Calls.mono (HV.out _ HB3.out) ?_
  rintro e w4 ⟨rfl, hb4⟩
  have B4 := below_blk hb4 B3
  clear a0 a1 a2 a3 a4 a5 a6 a7 a8 a9 a10 a11 a12 a13 a14 a15
  obtain ⟨a0, a1, a2, a3, a4, a5, a6, a7, a8, a9, a10, a11, a12, a13, a14, a15⟩ := cells16 B4
  have hz4 : w.heap.size < w4.heap.size := by have := hb4.size; omega
  have HB4 : Hid (Below w.heap.size w w4) := HB3.out.trans (hb4.mono (by first | omega | (simp; try omega)))
  clear hb4 B3 HB3 hz3
  go_wp2_with fail
  refine Calls.mono (HO.out _ HB4.out) ?_
  rintro e w5 ⟨⟨pr, nr, cr, rfl⟩, hb5⟩
  have B5 := below_blk hb5 B4
  clear a0 a1 a2 a3 a4 a5 a6 a7 a8 a9 a10 a11 a12 a13 a14 a15
  obtain ⟨a0, a1, a2, a3, a4, a5, a6, a7, a8, a9, a10, a11, a12, a13, a14, a15⟩ := cells16 B5
  have hz5 : w.heap.size < w5.heap.size := by have := hb5.size; omega
  have HB5 : Hid (Below w.heap.size w w5) := HB4.out.trans (hb5.mono (by first | omega | (simp; try omega)))
  clear hb5 B4 HB4 hz4
  go_wp2_with fail
  go_rounds 1
  have hB := HB5.out
  have hZ : w.heap.size ≤ w5.heap.size := by omega
  go_ret
  exact ⟨rfl, by go_grown⟩
end Go.Proofs.YthaliljaglldjaaGreat
/- Plain laws on a world as data: a thing that is turned, a thing that goes. -/
set_option linter.unusedSimpArgs false
namespace Go.Proofs.YthaliljaglldjaaGreat
def WM.set (M : WM) (r : Int) (t : Th) : WM := { M with things := M.things.map fun x => if x.1 = r then (x.1, t) else x }
theorem lookup_map_set (l : List (Int × Th)) (r : Int) (t : Th) (q : Int) : (l.map fun x => if x.1 = r then (x.1, t) else x).lookup q = if q = r then (l.lookup q).map fun _ => t else l.lookup q := by
  induction l with
  | nil => simp
  | cons x l ih =>
    obtain ⟨a, b⟩ := x
    rw [List.map_cons]
    by_cases ha : a = r
    · subst ha
      rw [if_pos rfl, List.lookup_cons, List.lookup_cons, ih]
      by_cases e : q = a
      · subst e; simp
      · simp [e, show (q == a) = false by simpa using e]
    · rw [if_neg ha, List.lookup_cons, List.lookup_cons, ih]
      by_cases e : q = a
      · subst e; simp [ha]
      · simp [show (q == a) = false by simpa using e]
theorem WM.set_at (M : WM) (r : Int) (t : Th) (q : Int) : (M.set r t).at q = if q = r then (M.at q).map fun _ => t else M.at q := lookup_map_set M.things r t q
theorem WM.set_at_some {M : WM} {r : Int} {t : Th} {q : Int} {v : Th} (h : (M.set r t).at q = some v) : (q = r ∧ v = t ∧ ∃ u, M.at q = some u) ∨ (q ≠ r ∧ M.at q = some v) := by
  rw [WM.set_at] at h
  split at h
  · rename_i e
    rw [Option.map_eq_some_iff] at h
    obtain ⟨u, hu, rfl⟩ := h
    exact .inl ⟨e, rfl, u, hu⟩
  · rename_i e
    exact .inr ⟨e, h⟩
theorem WM.set_len (M : WM) (r : Int) (t : Th) : (M.set r t).things.length = M.things.length := by simp [WM.set]
structure SetOk (M : WM) (r : Int) (u t : Th) : Prop where
  was : M.at r = some u
  kind : t.kind = u.kind
  home : t.home = u.home
  tgt : t.kind ≠ 13 → t.tgt = u.tgt
  tgtw : (Lit.int .i64 t.tgt).wf = true
  bi : t.bi = u.bi
  set : t.set = u.set
theorem find_map_set (r : Int) (t : Th) (P : Int × Th → Bool) : ∀ (l : List (Int × Th)), (∀ x ∈ l, x.1 = r → P (x.1, t) = P x) → ((l.map fun x => if x.1 = r then (x.1, t) else x).find? P).map (·.1) = (l.find? P).map (·.1)
  | [], _ => rfl
  | x :: l, h => by
    have ih := find_map_set r t P l fun y hy => h y (by simp [hy])
    have hx := h x (by simp)
    rw [List.map_cons, List.find?_cons, List.find?_cons]
    by_cases e : x.1 = r
    · rw [if_pos e, hx e]
      cases P x with
      | true => rfl
      | false => exact ih
    · rw [if_neg e]
      cases P x with
      | true => rfl
      | false => exact ih
theorem WM.set_find {M : WM} {r : Int} {u t : Th} (hM : M.ok) (h : SetOk M r u t) (a b : Int) : (M.set r t).find a b = M.find a b := by
  refine find_map_set r t _ M.things fun x hx hr => ?_
  have hu : M.at x.1 = some x.2 := hM.at_of_mem hx
  rw [hr, h.was] at hu
  cases hu
  show (t.kind == 14 && t.tgt == a && t.set == b) = (x.2.kind == 14 && x.2.tgt == a && x.2.set == b)
  rw [h.kind, h.set]
  by_cases h14 : x.2.kind = 14
  · rw [h.tgt (by rw [h.kind, h14]; decide)]
  · rw [show (x.2.kind == 14) = false by simpa using h14]
    rfl
theorem WM.set_ok {M : WM} {r : Int} {u t : Th} (hM : M.ok) (h : SetOk M r u t) : (M.set r t).ok where
  sides := hM.sides
  cuts := hM.cuts
  made := hM.made
  tree := hM.tree
  keys := by
    show (M.things.map _).Pairwise _
    rw [List.pairwise_map]
    refine hM.keys.imp ?_
    intro x y hxy
    have e : ∀ z : Int × Th, (if z.1 = r then (z.1, t) else z).1 = z.1 := fun z => by split <;> rfl
    rw [e, e]
    exact hxy
  range x hx := by
    obtain ⟨y, hy, rfl⟩ := List.mem_map.1 hx
    have := hM.range y hy
    split <;> exact this
  last := hM.last
  mades := hM.mades
  wf q v hv := by
    rcases WM.set_at_some hv with ⟨rfl, rfl, -⟩ | ⟨-, hv⟩
    · have := hM.wf _ _ h.was
      exact ⟨by rw [h.kind]; exact this.kind, h.tgtw, by rw [h.bi]; exact this.bi, by rw [h.set]; exact this.set⟩
    · exact hM.wf q v hv
  homes q v hv hk := by
    rcases WM.set_at_some hv with ⟨rfl, rfl, -⟩ | ⟨-, hv⟩
    · have := hM.homes _ _ h.was (by rw [← h.kind]; exact hk)
      rw [← h.home] at this
      exact this
    · exact hM.homes q v hv hk
  wrap := by
    obtain ⟨rk, h1, h2⟩ := hM.wrap
    refine ⟨rk, h1, fun q v hv hw => ?_⟩
    have key : ∃ x, M.at v.tgt = some x ∧ rk v.tgt < rk q := by
      rcases WM.set_at_some hv with ⟨rfl, rfl, -⟩ | ⟨-, hv⟩
      · have hk : wrapsB u.kind = true := by rw [← h.kind]; exact hw
        have h13 : v.kind ≠ 13 := by rintro e; rw [e] at hw; cases hw
        obtain ⟨⟨x, hx⟩, h4⟩ := h2 _ _ h.was hk
        rw [← h.tgt h13] at hx h4
        exact ⟨x, hx, h4⟩
      · obtain ⟨⟨x, hx⟩, h4⟩ := h2 _ _ hv hw
        exact ⟨x, hx, h4⟩
    obtain ⟨x, hx, h4⟩ := key
    refine ⟨?_, h4⟩
    rw [WM.set_at, hx]
    split <;> exact ⟨_, rfl⟩
  gate q v hv hk := by
    have key : ∃ x, M.at v.bi = some x ∧ x.kind = 13 := by
      rcases WM.set_at_some hv with ⟨rfl, rfl, -⟩ | ⟨-, hv⟩
      · obtain ⟨x, hx, h4⟩ := hM.gate _ _ h.was (by rw [← h.kind]; exact hk)
        rw [← h.bi] at hx
        exact ⟨x, hx, h4⟩
      · exact hM.gate _ _ hv hk
    obtain ⟨x, hx, h4⟩ := key
    rw [WM.set_at, hx]
    split
    · rename_i e
      refine ⟨t, rfl, ?_⟩
      rw [e, h.was] at hx
      cases hx
      rw [h.kind, h4]
    · exact ⟨x, rfl, h4⟩
  purse q v hv hk := by
    have key : ∃ x, M.at v.tgt = some x ∧ x.kind = 8 := by
      rcases WM.set_at_some hv with ⟨rfl, rfl, -⟩ | ⟨-, hv⟩
      · obtain ⟨x, hx, h4⟩ := hM.purse _ _ h.was (by rw [← h.kind]; exact hk)
        rw [← h.tgt (by rw [hk]; decide)] at hx
        exact ⟨x, hx, h4⟩
      · exact hM.purse _ _ hv hk
    obtain ⟨x, hx, h4⟩ := key
    rw [WM.set_at, hx]
    split
    · rename_i e
      refine ⟨t, rfl, ?_⟩
      rw [e, h.was] at hx
      cases hx
      rw [h.kind, h4]
    · exact ⟨x, rfl, h4⟩
  facet q v q' v' hv hv' k k' e1 e2 := by
    have key : ∀ {q v}, (M.set r t).at q = some v → v.kind = 14 → ∃ x, M.at q = some x ∧ x.kind = 14 ∧ x.tgt = v.tgt ∧ x.set = v.set := by
      intro q v hv hk
      rcases WM.set_at_some hv with ⟨rfl, rfl, -⟩ | ⟨-, hv⟩
      · exact ⟨u, h.was, by rw [← h.kind]; exact hk, (h.tgt (by rw [hk]; decide)).symm, h.set.symm⟩
      · exact ⟨v, hv, hk, rfl, rfl⟩
    obtain ⟨x, hx, a1, a2, a3⟩ := key hv k
    obtain ⟨y, hy, b1, b2, b3⟩ := key hv' k'
    exact hM.facet q x q' y hx hy a1 b1 (by rw [a2, b2, e1]) (by rw [a3, b3, e2])
end Go.Proofs.YthaliljaglldjaaGreat
/- A thing that is turned, a thing that goes: in memory. -/
namespace Go.Proofs.YthaliljaglldjaaGreat
open Go.RowKit Go.ChangeMaps Go.MapKept
variable {w : World} {p : Nat} {M : WM} {F : Nat → Prop} {pa : Option Addr} {pc cg cc mg mc tb fb fn : Nat} {bl : Int → Nat}
theorem thf_set (M : WM) (r : Int) (t : Th) (bl : Int → Nat) (key : Value) : thf (M.set r t) bl key = thf M bl key := by
  unfold thf
  split
  · rw [WM.set_at]
    split
    · cases M.at _ <;> rfl
    · rfl
  · rfl
theorem faf_set {r : Int} {u t : Th} (hM : M.ok) (h : SetOk M r u t) (key : Value) : faf (M.set r t) key = faf M key := by
  unfold faf
  split
  · split
    · rw [WM.set_find hM h]
    · rfl
  · rfl
theorem WV.turn (h : WV w p M F pa pc cg cc mg mc tb fb fn bl) {r : Int} {u t : Th} (hs : SetOk M r u t) {w' : World} (_ : w.heap.size ≤ w'.heap.size) (hB : w'.heap[bl r]? = some (.cells (thc t) 46 (0, 0)))
    (hoth : ∀ b, F b → b ≠ bl r → w'.heap[b]? = w.heap[b]?) {F' : Nat → Prop} (hF : ∀ b, F b → F' b) (hlt : ∀ b, F' b → b < w'.heap.size) (hd : Deep w' F' t) : WV w' p (M.set r t) F' pa pc cg cc mg mc tb fb fn bl := by
  have hBr := (h.blk r u hs.was).1
  have keep : ∀ b o, F b → w.heap[b]? = some o → (∀ (cs : Array Value) (fr : Nat × Nat), o ≠ Obj.cells cs 46 fr) → w'.heap[b]? = w.heap[b]? := fun b o hFb hb ho => by
    refine hoth b hFb fun e => ?_
    subst e
    rw [hBr] at hb
    cases hb
    exact ho _ _ rfl
  obtain ⟨mcur, hm⟩ := h.mad.is
  obtain ⟨ccur, hc⟩ := h.cut.is
  obtain ⟨tes, tcl, ht⟩ := h.things.is
  obtain ⟨fes, fcl, hf⟩ := h.facets.is
  exact {
    hp := (keep p _ h.own.1 h.hp (by simp)).trans h.hp
    pars := fun j x hx => by
      obtain ⟨b, o, h1, h2, ⟨cs, fr, h3⟩, h4⟩ := h.pars j x hx
      have k := keep b _ h2 h3 (by simp)
      exact ⟨b, o, h1, hF _ h2, ⟨cs, fr, k.trans h3⟩, (World.cell?_of_block (a := ⟨b, o + j, none⟩) k).trans h4⟩
    cut := h.cut.of_block (keep cg _ h.own.2.1 hc (by simp))
    mad := h.mad.of_block (keep mg _ h.own.2.2.1 hm (by simp))
    things := by
      rw [WM.set_len]
      exact (h.things.of_block (keep tb _ h.own.2.2.2.1 ht (by simp))).congr (fun key _ _ => thf_set M r t bl key)
    facets := (h.facets.of_block (keep fb _ h.own.2.2.2.2 hf (by simp))).congr (fun key _ _ => faf_set h.ok hs key)
    fnle := h.fnle
    blk := fun q v hv => by
      rcases WM.set_at_some hv with ⟨rfl, rfl, -⟩ | ⟨hne, hv⟩
      · exact ⟨hB, hF _ (h.blk _ _ hs.was).2.1, hd⟩
      · obtain ⟨h1, h2, h3⟩ := h.blk q v hv
        have hbl : bl q ≠ bl r := fun e => hne (h.inj q r v u hv hs.was e)
        refine ⟨(hoth _ h2 hbl).trans h1, hF _ h2, h3.of_blocks (fun b cs e fr hFb hb he => keep b _ hFb hb fun cs' fr' x => ?_) hF⟩
        cases x
        simp [deepTy] at he
    inj := fun q q' v v' hv hv' e => by
      have key : ∀ {q v}, (M.set r t).at q = some v → ∃ x, M.at q = some x := fun {q v} hv => by
        rcases WM.set_at_some hv with ⟨-, -, x⟩ | ⟨-, hv⟩
        · exact x
        · exact ⟨_, hv⟩
      obtain ⟨x, hx⟩ := key hv
      obtain ⟨y, hy⟩ := key hv'
      exact h.inj q q' x y hx hy e
    own := ⟨hF _ h.own.1, hF _ h.own.2.1, hF _ h.own.2.2.1, hF _ h.own.2.2.2.1, hF _ h.own.2.2.2.2⟩
    tf := h.tf
    lt := hlt
    ok := WM.set_ok h.ok hs }
end Go.Proofs.YthaliljaglldjaaGreat
/- Lay of a light thing over a light thing: what it has is turned. -/
namespace Go.Proofs.YthaliljaglldjaaGreat
open Go.RowKit Go.ChangeMaps Go.MapKept
variable {w : World} {p : Nat} {M : WM} {F : Nat → Prop}
end Go.Proofs.YthaliljaglldjaaGreat
