/- A part of the proof, several texts in one: FormA, Fits, Lives, WNoneA. -/
import Derived.Test.YthebeomenjfdlaaGreatmAB
import Derived.Test.YthebeomenjfdlaaGreatmAJ
import Derived.Test.YthebeomenjfdlaaGreatmAC
import Derived.Deep.QuietTactic
import Derived.BigQuiet
import Derived.Test.YthebeomenjfdlaaGreatmAG
import Derived.Test.YthebeomenjfdlaaGreatmAH
import Derived.Test.YthebeomenjfdlaaGreatmAD
import Derived.Test.YthebeomenjfdlaaGreatmAI
import Derived.Sort.QuietIn
import Derived.Sort.CutIn
import Derived.LoopNIn
/- form: a What that is one. One theorem a kind; printed by gen_form.py A|B|C. -/
namespace Go.Proofs.YthebeomenjfdlaaGreat
open Go.RowKit Go.ChangeMaps Go.MapKept
variable {w : World} {p : Nat} {M : WM} {F : Nat → Prop}

set_option maxHeartbeats 1000000 in
set_option maxRecDepth 8000 in
theorem form_1 (hW : IsW w p M F) (h vk vn : Int) (hs : sideB M h = true) (hv : Plain vk vn) : Calls Tryz.prog 80 #[.pointer (some ⟨p, 0, none⟩), .agg #[.int .u8 1, .int .i64 h, .int .u8 vk, .int .i64 vn, .string ⟨#[]⟩, .slice none 0 0, .int .i64 0, .slice none 0 0, .int .i64 0, .int .i64 0, .int .i64 0, .int .i64 0, .int .u8 0, .bool false, .slice none 0 0, .slice none 0 0]] w fun e w' => e = .returned (.bool true) ∧ Below w.heap.size w w' := by
  have hP : Plain vk vn := hv
  have hV : ∀ w : World, Calls Tryz.prog 59 #[.agg #[.int .u8 vk, .int .i64 vn, .string ⟨#[]⟩, .slice none 0 0, .int .i64 0]] w fun e w' => e = .returned (.bool true) ∧ Below w.heap.size w w' := fun w => vMay_W w vk vn hP
  rcases hv with ⟨rfl, rfl⟩ | rfl
  · go_enter Tryz.func80, Tryz.ntmps80
    go_wp2_with fail
    refine (bare_1 _ h 0 0 0 0 0 0 0 0 ⟨#[]⟩ false none none none none 0 0 0 0 0 0 0 0).mono ?_
    rintro e w1 ⟨rfl, hb1⟩
    have B1 := below_blk hb1 (blk_new _ _)
    obtain ⟨a0, a1, a2, a3, a4, a5, a6, a7, a8, a9, a10, a11, a12, a13, a14, a15⟩ := cells16 B1
    have hz1 : w.heap.size < w1.heap.size := by have := hb1.size; simp at this; omega
    have HB1 : Hid (Below w.heap.size w w1) := ((Below.refl _ _).alloc (Nat.le_refl _) _).trans (hb1.mono (by simp; try omega))
    clear hb1
    go_wp2_with fail
    refine (blank0_W _).mono ?_
    rintro e w2 ⟨rfl, hb2⟩
    have B2 := below_blk hb2 (blk_old _ _ B1)
    clear a0 a1 a2 a3 a4 a5 a6 a7 a8 a9 a10 a11 a12 a13 a14 a15
    obtain ⟨a0, a1, a2, a3, a4, a5, a6, a7, a8, a9, a10, a11, a12, a13, a14, a15⟩ := cells16 B2
    have hz2 : w.heap.size < w2.heap.size := by have := hb2.size; simp at this; omega
    have HB2 : Hid (Below w.heap.size w w2) := (HB1.out.alloc (by first | omega | (simp; try omega)) _).trans (hb2.mono (by first | omega | (simp; try omega)))
    clear hb2 B1 HB1 hz1
    go_wp2_with fail
    refine (blank0_W _).mono ?_
    rintro e w3 ⟨rfl, hb3⟩
    have B3 := below_blk hb3 B2
    clear a0 a1 a2 a3 a4 a5 a6 a7 a8 a9 a10 a11 a12 a13 a14 a15
    obtain ⟨a0, a1, a2, a3, a4, a5, a6, a7, a8, a9, a10, a11, a12, a13, a14, a15⟩ := cells16 B3
    have hz3 : w.heap.size < w3.heap.size := by have := hb3.size; omega
    have HB3 : Hid (Below w.heap.size w w3) := HB2.out.trans (hb3.mono (by first | omega | (simp; try omega)))
    clear hb3 B2 HB2 hz2
    go_wp2_with fail
    refine (side_W (hW.below HB3.out) h).mono ?_
    rw [hs]
    rintro e _ ⟨rfl, rfl⟩
    go_wp2_with fail
    refine (hV _).mono ?_
    rintro e w4 ⟨rfl, hb4⟩
    have B4 := below_blk hb4 B3
    clear a0 a1 a2 a3 a4 a5 a6 a7 a8 a9 a10 a11 a12 a13 a14 a15
    obtain ⟨a0, a1, a2, a3, a4, a5, a6, a7, a8, a9, a10, a11, a12, a13, a14, a15⟩ := cells16 B4
    have hz4 : w.heap.size < w4.heap.size := by have := hb4.size; omega
    have HB4 : Hid (Below w.heap.size w w4) := HB3.out.trans (hb4.mono (by first | omega | (simp; try omega)))
    clear hb4 B3 HB3 hz3
    go_wp2_with fail
    refine (vOf_W _).mono ?_
    rintro e w5 ⟨rfl, hb5⟩
    have B5 := below_blk hb5 B4
    clear a0 a1 a2 a3 a4 a5 a6 a7 a8 a9 a10 a11 a12 a13 a14 a15
    obtain ⟨a0, a1, a2, a3, a4, a5, a6, a7, a8, a9, a10, a11, a12, a13, a14, a15⟩ := cells16 B5
    have hz5 : w.heap.size < w5.heap.size := by have := hb5.size; omega
    have HB5 : Hid (Below w.heap.size w w5) := HB4.out.trans (hb5.mono (by first | omega | (simp; try omega)))
    clear hb5 B4 HB4 hz4
    go_wp2_with fail
    go_rounds 1
    have hB := HB5.out
    have hZ : w.heap.size ≤ w5.heap.size := by omega
    go_ret
    exact ⟨rfl, by go_grown⟩
  · go_enter Tryz.func80, Tryz.ntmps80
    go_wp2_with fail
    refine (bare_1 _ h vn 0 0 0 0 0 1 0 ⟨#[]⟩ false none none none none 0 0 0 0 0 0 0 0).mono ?_
    rintro e w1 ⟨rfl, hb1⟩
    have B1 := below_blk hb1 (blk_new _ _)
    obtain ⟨a0, a1, a2, a3, a4, a5, a6, a7, a8, a9, a10, a11, a12, a13, a14, a15⟩ := cells16 B1
    have hz1 : w.heap.size < w1.heap.size := by have := hb1.size; simp at this; omega
    have HB1 : Hid (Below w.heap.size w w1) := ((Below.refl _ _).alloc (Nat.le_refl _) _).trans (hb1.mono (by simp; try omega))
    clear hb1
    go_wp2_with fail
    refine (blank1_W _ vn).mono ?_
    rintro e w2 ⟨rfl, hb2⟩
    have B2 := below_blk hb2 (blk_old _ _ B1)
    clear a0 a1 a2 a3 a4 a5 a6 a7 a8 a9 a10 a11 a12 a13 a14 a15
    obtain ⟨a0, a1, a2, a3, a4, a5, a6, a7, a8, a9, a10, a11, a12, a13, a14, a15⟩ := cells16 B2
    have hz2 : w.heap.size < w2.heap.size := by have := hb2.size; simp at this; omega
    have HB2 : Hid (Below w.heap.size w w2) := (HB1.out.alloc (by first | omega | (simp; try omega)) _).trans (hb2.mono (by first | omega | (simp; try omega)))
    clear hb2 B1 HB1 hz1
    go_wp2_with fail
    refine (side_W (hW.below HB2.out) h).mono ?_
    rw [hs]
    rintro e _ ⟨rfl, rfl⟩
    go_wp2_with fail
    refine (hV _).mono ?_
    rintro e w3 ⟨rfl, hb3⟩
    have B3 := below_blk hb3 B2
    clear a0 a1 a2 a3 a4 a5 a6 a7 a8 a9 a10 a11 a12 a13 a14 a15
    obtain ⟨a0, a1, a2, a3, a4, a5, a6, a7, a8, a9, a10, a11, a12, a13, a14, a15⟩ := cells16 B3
    have hz3 : w.heap.size < w3.heap.size := by have := hb3.size; omega
    have HB3 : Hid (Below w.heap.size w w3) := HB2.out.trans (hb3.mono (by first | omega | (simp; try omega)))
    clear hb3 B2 HB2 hz2
    go_wp2_with fail
    refine (vOf_W _).mono ?_
    rintro e w4 ⟨rfl, hb4⟩
    have B4 := below_blk hb4 B3
    clear a0 a1 a2 a3 a4 a5 a6 a7 a8 a9 a10 a11 a12 a13 a14 a15
    obtain ⟨a0, a1, a2, a3, a4, a5, a6, a7, a8, a9, a10, a11, a12, a13, a14, a15⟩ := cells16 B4
    have hz4 : w.heap.size < w4.heap.size := by have := hb4.size; omega
    have HB4 : Hid (Below w.heap.size w w4) := HB3.out.trans (hb4.mono (by first | omega | (simp; try omega)))
    clear hb4 B3 HB3 hz3
    go_wp2_with fail
    go_rounds 1
    have hB := HB4.out
    have hZ : w.heap.size ≤ w4.heap.size := by omega
    go_ret
    exact ⟨rfl, by go_grown⟩

set_option maxHeartbeats 1000000 in
set_option maxRecDepth 8000 in
theorem form_2 (hW : IsW w p M F) (h : Int) (hs : sideB M h = true) : Calls Tryz.prog 80 #[.pointer (some ⟨p, 0, none⟩), .agg #[.int .u8 2, .int .i64 h, .int .u8 0, .int .i64 0, .string ⟨#[]⟩, .slice none 0 0, .int .i64 0, .slice none 0 0, .int .i64 0, .int .i64 0, .int .i64 0, .int .i64 0, .int .u8 0, .bool false, .slice none 0 0, .slice none 0 0]] w fun e w' => e = .returned (.bool true) ∧ Below w.heap.size w w' := by
  have hV : ∀ w : World, Calls Tryz.prog 59 #[.agg #[.int .u8 0, .int .i64 0, .string ⟨#[]⟩, .slice none 0 0, .int .i64 0]] w fun e w' => e = .returned (.bool true) ∧ Below w.heap.size w w' := fun w => vMay_W w 0 0 (.inl ⟨rfl, rfl⟩)
  go_enter Tryz.func80, Tryz.ntmps80
  go_wp2_with fail
  refine (bare_2 _ h 0 0 0 0 0 0 0 0 ⟨#[]⟩ false none none none none 0 0 0 0 0 0 0 0).mono ?_
  rintro e w1 ⟨rfl, hb1⟩
  have B1 := below_blk hb1 (blk_new _ _)
  obtain ⟨a0, a1, a2, a3, a4, a5, a6, a7, a8, a9, a10, a11, a12, a13, a14, a15⟩ := cells16 B1
  have hz1 : w.heap.size < w1.heap.size := by have := hb1.size; simp at this; omega
  have HB1 : Hid (Below w.heap.size w w1) := ((Below.refl _ _).alloc (Nat.le_refl _) _).trans (hb1.mono (by simp; try omega))
  clear hb1
  go_wp2_with fail
  refine (blank0_W _).mono ?_
  rintro e w2 ⟨rfl, hb2⟩
  have B2 := below_blk hb2 (blk_old _ _ B1)
  clear a0 a1 a2 a3 a4 a5 a6 a7 a8 a9 a10 a11 a12 a13 a14 a15
  obtain ⟨a0, a1, a2, a3, a4, a5, a6, a7, a8, a9, a10, a11, a12, a13, a14, a15⟩ := cells16 B2
  have hz2 : w.heap.size < w2.heap.size := by have := hb2.size; simp at this; omega
  have HB2 : Hid (Below w.heap.size w w2) := (HB1.out.alloc (by first | omega | (simp; try omega)) _).trans (hb2.mono (by first | omega | (simp; try omega)))
  clear hb2 B1 HB1 hz1
  go_wp2_with fail
  refine (blank0_W _).mono ?_
  rintro e w3 ⟨rfl, hb3⟩
  have B3 := below_blk hb3 B2
  clear a0 a1 a2 a3 a4 a5 a6 a7 a8 a9 a10 a11 a12 a13 a14 a15
  obtain ⟨a0, a1, a2, a3, a4, a5, a6, a7, a8, a9, a10, a11, a12, a13, a14, a15⟩ := cells16 B3
  have hz3 : w.heap.size < w3.heap.size := by have := hb3.size; omega
  have HB3 : Hid (Below w.heap.size w w3) := HB2.out.trans (hb3.mono (by first | omega | (simp; try omega)))
  clear hb3 B2 HB2 hz2
  go_wp2_with fail
  refine (side_W (hW.below HB3.out) h).mono ?_
  rw [hs]
  rintro e _ ⟨rfl, rfl⟩
  go_wp2_with fail
  refine (hV _).mono ?_
  rintro e w4 ⟨rfl, hb4⟩
  have B4 := below_blk hb4 B3
  clear a0 a1 a2 a3 a4 a5 a6 a7 a8 a9 a10 a11 a12 a13 a14 a15
  obtain ⟨a0, a1, a2, a3, a4, a5, a6, a7, a8, a9, a10, a11, a12, a13, a14, a15⟩ := cells16 B4
  have hz4 : w.heap.size < w4.heap.size := by have := hb4.size; omega
  have HB4 : Hid (Below w.heap.size w w4) := HB3.out.trans (hb4.mono (by first | omega | (simp; try omega)))
  clear hb4 B3 HB3 hz3
  go_wp2_with fail
  refine (vOf_W _).mono ?_
  rintro e w5 ⟨rfl, hb5⟩
  have B5 := below_blk hb5 B4
  clear a0 a1 a2 a3 a4 a5 a6 a7 a8 a9 a10 a11 a12 a13 a14 a15
  obtain ⟨a0, a1, a2, a3, a4, a5, a6, a7, a8, a9, a10, a11, a12, a13, a14, a15⟩ := cells16 B5
  have hz5 : w.heap.size < w5.heap.size := by have := hb5.size; omega
  have HB5 : Hid (Below w.heap.size w w5) := HB4.out.trans (hb5.mono (by first | omega | (simp; try omega)))
  clear hb5 B4 HB4 hz4
  go_wp2_with fail
  go_rounds 1
  have hB := HB5.out
  have hZ : w.heap.size ≤ w5.heap.size := by omega
  go_ret
  exact ⟨rfl, by go_grown⟩

set_option maxHeartbeats 1000000 in
set_option maxRecDepth 8000 in
theorem form_4 (hW : IsW w p M F) (h : Int) (hs : sideB M h = true) : Calls Tryz.prog 80 #[.pointer (some ⟨p, 0, none⟩), .agg #[.int .u8 4, .int .i64 h, .int .u8 0, .int .i64 0, .string ⟨#[]⟩, .slice none 0 0, .int .i64 0, .slice none 0 0, .int .i64 0, .int .i64 0, .int .i64 0, .int .i64 0, .int .u8 0, .bool false, .slice none 0 0, .slice none 0 0]] w fun e w' => e = .returned (.bool true) ∧ Below w.heap.size w w' := by
  have hV : ∀ w : World, Calls Tryz.prog 59 #[.agg #[.int .u8 0, .int .i64 0, .string ⟨#[]⟩, .slice none 0 0, .int .i64 0]] w fun e w' => e = .returned (.bool true) ∧ Below w.heap.size w w' := fun w => vMay_W w 0 0 (.inl ⟨rfl, rfl⟩)
  go_enter Tryz.func80, Tryz.ntmps80
  go_wp2_with fail
  refine (bare_4 _ h 0 0 0 0 0 0 0 0 ⟨#[]⟩ false none none none none 0 0 0 0 0 0 0 0).mono ?_
  rintro e w1 ⟨rfl, hb1⟩
  have B1 := below_blk hb1 (blk_new _ _)
  obtain ⟨a0, a1, a2, a3, a4, a5, a6, a7, a8, a9, a10, a11, a12, a13, a14, a15⟩ := cells16 B1
  have hz1 : w.heap.size < w1.heap.size := by have := hb1.size; simp at this; omega
  have HB1 : Hid (Below w.heap.size w w1) := ((Below.refl _ _).alloc (Nat.le_refl _) _).trans (hb1.mono (by simp; try omega))
  clear hb1
  go_wp2_with fail
  refine (blank0_W _).mono ?_
  rintro e w2 ⟨rfl, hb2⟩
  have B2 := below_blk hb2 (blk_old _ _ B1)
  clear a0 a1 a2 a3 a4 a5 a6 a7 a8 a9 a10 a11 a12 a13 a14 a15
  obtain ⟨a0, a1, a2, a3, a4, a5, a6, a7, a8, a9, a10, a11, a12, a13, a14, a15⟩ := cells16 B2
  have hz2 : w.heap.size < w2.heap.size := by have := hb2.size; simp at this; omega
  have HB2 : Hid (Below w.heap.size w w2) := (HB1.out.alloc (by first | omega | (simp; try omega)) _).trans (hb2.mono (by first | omega | (simp; try omega)))
  clear hb2 B1 HB1 hz1
  go_wp2_with fail
  refine (blank0_W _).mono ?_
  rintro e w3 ⟨rfl, hb3⟩
  have B3 := below_blk hb3 B2
  clear a0 a1 a2 a3 a4 a5 a6 a7 a8 a9 a10 a11 a12 a13 a14 a15
  obtain ⟨a0, a1, a2, a3, a4, a5, a6, a7, a8, a9, a10, a11, a12, a13, a14, a15⟩ := cells16 B3
  have hz3 : w.heap.size < w3.heap.size := by have := hb3.size; omega
  have HB3 : Hid (Below w.heap.size w w3) := HB2.out.trans (hb3.mono (by first | omega | (simp; try omega)))
  clear hb3 B2 HB2 hz2
  go_wp2_with fail
  refine (side_W (hW.below HB3.out) h).mono ?_
  rw [hs]
  rintro e _ ⟨rfl, rfl⟩
  go_wp2_with fail
  refine (hV _).mono ?_
  rintro e w4 ⟨rfl, hb4⟩
  have B4 := below_blk hb4 B3
  clear a0 a1 a2 a3 a4 a5 a6 a7 a8 a9 a10 a11 a12 a13 a14 a15
  obtain ⟨a0, a1, a2, a3, a4, a5, a6, a7, a8, a9, a10, a11, a12, a13, a14, a15⟩ := cells16 B4
  have hz4 : w.heap.size < w4.heap.size := by have := hb4.size; omega
  have HB4 : Hid (Below w.heap.size w w4) := HB3.out.trans (hb4.mono (by first | omega | (simp; try omega)))
  clear hb4 B3 HB3 hz3
  go_wp2_with fail
  refine (vOf_W _).mono ?_
  rintro e w5 ⟨rfl, hb5⟩
  have B5 := below_blk hb5 B4
  clear a0 a1 a2 a3 a4 a5 a6 a7 a8 a9 a10 a11 a12 a13 a14 a15
  obtain ⟨a0, a1, a2, a3, a4, a5, a6, a7, a8, a9, a10, a11, a12, a13, a14, a15⟩ := cells16 B5
  have hz5 : w.heap.size < w5.heap.size := by have := hb5.size; omega
  have HB5 : Hid (Below w.heap.size w w5) := HB4.out.trans (hb5.mono (by first | omega | (simp; try omega)))
  clear hb5 B4 HB4 hz4
  go_wp2_with fail
  go_rounds 1
  have hB := HB5.out
  have hZ : w.heap.size ≤ w5.heap.size := by omega
  go_ret
  exact ⟨rfl, by go_grown⟩

set_option maxHeartbeats 1000000 in
set_option maxRecDepth 8000 in
theorem form_5 (hW : IsW w p M F) (h : Int) (hs : sideB M h = true) : Calls Tryz.prog 80 #[.pointer (some ⟨p, 0, none⟩), .agg #[.int .u8 5, .int .i64 h, .int .u8 0, .int .i64 0, .string ⟨#[]⟩, .slice none 0 0, .int .i64 0, .slice none 0 0, .int .i64 0, .int .i64 0, .int .i64 0, .int .i64 0, .int .u8 0, .bool false, .slice none 0 0, .slice none 0 0]] w fun e w' => e = .returned (.bool true) ∧ Below w.heap.size w w' := by
  have hV : ∀ w : World, Calls Tryz.prog 59 #[.agg #[.int .u8 0, .int .i64 0, .string ⟨#[]⟩, .slice none 0 0, .int .i64 0]] w fun e w' => e = .returned (.bool true) ∧ Below w.heap.size w w' := fun w => vMay_W w 0 0 (.inl ⟨rfl, rfl⟩)
  go_enter Tryz.func80, Tryz.ntmps80
  go_wp2_with fail
  refine (bare_5 _ h 0 0 0 0 0 0 0 0 ⟨#[]⟩ false none none none none 0 0 0 0 0 0 0 0).mono ?_
  rintro e w1 ⟨rfl, hb1⟩
  have B1 := below_blk hb1 (blk_new _ _)
  obtain ⟨a0, a1, a2, a3, a4, a5, a6, a7, a8, a9, a10, a11, a12, a13, a14, a15⟩ := cells16 B1
  have hz1 : w.heap.size < w1.heap.size := by have := hb1.size; simp at this; omega
  have HB1 : Hid (Below w.heap.size w w1) := ((Below.refl _ _).alloc (Nat.le_refl _) _).trans (hb1.mono (by simp; try omega))
  clear hb1
  go_wp2_with fail
  refine (blank0_W _).mono ?_
  rintro e w2 ⟨rfl, hb2⟩
  have B2 := below_blk hb2 (blk_old _ _ B1)
  clear a0 a1 a2 a3 a4 a5 a6 a7 a8 a9 a10 a11 a12 a13 a14 a15
  obtain ⟨a0, a1, a2, a3, a4, a5, a6, a7, a8, a9, a10, a11, a12, a13, a14, a15⟩ := cells16 B2
  have hz2 : w.heap.size < w2.heap.size := by have := hb2.size; simp at this; omega
  have HB2 : Hid (Below w.heap.size w w2) := (HB1.out.alloc (by first | omega | (simp; try omega)) _).trans (hb2.mono (by first | omega | (simp; try omega)))
  clear hb2 B1 HB1 hz1
  go_wp2_with fail
  refine (blank0_W _).mono ?_
  rintro e w3 ⟨rfl, hb3⟩
  have B3 := below_blk hb3 B2
  clear a0 a1 a2 a3 a4 a5 a6 a7 a8 a9 a10 a11 a12 a13 a14 a15
  obtain ⟨a0, a1, a2, a3, a4, a5, a6, a7, a8, a9, a10, a11, a12, a13, a14, a15⟩ := cells16 B3
  have hz3 : w.heap.size < w3.heap.size := by have := hb3.size; omega
  have HB3 : Hid (Below w.heap.size w w3) := HB2.out.trans (hb3.mono (by first | omega | (simp; try omega)))
  clear hb3 B2 HB2 hz2
  go_wp2_with fail
  refine (side_W (hW.below HB3.out) h).mono ?_
  rw [hs]
  rintro e _ ⟨rfl, rfl⟩
  go_wp2_with fail
  refine (hV _).mono ?_
  rintro e w4 ⟨rfl, hb4⟩
  have B4 := below_blk hb4 B3
  clear a0 a1 a2 a3 a4 a5 a6 a7 a8 a9 a10 a11 a12 a13 a14 a15
  obtain ⟨a0, a1, a2, a3, a4, a5, a6, a7, a8, a9, a10, a11, a12, a13, a14, a15⟩ := cells16 B4
  have hz4 : w.heap.size < w4.heap.size := by have := hb4.size; omega
  have HB4 : Hid (Below w.heap.size w w4) := HB3.out.trans (hb4.mono (by first | omega | (simp; try omega)))
  clear hb4 B3 HB3 hz3
  go_wp2_with fail
  refine (vOf_W _).mono ?_
  rintro e w5 ⟨rfl, hb5⟩
  have B5 := below_blk hb5 B4
  clear a0 a1 a2 a3 a4 a5 a6 a7 a8 a9 a10 a11 a12 a13 a14 a15
  obtain ⟨a0, a1, a2, a3, a4, a5, a6, a7, a8, a9, a10, a11, a12, a13, a14, a15⟩ := cells16 B5
  have hz5 : w.heap.size < w5.heap.size := by have := hb5.size; omega
  have HB5 : Hid (Below w.heap.size w w5) := HB4.out.trans (hb5.mono (by first | omega | (simp; try omega)))
  clear hb5 B4 HB4 hz4
  go_wp2_with fail
  go_rounds 1
  have hB := HB5.out
  have hZ : w.heap.size ≤ w5.heap.size := by omega
  go_ret
  exact ⟨rfl, by go_grown⟩

set_option maxHeartbeats 1000000 in
set_option maxRecDepth 8000 in
theorem form_6 (hW : IsW w p M F) (h tg : Int) (hs : sideB M h = true) : Calls Tryz.prog 80 #[.pointer (some ⟨p, 0, none⟩), .agg #[.int .u8 6, .int .i64 h, .int .u8 0, .int .i64 0, .string ⟨#[]⟩, .slice none 0 0, .int .i64 0, .slice none 0 0, .int .i64 0, .int .i64 0, .int .i64 tg, .int .i64 0, .int .u8 0, .bool false, .slice none 0 0, .slice none 0 0]] w fun e w' => e = .returned (.bool true) ∧ Below w.heap.size w w' := by
  have hV : ∀ w : World, Calls Tryz.prog 59 #[.agg #[.int .u8 0, .int .i64 0, .string ⟨#[]⟩, .slice none 0 0, .int .i64 0]] w fun e w' => e = .returned (.bool true) ∧ Below w.heap.size w w' := fun w => vMay_W w 0 0 (.inl ⟨rfl, rfl⟩)
  go_enter Tryz.func80, Tryz.ntmps80
  go_wp2_with fail
  refine (bare_6 _ h 0 0 0 0 tg 0 0 0 ⟨#[]⟩ false none none none none 0 0 0 0 0 0 0 0).mono ?_
  rintro e w1 ⟨rfl, hb1⟩
  have B1 := below_blk hb1 (blk_new _ _)
  obtain ⟨a0, a1, a2, a3, a4, a5, a6, a7, a8, a9, a10, a11, a12, a13, a14, a15⟩ := cells16 B1
  have hz1 : w.heap.size < w1.heap.size := by have := hb1.size; simp at this; omega
  have HB1 : Hid (Below w.heap.size w w1) := ((Below.refl _ _).alloc (Nat.le_refl _) _).trans (hb1.mono (by simp; try omega))
  clear hb1
  go_wp2_with fail
  refine (blank0_W _).mono ?_
  rintro e w2 ⟨rfl, hb2⟩
  have B2 := below_blk hb2 (blk_old _ _ B1)
  clear a0 a1 a2 a3 a4 a5 a6 a7 a8 a9 a10 a11 a12 a13 a14 a15
  obtain ⟨a0, a1, a2, a3, a4, a5, a6, a7, a8, a9, a10, a11, a12, a13, a14, a15⟩ := cells16 B2
  have hz2 : w.heap.size < w2.heap.size := by have := hb2.size; simp at this; omega
  have HB2 : Hid (Below w.heap.size w w2) := (HB1.out.alloc (by first | omega | (simp; try omega)) _).trans (hb2.mono (by first | omega | (simp; try omega)))
  clear hb2 B1 HB1 hz1
  go_wp2_with fail
  refine (blank0_W _).mono ?_
  rintro e w3 ⟨rfl, hb3⟩
  have B3 := below_blk hb3 B2
  clear a0 a1 a2 a3 a4 a5 a6 a7 a8 a9 a10 a11 a12 a13 a14 a15
  obtain ⟨a0, a1, a2, a3, a4, a5, a6, a7, a8, a9, a10, a11, a12, a13, a14, a15⟩ := cells16 B3
  have hz3 : w.heap.size < w3.heap.size := by have := hb3.size; omega
  have HB3 : Hid (Below w.heap.size w w3) := HB2.out.trans (hb3.mono (by first | omega | (simp; try omega)))
  clear hb3 B2 HB2 hz2
  go_wp2_with fail
  refine (side_W (hW.below HB3.out) h).mono ?_
  rw [hs]
  rintro e _ ⟨rfl, rfl⟩
  go_wp2_with fail
  refine (hV _).mono ?_
  rintro e w4 ⟨rfl, hb4⟩
  have B4 := below_blk hb4 B3
  clear a0 a1 a2 a3 a4 a5 a6 a7 a8 a9 a10 a11 a12 a13 a14 a15
  obtain ⟨a0, a1, a2, a3, a4, a5, a6, a7, a8, a9, a10, a11, a12, a13, a14, a15⟩ := cells16 B4
  have hz4 : w.heap.size < w4.heap.size := by have := hb4.size; omega
  have HB4 : Hid (Below w.heap.size w w4) := HB3.out.trans (hb4.mono (by first | omega | (simp; try omega)))
  clear hb4 B3 HB3 hz3
  go_wp2_with fail
  refine (vOf_W _).mono ?_
  rintro e w5 ⟨rfl, hb5⟩
  have B5 := below_blk hb5 B4
  clear a0 a1 a2 a3 a4 a5 a6 a7 a8 a9 a10 a11 a12 a13 a14 a15
  obtain ⟨a0, a1, a2, a3, a4, a5, a6, a7, a8, a9, a10, a11, a12, a13, a14, a15⟩ := cells16 B5
  have hz5 : w.heap.size < w5.heap.size := by have := hb5.size; omega
  have HB5 : Hid (Below w.heap.size w w5) := HB4.out.trans (hb5.mono (by first | omega | (simp; try omega)))
  clear hb5 B4 HB4 hz4
  go_wp2_with fail
  go_rounds 1
  have hB := HB5.out
  have hZ : w.heap.size ≤ w5.heap.size := by omega
  go_ret
  exact ⟨rfl, by go_grown⟩

end Go.Proofs.YthebeomenjfdlaaGreat
/- fits at the kinds that ask for nothing. Printed by gen_fits.py. -/
namespace Go.Proofs.YthebeomenjfdlaaGreat
open Go.RowKit Go.ChangeMaps Go.MapKept
variable {w : World} {p : Nat} {M : WM} {F : Nat → Prop}

set_option maxRecDepth 8000 in
theorem fits_1 (w : World) (q : Option Addr) (r h vk vn n l tg bi s : Int) (fu : Bool) : Calls Tryz.prog 84 #[.pointer q, .int .i64 r, .agg #[.int .u8 1, .int .i64 h, .int .u8 vk, .int .i64 vn, .string ⟨#[]⟩, .slice none 0 0, .int .i64 0, .slice none 0 0, .int .i64 n, .int .i64 l, .int .i64 tg, .int .i64 bi, .int .u8 s, .bool fu, .slice none 0 0, .slice none 0 0]] w fun e w' => e = .returned (.bool true) ∧ Below w.heap.size w w' := by
  go_enter Tryz.func84, Tryz.ntmps84
  go_wp2
  go_ret
  exact ⟨rfl, by go_grown⟩

set_option maxRecDepth 8000 in
theorem fits_2 (w : World) (q : Option Addr) (r h vk vn n l tg bi s : Int) (fu : Bool) : Calls Tryz.prog 84 #[.pointer q, .int .i64 r, .agg #[.int .u8 2, .int .i64 h, .int .u8 vk, .int .i64 vn, .string ⟨#[]⟩, .slice none 0 0, .int .i64 0, .slice none 0 0, .int .i64 n, .int .i64 l, .int .i64 tg, .int .i64 bi, .int .u8 s, .bool fu, .slice none 0 0, .slice none 0 0]] w fun e w' => e = .returned (.bool true) ∧ Below w.heap.size w w' := by
  go_enter Tryz.func84, Tryz.ntmps84
  go_wp2
  go_ret
  exact ⟨rfl, by go_grown⟩

set_option maxRecDepth 8000 in
theorem fits_3 (w : World) (q : Option Addr) (r h vk vn n l tg bi s : Int) (fu : Bool) : Calls Tryz.prog 84 #[.pointer q, .int .i64 r, .agg #[.int .u8 3, .int .i64 h, .int .u8 vk, .int .i64 vn, .string ⟨#[]⟩, .slice none 0 0, .int .i64 0, .slice none 0 0, .int .i64 n, .int .i64 l, .int .i64 tg, .int .i64 bi, .int .u8 s, .bool fu, .slice none 0 0, .slice none 0 0]] w fun e w' => e = .returned (.bool true) ∧ Below w.heap.size w w' := by
  go_enter Tryz.func84, Tryz.ntmps84
  go_wp2
  go_ret
  exact ⟨rfl, by go_grown⟩

set_option maxRecDepth 8000 in
theorem fits_4 (w : World) (q : Option Addr) (r h vk vn n l tg bi s : Int) (fu : Bool) : Calls Tryz.prog 84 #[.pointer q, .int .i64 r, .agg #[.int .u8 4, .int .i64 h, .int .u8 vk, .int .i64 vn, .string ⟨#[]⟩, .slice none 0 0, .int .i64 0, .slice none 0 0, .int .i64 n, .int .i64 l, .int .i64 tg, .int .i64 bi, .int .u8 s, .bool fu, .slice none 0 0, .slice none 0 0]] w fun e w' => e = .returned (.bool true) ∧ Below w.heap.size w w' := by
  go_enter Tryz.func84, Tryz.ntmps84
  go_wp2
  go_ret
  exact ⟨rfl, by go_grown⟩

set_option maxRecDepth 8000 in
theorem fits_5 (w : World) (q : Option Addr) (r h vk vn n l tg bi s : Int) (fu : Bool) : Calls Tryz.prog 84 #[.pointer q, .int .i64 r, .agg #[.int .u8 5, .int .i64 h, .int .u8 vk, .int .i64 vn, .string ⟨#[]⟩, .slice none 0 0, .int .i64 0, .slice none 0 0, .int .i64 n, .int .i64 l, .int .i64 tg, .int .i64 bi, .int .u8 s, .bool fu, .slice none 0 0, .slice none 0 0]] w fun e w' => e = .returned (.bool true) ∧ Below w.heap.size w w' := by
  go_enter Tryz.func84, Tryz.ntmps84
  go_wp2
  go_ret
  exact ⟨rfl, by go_grown⟩

set_option maxRecDepth 8000 in
theorem fits_8 (w : World) (q : Option Addr) (r h vk vn n l tg bi s : Int) (fu : Bool) : Calls Tryz.prog 84 #[.pointer q, .int .i64 r, .agg #[.int .u8 8, .int .i64 h, .int .u8 vk, .int .i64 vn, .string ⟨#[]⟩, .slice none 0 0, .int .i64 0, .slice none 0 0, .int .i64 n, .int .i64 l, .int .i64 tg, .int .i64 bi, .int .u8 s, .bool fu, .slice none 0 0, .slice none 0 0]] w fun e w' => e = .returned (.bool true) ∧ Below w.heap.size w w' := by
  go_enter Tryz.func84, Tryz.ntmps84
  go_wp2
  go_ret
  exact ⟨rfl, by go_grown⟩

set_option maxRecDepth 8000 in
theorem fits_10 (w : World) (q : Option Addr) (r h vk vn n l tg bi s : Int) (fu : Bool) : Calls Tryz.prog 84 #[.pointer q, .int .i64 r, .agg #[.int .u8 10, .int .i64 h, .int .u8 vk, .int .i64 vn, .string ⟨#[]⟩, .slice none 0 0, .int .i64 0, .slice none 0 0, .int .i64 n, .int .i64 l, .int .i64 tg, .int .i64 bi, .int .u8 s, .bool fu, .slice none 0 0, .slice none 0 0]] w fun e w' => e = .returned (.bool true) ∧ Below w.heap.size w w' := by
  go_enter Tryz.func84, Tryz.ntmps84
  go_wp2
  go_ret
  exact ⟨rfl, by go_grown⟩

set_option maxRecDepth 8000 in
theorem fits_12 (w : World) (q : Option Addr) (r h vk vn n l tg bi s : Int) (fu : Bool) : Calls Tryz.prog 84 #[.pointer q, .int .i64 r, .agg #[.int .u8 12, .int .i64 h, .int .u8 vk, .int .i64 vn, .string ⟨#[]⟩, .slice none 0 0, .int .i64 0, .slice none 0 0, .int .i64 n, .int .i64 l, .int .i64 tg, .int .i64 bi, .int .u8 s, .bool fu, .slice none 0 0, .slice none 0 0]] w fun e w' => e = .returned (.bool true) ∧ Below w.heap.size w w' := by
  go_enter Tryz.func84, Tryz.ntmps84
  go_wp2
  go_ret
  exact ⟨rfl, by go_grown⟩

end Go.Proofs.YthebeomenjfdlaaGreat
/- lives of posternlaw07: it is true. -/
namespace Go.Proofs.YthebeomenjfdlaaGreat
open Go.RowKit Go.ChangeMaps Go.MapKept

def LM0 : WM := WM.new [0, 0, 1]
def LM1 : WM := LM0.add (lt 1 1 1 7 0 0 0 0 0 false)
def LM2 : WM := LM1.add (ft 1 1)
def LM3 : WM := LM2.cutE 1

theorem ltree : TreeOk [0, 0, 1] := ⟨by decide, fun i p h => by
  match i, h with
  | 0, h => simp at h; omega
  | 1, h => simp at h; omega
  | 2, h => simp at h; omega⟩
theorem lnotree : ¬ TreeOk [0, 2] := fun h => by
  have := (h.2 1 2 rfl).2
  omega
theorem ladd : AddOk LM0 (lt 1 1 1 7 0 0 0 0 0 false) where
  wf := ⟨by show (1 : Int) ≤ 1 ∧ (1 : Int) ≤ 16; decide, rfl, rfl, by show (0 : Int) ≤ 0 ∧ (0 : Int) ≤ 255; decide⟩
  last := by decide
  home := fun _ => by decide
  made := fun _ => by decide
  wrap := fun h => absurd h (by decide)
  gate := fun h => absurd h (by decide)
  purse := fun h => absurd h (by decide)
  facet := fun h => absurd h (by decide)
theorem lable1 : AbleIs LM1 63 1 3 := AbleIs.mk_base (t := lt 1 1 1 7 0 0 0 0 0 false) rfl (by decide) (by decide)
theorem lable2 : AbleIs LM2 63 1 3 := AbleIs.mk_base (t := lt 1 1 1 7 0 0 0 0 0 false) rfl (by decide) (by decide)
theorem lable3 : AbleIs LM3 63 2 1 := AbleIs.mk_facet (t := ft 1 1) rfl rfl (AbleIs.mk_base (t := lt 1 1 1 7 0 0 0 0 0 false) rfl (by decide) (by decide))
theorem lway : WayIs LM3 2 [2, 1] := WayIs.mk_wrap (t := ft 1 1) rfl rfl (WayIs.mk_base (t := lt 1 1 1 7 0 0 0 0 0 false) rfl rfl)
theorem lfree0 : freeL LM3 0 [2, 1] = false := by decide
theorem lfree3 : freeL LM3 3 [2, 1] = true := by decide
theorem lfind1 : LM1.find 1 1 = none := by decide
theorem lfind2 : LM2.find 1 1 = some 2 := by decide
theorem lall : ∀ x ∈ ([2, 1] : List Int), ∃ t, LM3.at x = some t ∧ t.kind ≠ 15 := by
  intro x hx
  simp only [List.mem_cons, List.not_mem_nil, or_false] at hx
  rcases hx with rfl | rfl
  · exact ⟨ft 1 1, rfl, by decide⟩
  · exact ⟨lt 1 1 1 7 0 0 0 0 0 false, rfl, by decide⟩

/-- A world of the call's own: all of it lies above what was there. -/
def Own (w0 w : World) (p : Nat) (M : WM) : Prop := ∃ F, IsW w p M F ∧ (∀ b, F b → w0.heap.size ≤ b) ∧ Below w0.heap.size w0 w
theorem Own.below {w0 w w' : World} {p : Nat} {M : WM} (h : Own w0 w p M) (hb : Below w.heap.size w w') : Own w0 w' p M := by
  obtain ⟨F, h1, h2, h3⟩ := h
  exact ⟨F, h1.below hb, h2, h3.trans (hb.mono h3.size)⟩
theorem Own.turn {w0 w w' : World} {p : Nat} {M' : WM} {F F' : Nat → Prop} (h2 : ∀ b, F b → w0.heap.size ≤ b) (h3 : Below w0.heap.size w0 w) (hW : IsW w' p M' F') (hg : Grew F w F' w') : Own w0 w' p M' := by
  refine ⟨F', hW, fun b hb => ?_, h3.trans (Keeps.below hg.1 h3.size h2)⟩
  rcases hg.2 b hb with h | h
  · exact h2 b h
  · exact Nat.le_trans h3.size h

set_option maxHeartbeats 2000000 in
set_option maxRecDepth 8000 in
theorem lives_W (w : World) : Calls Tryz.prog 32 #[] w fun e w' => e = .returned (.bool true) ∧ Below w.heap.size w w' := by
  go_enter Tryz.func32, Tryz.ntmps32
  go_wp2_with fail
  refine (New_W _ _ 3 [0, 0, 1] (.inr ⟨w.heap.size, 0, rfl, fun j x hx => ?_⟩)).mono ?_
  · rw [cell_blk (blk_new w _)]
    match j, hx with
    | 0, hx => simpa using hx
    | 1, hx => simpa using hx
    | 2, hx => simpa using hx
  rintro e w1 hpost
  obtain ⟨p, F, rfl, hW, hF, hb⟩ := (Or.resolve_right hpost (fun h => h.1 ltree)).2
  clear hpost
  have HO : Hid (Own w w1 p LM0) := ⟨F, hW, fun b h => by have := hF b h; simp at this; omega, ((Below.refl _ _).alloc (Nat.le_refl _) _).trans (hb.mono (by simp))⟩
  clear hW hF hb
  go_wp2_with fail
  refine (New_W _ _ 2 [0, 2] (.inr ⟨w1.heap.size, 0, rfl, fun j x hx => ?_⟩)).mono ?_
  · rw [cell_blk (blk_new w1 _)]
    match j, hx with
    | 0, hx => simpa using hx
    | 1, hx => simpa using hx
  rintro e w1' hpost
  obtain ⟨rfl, hw'⟩ := (Or.resolve_left hpost (fun h => lnotree h.1)).2
  have HO1 : Hid (Own w w1' p LM0) := by
    show Own _ _ _ _
    rw [hw']
    exact HO.out.below ((Below.refl _ _).alloc (Nat.le_refl _) _)
  clear HO hpost hw'
  go_wp2_with fail
  obtain ⟨F, hW, hF, hb⟩ := HO1.out
  refine (Make_no hW (k := 1) (h := 1) (vk := 1) (vn := 7) (n := 0) (l := 0) (tg := 0) (bi := 0) (s := 0) (fu := false) (.inr rfl) (.inl rfl) ladd (fun w hW => form_1 hW 1 1 7 (by decide) (.inr rfl)) (fun w _ => fits_1 w _ 0 1 1 7 0 0 0 0 0 false)).mono ?_
  rintro e w2 ⟨rfl, F2, hW2, hg2⟩
  have HO2 : Hid (Own w w2 p LM1) := Own.turn hF hb hW2 hg2
  clear hW hF hb hW2 hg2 HO1
  go_wp2_with fail
  obtain ⟨F, hW, hF, hb⟩ := HO2.out
  refine (Facet_new hW (r := 1) (s := 1) (v := 3) (t := lt 1 1 1 7 0 0 0 0 0 false) rfl rfl rfl (by decide) lable1 (by decide) (by decide) lfind1 (by decide) (by decide)).mono ?_
  rintro e w3 ⟨rfl, F3, hW3, hg3⟩
  have HO3 : Hid (Own w w3 p LM2) := Own.turn hF hb hW3 hg3
  clear hW hF hb hW3 hg3 HO2
  go_wp2_with fail
  obtain ⟨F, hW, hF, hb⟩ := HO3.out
  refine (Facet_there hW (r := 1) (s := 1) (v := 3) (t := lt 1 1 1 7 0 0 0 0 0 false) rfl rfl rfl (by decide) lable2 (by decide) (by decide) lfind2).mono ?_
  rintro e w4 ⟨rfl, hb4⟩
  have HO4 : Hid (Own w w4 p LM2) := HO3.out.below hb4
  clear hW hF hb hb4 HO3
  go_wp2_with fail
  obtain ⟨F, hW, hF, hb⟩ := HO4.out
  refine (Facet_what hW (r := 1) (s := 3) (v := 3) (t := lt 1 1 1 7 0 0 0 0 0 false) rfl rfl lable2 rfl).mono ?_
  rintro e w5 ⟨rfl, hb5⟩
  have HO5 : Hid (Own w w5 p LM2) := HO4.out.below hb5
  clear hW hF hb hb5 HO4
  go_wp2_with fail
  obtain ⟨F, hW, hF, hb⟩ := HO5.out
  refine (CutEdge_W hW 1 (by decide) (by decide)).mono ?_
  rintro e w6 ⟨rfl, hW6, hk6, -⟩
  have HO6 : Hid (Own w w6 p LM3) := ⟨F, hW6, hF, hb.trans (Keeps.below hk6 hb.size hF)⟩
  clear hW hF hb hW6 hk6 HO5
  go_wp2_with fail
  obtain ⟨F, hW, hF, hb⟩ := HO6.out
  refine (Able_W hW rfl lable3).mono ?_
  rintro e w7 ⟨rfl, hb7⟩
  have HO7 : Hid (Own w w7 p LM3) := HO6.out.below hb7
  clear hW hF hb hb7 HO6
  go_wp2_with fail
  obtain ⟨F, hW, hF, hb⟩ := HO7.out
  refine (Base_W hW rfl lway).mono ?_
  rintro e w8 ⟨rfl, hb8⟩
  have HO8 : Hid (Own w w8 p LM3) := HO7.out.below hb8
  clear hW hF hb hb8 HO7
  go_wp2_with fail
  obtain ⟨F, hW, hF, hb⟩ := HO8.out
  refine (Free_W hW (a := 0) (by decide) rfl lway (t0 := ft 1 1) rfl lall).mono ?_
  rw [lfree0]
  rintro e w9 ⟨rfl, hb9⟩
  have HO9 : Hid (Own w w9 p LM3) := HO8.out.below hb9
  clear hW hF hb hb9 HO8
  have hE0 : freeE false = 7 := rfl
  go_wp2_with fail
  obtain ⟨F, hW, hF, hb⟩ := HO9.out
  refine (Free_W hW (a := 3) (by decide) rfl lway (t0 := ft 1 1) rfl lall).mono ?_
  rw [lfree3]
  rintro e w10 ⟨rfl, hb10⟩
  have HO10 : Hid (Own w w10 p LM3) := HO9.out.below hb10
  clear hW hF hb hb10 HO9
  have hE1 : freeE true = 0 := rfl
  go_wp2_with fail
  obtain ⟨F, hW, hF, hb⟩ := HO10.out
  refine (Len_W hW).mono ?_
  rintro e _ ⟨rfl, rfl⟩
  have hL : LM3.things.length = 2 := rfl
  go_wp2_with fail
  refine (Made_W hW 1).mono ?_
  rintro e _ ⟨rfl, rfl⟩
  have hM : (if sideB LM3 1 = true then LM3.made.getD (1 : Int).toNat 0 else 0) = 1 := by decide
  rw [hM]
  go_wp2_with fail
  go_ret
  exact ⟨rfl, hb⟩
end Go.Proofs.YthebeomenjfdlaaGreat
/- WorldNone: what lies between its calls; how it leaves. -/
namespace Go.Proofs.YthebeomenjfdlaaGreat
open Go.RowKit Go.Shelf Go.ChangeMaps Go.MapKept
attribute [local go_sem] Oper.semAt_some

/-- Between the law's calls. -/
structure WN (w0 : World) (cs : Array Value) (g : Nat) (ds : List Nat) (w : World) : Prop where
  below : Below w0.heap.size w0 w
  arg : w.heap[w0.heap.size]? = some (.cells cs 42 (0, 0))
  res : w.heap[w0.heap.size + 2]? = some (.cells #[.bool false] 4 (0, 0))
  zero : w.heap[g]? = some (.cells #[.slice none 0 0, .slice none 0 0, .map none, .map none, .int .i64 0, .slice none 0 0] 73 (0, 0))
  arr : w.heap[g + 1]? = some (.cells #[.pointer none, .pointer (some ⟨g, 0, none⟩)] 74 (0, 0))
  marks : ∀ d ∈ ds, w0.heap.size + 3 ≤ d ∧ w.heap[d]? = some (.deferred (some []))
  nod : ds.Nodup
theorem WN.on {w0 w w' : World} {cs : Array Value} {g : Nat} {ds : List Nat} (h : WN w0 cs g ds w) (hb : Below w.heap.size w w') : WN w0 cs g ds w' :=
  ⟨h.below.trans (hb.mono h.below.size), below_blk hb h.arg, below_blk hb h.res, below_blk hb h.zero, below_blk hb h.arr, fun d hd => ⟨(h.marks d hd).1, below_blk hb (h.marks d hd).2⟩, h.nod⟩
theorem WN.no {w0 w : World} {cs : Array Value} {g : Nat} {ds : List Nat} (h : WN w0 cs g ds w) : NoW w (.pointer (some ⟨g, 0, none⟩)) := .inr ⟨g, rfl, by rw [cell_blk h.zero]; rfl⟩
theorem WN.marked {w0 w w' : World} {cs : Array Value} {g D : Nat} {ds : List Nat} (h : WN w0 cs g ds w) (hb : Below w.heap.size w w') (hD : w.heap.size ≤ D) (hK : w'.heap[D]? = some (.deferred (some []))) :
    WN w0 cs g (D :: ds) w' where
  below := (h.on hb).below
  arg := (h.on hb).arg
  res := (h.on hb).res
  zero := (h.on hb).zero
  arr := (h.on hb).arr
  marks := fun d hd => by
    rcases List.mem_cons.1 hd with rfl | hd
    · have := blk_lt h.res
      exact ⟨by omega, hK⟩
    · exact ⟨(h.marks d hd).1, below_blk hb (h.marks d hd).2⟩
  nod := List.nodup_cons.2 ⟨fun hd => by
    have := blk_lt (h.marks D hd).2
    omega, h.nod⟩
theorem treeNil : TreeOk [] := ⟨by decide, fun i p h => by simp at h⟩

theorem equalIn_nilFunc (d : Nat) (t : TypeId) {ps rs : Array TypeId} {v : Bool} (ht : Tryz.prog.underlying t = some (.func ps rs v)) (f : Fn) (first cap : Array Value) (w : World) : Sem.run Tryz.prog (Op.equalIn (d + 1) t (Value.func f first cap) Value.nilFunc) w = .ok false w := by
  simp [Op.equalIn, run_underlying ht]
theorem binOp_nilFunc (f : Fn) (first cap : Array Value) (w : World) : Sem.run Tryz.prog (binOp BinOp.eql 84 (Value.func f first cap) Value.nilFunc) w = .ok (.bool false) w := by
  simp [binOp, Op.equal, Op.maxDepth, equalIn_nilFunc 9999 84 Tryz.underlying84]
/-- The law leaves, over the marks of its two loops. -/
theorem wnone_end {w W : World} {cs : Array Value} {g D0 D1 : Nat} (h : WN w cs g [D1, D0] W) (tmps : Array Value) (ht : tmps[4]? = some (.pointer (some ⟨w.heap.size + 1 + 1, 0, none⟩))) :
    LeavesInM Fence.wide 5 Tryz.prog Tryz.f8 tmps (fun e w' => e = .returned (.bool true) ∧ Below w.heap.size w w') [{ target := .collected D1, args := #[] }, { target := .collected D0, args := #[] }] .returning (W.setCell ⟨w.heap.size + 1 + 1, 0, none⟩ (.bool true)) := by
  have h1 := h.marks D1 (by simp)
  have h0 := h.marks D0 (by simp)
  have hne : D1 ≠ D0 := fun e => by
    have := h.nod
    simp [e] at this
  have hs := heap_setCell_box (.bool true) h.res
  have k1 : (W.setCell ⟨w.heap.size + 1 + 1, 0, none⟩ (.bool true)).heap[D1]? = some (.deferred (some [])) := (Below.heap_setCell _ _ _ _ (by show D1 ≠ w.heap.size + 1 + 1; omega)).trans h1.2
  have k0 : ((W.setCell ⟨w.heap.size + 1 + 1, 0, none⟩ (.bool true)).putObj D1 (.deferred none)).heap[D0]? = some (.deferred (some [])) := (World.putObj_heap_other hne.symm).trans ((Below.heap_setCell _ _ _ _ (by show D0 ≠ w.heap.size + 1 + 1; omega)).trans h0.2)
  have c5 : (((W.setCell ⟨w.heap.size + 1 + 1, 0, none⟩ (.bool true)).putObj D1 (.deferred none)).putObj D0 (.deferred none)).cell? ⟨w.heap.size + 1 + 1, 0, none⟩ = some (.bool true) := by
    rw [cell_blk ((World.putObj_heap_other (by omega)).trans ((World.putObj_heap_other (by omega)).trans hs))]; rfl
  have hsz := h.below.size
  have b1 : Below w.heap.size w ((W.setCell ⟨w.heap.size + 1 + 1, 0, none⟩ (.bool true)).putObj D1 (.deferred none)) :=
    (h.below.setCell (p := ⟨w.heap.size + 1 + 1, 0, none⟩) (by show w.heap.size ≤ w.heap.size + 1 + 1; omega) _).grown (grownBy_putObj' _ D1 _) (by simpa [World.setCell] using hsz) (fun k e => by cases e; omega)
  have b2 : Below w.heap.size w (((W.setCell ⟨w.heap.size + 1 + 1, 0, none⟩ (.bool true)).putObj D1 (.deferred none)).putObj D0 (.deferred none)) :=
    b1.grown (grownBy_putObj' _ D0 _) b1.size (fun k e => by cases e; omega)
  refine ⟨by simp, .inl ⟨_, _, rfl, run_takeDeferred k1, ?_⟩⟩
  refine ⟨by simp, .inl ⟨_, _, rfl, run_takeDeferred k0, ?_⟩⟩
  refine ⟨.bool true, ?_, rfl, b2⟩
  simp [results, Tryz.f8, go_sem, ht, c5]
end Go.Proofs.YthebeomenjfdlaaGreat
