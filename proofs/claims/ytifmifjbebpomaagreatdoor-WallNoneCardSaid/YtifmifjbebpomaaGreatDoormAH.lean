/- A part of the proof, several texts in one: WaP, WaR, WaF. -/
import Derived.Test.YtifmifjbebpomaaGreatDoormAG
import Derived.Laws.Bits64b
import Derived.Shelf.Spec.TrailingZeros
import Derived.Test.YtifmifjbebpomaaGreatDoorRows
import Derived.ChangeSame
import Derived.ChangeVars
import Derived.JoinedOf
import Derived.RowKit
import Derived.LaidLaws
import Derived.LaidHandle
import Derived.LaidSub
import Derived.Lib.LaidU8
import Derived.Test.YtifmifjbebpomaaGreatDoormAA
import Derived.Test.YtifmifjbebpomaaGreatDoorChecked
import Derived.LaidEql
import Derived.Stop.Asserts
import Derived.RowKitTokens
import Derived.Deep.WholeRow
/- Walls: Part, of one world. -/
namespace Go.Proofs.YtifmifjbebpomaaGreatDoor
open Go.RowKit Go.Shelf Go.ChangeMaps Go.MapKept
variable {w : World} {p : Nat} {M : WM} {F : Nat → Prop}

/-- The table of math/bits. -/
def Tab64 (w : World) : Prop := TabAt 2 Lib.deBruijn64tab w
theorem Tab64.below {w w' : World} (h : Tab64 w) (hb : Below w.heap.size w w') : Tab64 w' := fun j hj => (hb.cell (p := ⟨2, j, none⟩) (World.block_lt_of_cell? _ _ (h j hj))).trans (h j hj)
theorem Tab64.below' {w w' : World} {B : Nat} (h : Tab64 w) (hb : Below B w w') (hB : 2 < B := by omega) : Tab64 w' := fun j hj => (World.cell?_of_block (hb.block _ hB)).trans (h j hj)
set_option maxRecDepth 20000 in
theorem ones_W (n : Nat) (hn : n < 16) (w : World) : Calls Tryz.prog 36 #[.int .u64 n] w fun e w' => e = .returned (.int .i64 ((n % 2 + n / 2 % 2 + n / 4 % 2 + n / 8 : Nat) : Int)) ∧ w = w' := by
  have h : n = 0 ∨ n = 1 ∨ n = 2 ∨ n = 3 ∨ n = 4 ∨ n = 5 ∨ n = 6 ∨ n = 7 ∨ n = 8 ∨ n = 9 ∨ n = 10 ∨ n = 11 ∨ n = 12 ∨ n = 13 ∨ n = 14 ∨ n = 15 := by omega
  clear hn
  rcases h with rfl | rfl | rfl | rfl | rfl | rfl | rfl | rfl | rfl | rfl | rfl | rfl | rfl | rfl | rfl | rfl
  all_goals
    go_enter Tryz.func36, Tryz.ntmps36
    go_wp2
    go_ret
    exact ⟨by kernel_rfl, rfl⟩
set_option maxHeartbeats 1000000 in
theorem tz64_core (x k idx : Nat) (w : World) (hx0 : ((x : Int) == 0) = false) (key : IntKind.u64.wrap (bits BinOp.and IntKind.u64 (x : Int) (IntKind.u64.wrap (-(x : Int))) * 285870213051353865) / 288230376151711744 = (idx : Int))
    (hi : idx < 64) (hk : k < 64) (hcell : w.cell? ⟨2, idx, none⟩ = some (.int .u8 k)) : Calls Tryz.prog 118 #[.int .u64 x] w fun e w' => e = .returned (.int .i64 k) ∧ w' = w := by
  go_enter Tryz.func118, Tryz.ntmps118
  go_wp2_with (simp only [key])
  go_ret
  exact ⟨rfl, rfl⟩
/-- math/bits.TrailingZeros64, of a number that is not 0. -/
theorem tz64_W (x : Nat) (hx : x < 18446744073709551616) (hx0 : x ≠ 0) (w : World) (hT : Tab64 w) : Calls Tryz.prog 118 #[.int .u64 x] w fun e w' => e = .returned (.int .i64 (Lib.ctz 64 x)) ∧ w' = w := by
  obtain ⟨hlow, hk⟩ := Lib.lowest_bit 64 x hx0 hx
  obtain ⟨hi, htab⟩ := Lib.deBruijn64_at _ hk
  have hcell := hT _ hi
  rw [htab] at hcell
  exact tz64_core x _ _ w (by simp; omega) (tz64_key x _ hx hx0 hlow) hi hk hcell
theorem tz_W (x : Nat) (hx : x < 18446744073709551616) (hx0 : x ≠ 0) (w : World) (hT : Tab64 w) : Calls Tryz.prog 77 #[.int .u64 x] w fun e w' => e = .returned (.int .i64 (Lib.ctz 64 x)) ∧ w' = w := by
  have h := tz64_W x hx hx0 w hT
  go_enter Tryz.func77, Tryz.ntmps77
  go_wp2_with fail
  refine h.mono ?_
  rintro e _ ⟨rfl, rfl⟩
  go_wp2_with fail
  go_ret
  exact ⟨rfl, rfl⟩
set_option maxRecDepth 8000 in
theorem ahead_W (x y : Nat) (w : World) (hT : Tab64 w) (hxy : x = 10 ∧ y = 6 ∨ x = 12 ∧ y = 6) : Calls Tryz.prog 37 #[.int .u64 x, .int .u64 y] w fun e w' => e = .returned (.bool false) ∧ w = w' := by
  have HT := (show Hid (Tab64 w) from hT)
  clear hT
  rcases hxy with ⟨rfl, rfl⟩ | ⟨rfl, rfl⟩
  · have h := tz_W 12 (by decide) (by decide) w HT.out
    rw [show Lib.ctz 64 12 = 2 by decide] at h
    have hx : bits .xor .u64 10 6 = 12 := by decide
    go_enter Tryz.func37, Tryz.ntmps37
    go_wp2_with fail
    refine h.mono ?_
    rintro e _ ⟨rfl, rfl⟩
    go_wp2_with fail
    go_ret
    exact ⟨by kernel_rfl, rfl⟩
  · have h := tz_W 10 (by decide) (by decide) w HT.out
    rw [show Lib.ctz 64 10 = 1 by decide] at h
    have hx : bits .xor .u64 12 6 = 10 := by decide
    go_enter Tryz.func37, Tryz.ntmps37
    go_wp2_with fail
    refine h.mono ?_
    rintro e _ ⟨rfl, rfl⟩
    go_wp2_with fail
    go_ret
    exact ⟨by kernel_rfl, rfl⟩
theorem bitsF : bits .and .u64 0 1 = 0 ∧ bits .and .u64 1 1 = 1 ∧ bits .and .u64 2 1 = 0 ∧ bits .and .u64 3 1 = 1 ∧ bits .and .u64 4 1 = 0 ∧ bits .and .u64 5 1 = 1 ∧ bits .and .u64 6 1 = 0 ∧ bits .and .u64 7 1 = 1 ∧ bits .and .u64 8 1 = 0 ∧ bits .and .u64 9 1 = 1 ∧ bits .and .u64 10 1 = 0 ∧ bits .and .u64 11 1 = 1 ∧ bits .and .u64 12 1 = 0 ∧ bits .and .u64 13 1 = 1 ∧ bits .and .u64 14 1 = 0 ∧ bits .and .u64 15 1 = 1 ∧ bits .or .u64 0 1 = 1 ∧ bits .or .u64 0 2 = 2 ∧ bits .or .u64 1 1 = 1 ∧ bits .or .u64 1 2 = 3 ∧ bits .or .u64 2 1 = 3 ∧ bits .or .u64 2 2 = 2 ∧ bits .or .u64 3 1 = 3 ∧ bits .or .u64 3 2 = 3 := by decide
theorem bitsG : bits .and .u64 0 0 = 0 ∧ bits .or .u64 0 0 = 0 ∧ bits .and .u64 1 0 = 0 ∧ bits .or .u64 1 0 = 1 ∧ bits .and .u64 2 0 = 0 ∧ bits .or .u64 2 0 = 2 ∧ bits .and .u64 3 0 = 0 ∧ bits .or .u64 3 0 = 3 ∧ bits .and .u64 4 0 = 0 ∧ bits .or .u64 4 0 = 4 ∧ bits .and .u64 5 0 = 0 ∧ bits .or .u64 5 0 = 5 ∧ bits .and .u64 6 0 = 0 ∧ bits .or .u64 6 0 = 6 ∧ bits .and .u64 7 0 = 0 ∧ bits .or .u64 7 0 = 7 ∧ bits .and .u64 8 0 = 0 ∧ bits .or .u64 8 0 = 8 ∧ bits .and .u64 9 0 = 0 ∧ bits .or .u64 9 0 = 9 ∧ bits .and .u64 10 0 = 0 ∧ bits .or .u64 10 0 = 10 ∧ bits .and .u64 11 0 = 0 ∧ bits .or .u64 11 0 = 11 ∧ bits .and .u64 12 0 = 0 ∧ bits .or .u64 12 0 = 12 ∧ bits .and .u64 13 0 = 0 ∧ bits .or .u64 13 0 = 13 ∧ bits .and .u64 14 0 = 0 ∧ bits .or .u64 14 0 = 14 ∧ bits .and .u64 15 0 = 0 ∧ bits .or .u64 15 0 = 15 ∧ bits .or .u64 0 4 = 4 ∧ bits .or .u64 4 8 = 12 ∧ bits .and .u64 12 1 = 0 := by decide
/-! ### parts, of one world: a half is 2 and 3, the other one is 0 -/
def par4 : Array Value := #[.int .i64 (-1), .int .i64 0, .int .i64 0, .int .i64 1, .int .i64 0, .int .i64 0, .int .i64 0, .int .i64 0, .int .i64 0, .int .i64 0, .int .i64 0, .int .i64 0, .int .i64 0, .int .i64 0, .int .i64 0, .int .i64 0]
set_option maxHeartbeats 4000000 in
set_option maxRecDepth 20000 in
theorem parts_0 (w : World) : Calls Tryz.prog 38 #[.agg par4, .int .i64 4, .int .u64 0, .int .u64 12, .int .u64 1] w fun e w' => e = .returned (.bool false) ∧ Below w.heap.size w w' := by
  unfold par4
  obtain ⟨q0, q1, q2, q3, q4, q5, q6, q7, q8, q9, q10, q11, q12, q13, q14, q15, q16, q17, q18, q19, q20, q21, q22, q23⟩ := bitsF
  go_enter Tryz.func38, Tryz.ntmps38
  go_wp2_with fail
  refine wp_loop_rounds 3 ?_
  rw [rounds_succ]
  go_wp2_with fail
  rw [rounds_succ]
  go_wp2_with fail
  rw [rounds_succ]
  go_wp2_with fail
  go_ret
  exact ⟨rfl, (((Below.refl _ _).alloc (Nat.le_refl _) _).alloc (by simp) _).alloc (by simp; omega) _⟩
set_option maxHeartbeats 4000000 in
set_option maxRecDepth 20000 in
theorem parts_2 (w : World) : Calls Tryz.prog 38 #[.agg par4, .int .i64 4, .int .u64 2, .int .u64 12, .int .u64 1] w fun e w' => e = .returned (.bool false) ∧ Below w.heap.size w w' := by
  unfold par4
  obtain ⟨q0, q1, q2, q3, q4, q5, q6, q7, q8, q9, q10, q11, q12, q13, q14, q15, q16, q17, q18, q19, q20, q21, q22, q23⟩ := bitsF
  go_enter Tryz.func38, Tryz.ntmps38
  go_wp2_with fail
  refine wp_loop_rounds 3 ?_
  rw [rounds_succ]
  go_wp2_with fail
  rw [rounds_succ]
  go_wp2_with fail
  rw [rounds_succ]
  go_wp2_with fail
  go_ret
  exact ⟨rfl, (((Below.refl _ _).alloc (Nat.le_refl _) _).alloc (by simp) _).alloc (by simp; omega) _⟩
set_option maxHeartbeats 4000000 in
set_option maxRecDepth 20000 in
theorem parts_4 (w : World) : Calls Tryz.prog 38 #[.agg par4, .int .i64 4, .int .u64 4, .int .u64 12, .int .u64 1] w fun e w' => e = .returned (.bool false) ∧ Below w.heap.size w w' := by
  unfold par4
  obtain ⟨q0, q1, q2, q3, q4, q5, q6, q7, q8, q9, q10, q11, q12, q13, q14, q15, q16, q17, q18, q19, q20, q21, q22, q23⟩ := bitsF
  go_enter Tryz.func38, Tryz.ntmps38
  go_wp2_with fail
  refine wp_loop_rounds 4 ?_
  rw [rounds_succ]
  go_wp2_with fail
  rw [rounds_succ]
  go_wp2_with fail
  rw [rounds_succ]
  go_wp2_with fail
  rw [rounds_succ]
  go_wp2_with fail
  go_ret
  exact ⟨rfl, (((Below.refl _ _).alloc (Nat.le_refl _) _).alloc (by simp) _).alloc (by simp; omega) _⟩
set_option maxHeartbeats 4000000 in
set_option maxRecDepth 20000 in
theorem parts_6 (w : World) : Calls Tryz.prog 38 #[.agg par4, .int .i64 4, .int .u64 6, .int .u64 12, .int .u64 1] w fun e w' => e = .returned (.bool true) ∧ Below w.heap.size w w' := by
  unfold par4
  obtain ⟨q0, q1, q2, q3, q4, q5, q6, q7, q8, q9, q10, q11, q12, q13, q14, q15, q16, q17, q18, q19, q20, q21, q22, q23⟩ := bitsF
  go_enter Tryz.func38, Tryz.ntmps38
  go_wp2_with fail
  refine wp_loop_rounds 5 ?_
  rw [rounds_succ]
  go_wp2_with fail
  rw [rounds_succ]
  go_wp2_with fail
  rw [rounds_succ]
  go_wp2_with fail
  rw [rounds_succ]
  go_wp2_with fail
  rw [rounds_succ]
  go_wp2_with fail
  go_ret
  exact ⟨rfl, (((Below.refl _ _).alloc (Nat.le_refl _) _).alloc (by simp) _).alloc (by simp; omega) _⟩
set_option maxHeartbeats 4000000 in
set_option maxRecDepth 20000 in
theorem parts_8 (w : World) : Calls Tryz.prog 38 #[.agg par4, .int .i64 4, .int .u64 8, .int .u64 12, .int .u64 1] w fun e w' => e = .returned (.bool false) ∧ Below w.heap.size w w' := by
  unfold par4
  obtain ⟨q0, q1, q2, q3, q4, q5, q6, q7, q8, q9, q10, q11, q12, q13, q14, q15, q16, q17, q18, q19, q20, q21, q22, q23⟩ := bitsF
  go_enter Tryz.func38, Tryz.ntmps38
  go_wp2_with fail
  refine wp_loop_rounds 3 ?_
  rw [rounds_succ]
  go_wp2_with fail
  rw [rounds_succ]
  go_wp2_with fail
  rw [rounds_succ]
  go_wp2_with fail
  go_ret
  exact ⟨rfl, (((Below.refl _ _).alloc (Nat.le_refl _) _).alloc (by simp) _).alloc (by simp; omega) _⟩
set_option maxRecDepth 20000 in
theorem wset_23 {b c : Nat} (hW : IsW w p M F) (h4 : M.made.length = 4) (c0 : w.cell? ⟨b, 0, none⟩ = some (.int .i64 2)) (c1 : w.cell? ⟨b, 1, none⟩ = some (.int .i64 3)) :
    Calls Tryz.prog 34 #[.pointer (some ⟨p, 0, none⟩), .slice (some ⟨b, 0, none⟩) 2 c] w fun e w' => e = .returned (.tuple #[.int .u64 12, .bool true]) ∧ w = w' := by
  have h2 := wside_W hW 2
  rw [show sideB M 2 = true from sideB_iff.2 (by rw [h4]; decide)] at h2
  have h3 := wside_W hW 3
  rw [show sideB M 3 = true from sideB_iff.2 (by rw [h4]; decide)] at h3
  have o1 : bits .or .u64 0 4 = 4 := by decide
  have o2 : bits .or .u64 4 8 = 12 := by decide
  clear hW h4
  go_enter Tryz.func34, Tryz.ntmps34
  go_wp2_with fail
  refine wp_loop_rounds 3 ?_
  rw [rounds_succ]
  go_wp2_with fail
  refine h2.mono ?_
  rintro e _ ⟨rfl, rfl⟩
  go_wp2_with fail
  rw [rounds_succ]
  go_wp2_with fail
  refine h3.mono ?_
  rintro e _ ⟨rfl, rfl⟩
  go_wp2_with fail
  rw [rounds_succ]
  go_wp2_with fail
  go_ret2
  exact ⟨rfl, rfl⟩
set_option maxRecDepth 20000 in
theorem wset_0 {b c : Nat} (hW : IsW w p M F) (h4 : M.made.length = 4) (c0 : w.cell? ⟨b, 0, none⟩ = some (.int .i64 0)) :
    Calls Tryz.prog 34 #[.pointer (some ⟨p, 0, none⟩), .slice (some ⟨b, 0, none⟩) 1 c] w fun e w' => e = .returned (.tuple #[.int .u64 1, .bool true]) ∧ w = w' := by
  have h2 := wside_W hW 0
  rw [show sideB M 0 = true from sideB_iff.2 (by rw [h4]; decide)] at h2
  have o1 : bits .or .u64 0 1 = 1 := by decide
  clear hW h4
  go_enter Tryz.func34, Tryz.ntmps34
  go_wp2_with fail
  refine wp_loop_rounds 2 ?_
  rw [rounds_succ]
  go_wp2_with fail
  refine h2.mono ?_
  rintro e _ ⟨rfl, rfl⟩
  go_wp2_with fail
  rw [rounds_succ]
  go_wp2_with fail
  go_ret2
  exact ⟨rfl, rfl⟩
set_option maxHeartbeats 8000000 in
set_option maxRecDepth 20000 in
theorem wPart_aw {b1 b2 c1 c2 : Nat} (hW : IsW w p M F) (h4 : M.made.length = 4) (hpar : parC M 4 = par4) (hcut : ∀ n, (edgeB M n && M.cutAt n.toNat) = false) (hT : Tab64 w)
    (d0 : w.cell? ⟨b1, 0, none⟩ = some (.int .i64 2)) (d1 : w.cell? ⟨b1, 1, none⟩ = some (.int .i64 3)) (d2 : w.cell? ⟨b2, 0, none⟩ = some (.int .i64 0)) :
    Calls Tryz.prog 12 #[.pointer (some ⟨p, 0, none⟩), .slice (some ⟨b1, 0, none⟩) 2 c1, .slice (some ⟨b2, 0, none⟩) 1 c2] w fun e w' => ∃ v, e = .returned (.tuple #[v, .int .i64 0]) ∧ w'.ownsRow w.heap.size 3 1 v 2 [.int .i64 1, .int .i64 2] ∧ Below w.heap.size w w' := by
  have HW := (show Hid (IsW w p M F) from hW)
  have HT := (show Hid (Tab64 w) from hT)
  have Hcut := (show Hid (∀ n, (edgeB M n && M.cutAt n.toNat) = false) from hcut)
  have H1 := wthere_W hW
  have H2 := wset_23 (c := c1) hW h4 d0 d1
  have H3 := wset_0 (c := c2) hW h4 d2
  have H5 := wparents_W hW
  have H6 := Sides_W hW
  rw [h4, hpar] at H5
  rw [h4] at H6
  have Hpar := (show Hid (par4.size = 16 ∧ par4.all (·.oneCell') = true) from ⟨rfl, by rw [← hpar]; exact parC_cells M 4⟩)
  obtain ⟨r0, r1, r2, r3, r4, r5, r6, r7, r8, r9, r10, r11, r12, r13, r14, r15, r16, r17, r18, r19, r20, r21, r22, r23, r24, r25, r26, r27, r28, r29, r30, r31, r32, r33, r34⟩ := bitsG
  clear hW hT hcut d0 d1 d2 h4 hpar
  go_enter Tryz.func12, Tryz.ntmps12
  go_wp2_with fail
  refine H1.mono ?_
  rintro e _ ⟨rfl, rfl⟩
  go_wp2_with fail
  refine H2.mono ?_
  rintro e _ ⟨rfl, rfl⟩
  go_wp2_with fail
  refine H3.mono ?_
  rintro e _ ⟨rfl, rfl⟩
  go_wp2_with fail
  refine H6.mono ?_
  rintro e _ ⟨rfl, rfl⟩
  go_wp2_with fail
  refine H5.mono ?_
  rintro e w1 ⟨rfl, hb1⟩
  have hst := storeA_blk (c := zero16) (blk_new w1 _) rfl Hpar.out.1 Hpar.out.2
  rw [World.setRow_alloc_new] at hst
  simp only [zero16] at hst
  have HB2 : Hid (Below w.heap.size w (w1.alloc (.cells par4 95))) := hb1.alloc hb1.size _
  have HP2 : Hid ((w1.alloc (.cells par4 95)).heap[w1.heap.size]? = some (.cells par4 95 (0, 0))) := blk_new _ _
  have HS2 : Hid (w.heap.size ≤ w1.heap.size) := hb1.size
  clear hb1 H1 H2 H3 H5 H6
  go_wp2_with fail
  clear hst
  revert HB2 HP2
  generalize w1.alloc _ = w2
  generalize w1.heap.size = B at *
  intro HB2 HP2
  have HW2 : Hid (IsW w2 p M F) := HW.out.below HB2.out
  have HC := fun n => (by have := IsCut_W HW2.out n; rw [Hcut.out n] at this; exact this : Calls Tryz.prog 35 #[.pointer (some ⟨p, 0, none⟩), .int .i64 n] w2 fun e w' => e = .returned (.bool false) ∧ w2 = w')
  refine wp_loop_rounds 4 ?_
  rw [rounds_succ]
  go_wp2_with fail
  refine (HC 1).mono ?_
  rintro e _ ⟨rfl, rfl⟩
  go_wp2_with fail
  rw [rounds_succ]
  go_wp2_with fail
  refine (HC 2).mono ?_
  rintro e _ ⟨rfl, rfl⟩
  go_wp2_with fail
  rw [rounds_succ]
  go_wp2_with fail
  refine (HC 3).mono ?_
  rintro e _ ⟨rfl, rfl⟩
  go_wp2_with fail
  rw [rounds_succ]
  go_wp2_with fail
  clear HC
  have HT2 : Hid (Tab64 w2) := HT.out.below HB2.out
  refine wp_loop_rounds 9 ?_
  rw [rounds_succ]
  have hld := loadA_blk HP2.out Hpar.out.1
  go_wp2_with fail
  refine (parts_0 w2).mono ?_
  rintro e w3 ⟨rfl, hb⟩
  have HB3 : Hid (Below w.heap.size w w3) := HB2.out.trans (hb.mono HB2.out.size)
  have HP3 : Hid (w3.heap[B]? = some (.cells par4 95 (0, 0))) := (hb.block B (blk_lt HP2.out)).trans HP2.out
  have HT3 : Hid (Tab64 w3) := HT2.out.below hb
  clear hb hld HP2 HB2 HT2
  go_wp2_with fail
  rw [rounds_succ]
  have hld := loadA_blk HP3.out Hpar.out.1
  go_wp2_with fail
  refine (parts_2 w3).mono ?_
  rintro e w4 ⟨rfl, hb⟩
  have HB4 : Hid (Below w.heap.size w w4) := HB3.out.trans (hb.mono HB3.out.size)
  have HP4 : Hid (w4.heap[B]? = some (.cells par4 95 (0, 0))) := (hb.block B (blk_lt HP3.out)).trans HP3.out
  have HT4 : Hid (Tab64 w4) := HT3.out.below hb
  clear hb hld HP3 HB3 HT3
  go_wp2_with fail
  rw [rounds_succ]
  have hld := loadA_blk HP4.out Hpar.out.1
  go_wp2_with fail
  refine (parts_4 w4).mono ?_
  rintro e w5 ⟨rfl, hb⟩
  have HB5 : Hid (Below w.heap.size w w5) := HB4.out.trans (hb.mono HB4.out.size)
  have HP5 : Hid (w5.heap[B]? = some (.cells par4 95 (0, 0))) := (hb.block B (blk_lt HP4.out)).trans HP4.out
  have HT5 : Hid (Tab64 w5) := HT4.out.below hb
  clear hb hld HP4 HB4 HT4
  go_wp2_with fail
  rw [rounds_succ]
  have hld := loadA_blk HP5.out Hpar.out.1
  go_wp2_with fail
  refine (parts_6 w5).mono ?_
  rintro e w6 ⟨rfl, hb⟩
  have HB6 : Hid (Below w.heap.size w w6) := HB5.out.trans (hb.mono HB5.out.size)
  have HP6 : Hid (w6.heap[B]? = some (.cells par4 95 (0, 0))) := (hb.block B (blk_lt HP5.out)).trans HP5.out
  have HT6 : Hid (Tab64 w6) := HT5.out.below hb
  clear hb hld HP5 HB5 HT5
  go_wp2_with fail
  rw [rounds_succ]
  go_wp2_with fail
  refine (ones_W 8 (by decide) _).mono ?_
  rintro e _ ⟨rfl, rfl⟩
  go_wp2_with fail
  refine (ones_W 6 (by decide) _).mono ?_
  rintro e _ ⟨rfl, rfl⟩
  go_wp2_with fail
  refine (ones_W 8 (by decide) _).mono ?_
  rintro e _ ⟨rfl, rfl⟩
  go_wp2_with fail
  refine (ones_W 6 (by decide) _).mono ?_
  rintro e _ ⟨rfl, rfl⟩
  have hld := loadA_blk HP6.out Hpar.out.1
  go_wp2_with fail
  refine (parts_8 w6).mono ?_
  rintro e w7 ⟨rfl, hb⟩
  have HB7 : Hid (Below w.heap.size w w7) := HB6.out.trans (hb.mono HB6.out.size)
  have HP7 : Hid (w7.heap[B]? = some (.cells par4 95 (0, 0))) := (hb.block B (blk_lt HP6.out)).trans HP6.out
  have HT7 : Hid (Tab64 w7) := HT6.out.below hb
  clear hb hld HP6 HB6 HT6
  go_wp2_with fail
  rw [rounds_succ]
  go_wp2_with fail
  refine (ones_W 10 (by decide) _).mono ?_
  rintro e _ ⟨rfl, rfl⟩
  go_wp2_with fail
  refine (ones_W 6 (by decide) _).mono ?_
  rintro e _ ⟨rfl, rfl⟩
  go_wp2_with fail
  refine (ones_W 10 (by decide) _).mono ?_
  rintro e _ ⟨rfl, rfl⟩
  go_wp2_with fail
  refine (ones_W 6 (by decide) _).mono ?_
  rintro e _ ⟨rfl, rfl⟩
  go_wp2_with fail
  refine (ahead_W 10 6 _ HT7.out (by decide)).mono ?_
  rintro e _ ⟨rfl, rfl⟩
  go_wp2_with fail
  rw [rounds_succ]
  go_wp2_with fail
  refine (ones_W 12 (by decide) _).mono ?_
  rintro e _ ⟨rfl, rfl⟩
  go_wp2_with fail
  refine (ones_W 6 (by decide) _).mono ?_
  rintro e _ ⟨rfl, rfl⟩
  go_wp2_with fail
  refine (ones_W 12 (by decide) _).mono ?_
  rintro e _ ⟨rfl, rfl⟩
  go_wp2_with fail
  refine (ones_W 6 (by decide) _).mono ?_
  rintro e _ ⟨rfl, rfl⟩
  go_wp2_with fail
  refine (ahead_W 12 6 _ HT7.out (by decide)).mono ?_
  rintro e _ ⟨rfl, rfl⟩
  go_wp2_with fail
  rw [rounds_succ]
  go_wp2_with fail
  refine (ones_W 14 (by decide) _).mono ?_
  rintro e _ ⟨rfl, rfl⟩
  go_wp2_with fail
  refine (ones_W 6 (by decide) _).mono ?_
  rintro e _ ⟨rfl, rfl⟩
  go_wp2_with fail
  rw [rounds_succ]
  go_wp2_with fail
  have e1 : bits .and .u64 3 1 = 1 := by decide
  have e2 : bits .and .u64 1 1 = 1 := by decide
  have e3 : bits .and .u64 0 1 = 0 := by decide
  have HN0 : Hid (((0 : Nat) : Int) ≤ 1099511627776) := by show _ ≤ _; decide
  have HN1 : Hid (((1 : Nat) : Int) ≤ 1099511627776) := by show _ ≤ _; decide
  have HR0 : Hid (w7.ownsRow w.heap.size 3 1 (.slice none 0 0) 0 (([] : List Int).map (Value.int .i64))) := World.ownsRow_nil _ _ _ _
  have HZ7 : Hid (w.heap.size ≤ w7.heap.size) := HB7.out.size
  refine wp_loop_rounds 4 ?_
  rw [rounds_succ]
  go_wp2_with (at_builtin; refine append_intT rfl _ _ rfl w.heap.size (.slice none 0 0) [] 0 rfl HR0 1 rfl HN0 HZ7 ?_; intro v1 w8 s1 s2 s4)
  have HB8 : Hid (Below w.heap.size w w8) := HB7.out.grown s2.out HB7.out.size (fun k e => by cases e)
  have HR8 : Hid (w8.ownsRow w.heap.size 3 1 v1 1 (([1] : List Int).map (Value.int .i64))) := s1.out
  have HZ8 : Hid (w.heap.size ≤ w8.heap.size) := HB8.out.size
  clear s1 s2 s4
  rw [rounds_succ]
  go_wp2_with (at_builtin; refine append_intT rfl _ _ rfl w.heap.size v1 [1] 1 rfl HR8 2 rfl HN1 HZ8 ?_; intro v2 w9 s1 s2 s4)
  have HB9 : Hid (Below w.heap.size w w9) := HB8.out.grown s2.out HB8.out.size (fun k e => (HR8.out.lt k e).1)
  have HR9 : Hid (w9.ownsRow w.heap.size 3 1 v2 2 [.int .i64 1, .int .i64 2]) := s1.out
  clear s1 s2 s4
  rw [rounds_succ]
  go_wp2_with fail
  rw [rounds_succ]
  go_wp2_with fail
  go_ret2
  exact ⟨v2, rfl, HR9.out, HB9.out⟩
end Go.Proofs.YtifmifjbebpomaaGreatDoor
/- What the wall's rows share: the listed table out of the row's condition; a world that meets the condition. -/
namespace Go.Proofs.YtifmifjbebpomaaGreatDoor
open Go.ChangeShapes Go.WideShapes Go.RowKit Go.Lib

theorem wr_own : ownKnob Tryz.prog.godebug = none := by kernel_rfl
theorem wr_g64 : Tryz.prog.globalNamed "math/bits.deBruijn64tab" = some 2 := by kernel_rfl
theorem wr_y64 : (Tryz.prog.globals[2]?).map (·.type) = some 247 := by kernel_rfl
theorem wr_a64 : Tryz.prog.underlying 247 = some (.array 64 5) := by kernel_rfl
theorem wr_u8 : Tryz.prog.underlying 5 = some (.int .u8) := by kernel_rfl
theorem wr_c8 : Tryz.prog.cellsOf 5 = 1 := by kernel_rfl
theorem wr_c64 : Tryz.prog.cellsOf 247 = 64 := by kernel_rfl
theorem wr_data : (Rows.laid_math_bits_deBruijn64tab : DataW Unit) = tabData .u8 (Lib.deBruijn64tab.map fun n : Nat => (n : Int)) := by rfl

abbrev WLaid : List (String × DataW Unit) := [("math/bits.deBruijn32tab", Rows.laid_math_bits_deBruijn32tab), ("math/bits.deBruijn64tab", Rows.laid_math_bits_deBruijn64tab), ("errors.errorType", Rows.laid_errors_errorType)]
theorem wr_filter : WLaid.filter (fun x => x.2.handleName?.isNone) = [("math/bits.deBruijn32tab", Rows.laid_math_bits_deBruijn32tab), ("math/bits.deBruijn64tab", Rows.laid_math_bits_deBruijn64tab)] := by rfl

theorem tab64_of_laid {W : World} (h : laidMetH Tryz.prog WLaid W) : Tab64 W := by
  have h1 := (laidMetH_iff.1 h).1
  rw [wr_filter] at h1
  obtain ⟨g, t, cs, fuel, p, hg, hty, hvar, hd⟩ := Go.Lib.laidMet.reads h1 (n := "math/bits.deBruijn64tab") (d := Rows.laid_math_bits_deBruijn64tab) (List.mem_cons_of_mem _ (List.mem_cons_self ..))
  obtain rfl := Option.some.inj (wr_g64.symm.trans hg)
  obtain rfl := Option.some.inj (wr_y64.symm.trans hty)
  rw [wr_data] at hd
  have hcs := cells_of_tab wr_a64 wr_u8 wr_c8 wr_c64 hd
  intro j hj
  have := World.var?_cell hg hvar j
  rw [this, ← Array.getElem?_toList, hcs]
  simp [hj]

/-- A world that meets the condition: the settled one, the three variables laid. -/
noncomputable def laidWorld (os : Os) : World :=
  let w0 := World.holding Tryz.prog os ⟨#[], #[], []⟩
  { w0 with heap := ((w0.heap.modify 0 fun
      | .cells _ t frozen => .cells #[.iface 164 (.agg #[.pointer (some ⟨3, 51, none⟩)])] t frozen
      | o => o).modify 1 fun
      | .cells _ t frozen => .cells (Lib.deBruijn32tab.map fun n : Nat => Value.int .u8 (n : Int)).toArray t frozen
      | o => o).modify 2 fun
      | .cells _ t frozen => .cells (Lib.deBruijn64tab.map fun n : Nat => Value.int .u8 (n : Int)).toArray t frozen
      | o => o }
set_option maxRecDepth 100000 in
theorem laidWorld_data (os : Os) (args : Array Value) : laidMet Tryz.prog (WLaid.filter fun x => x.2.handleName?.isNone) ((laidWorld os).forCall (fun _ _ => 0) ⟨#[], args, []⟩).memory :=
  laidMet_of_run' 4 (by kernel_rfl) (by kernel_rfl)
set_option maxRecDepth 100000 in
theorem laidWorld_hand (os : Os) (args : Array Value) : (WLaid.filter fun x => x.2.handleName?.isSome).all (handleAtB Tryz.prog ((laidWorld os).forCall (fun _ _ => 0) ⟨#[], args, []⟩).memory) = true := by kernel_rfl
theorem laidWorld_met (os : Os) (args : Array Value) : laidMetH Tryz.prog WLaid ((laidWorld os).forCall (fun _ _ => 0) ⟨#[], args, []⟩).memory :=
  laidMetH_of_parts (laidWorld_data os args) (laidWorld_hand os args)
end Go.Proofs.YtifmifjbebpomaaGreatDoor
/- Faults: the fault of a number; errors.As, errors.Is of it. -/
namespace Go.Proofs.YtifmifjbebpomaaGreatDoor
open Go.RowKit Go.Extern.Stop Go.Stop Go.Extern

theorem blk_new' (w : World) (o : Obj) {g : Nat} (h : g = w.heap.size) : (w.alloc o).heap[g]? = some o := by rw [h]; exact blk_new w o
/-- Block g is a fault of the number c, with nothing under it. -/
def FaultAt (w : World) (g : Nat) (c : Int) : Prop := w.heap[g]? = some (.cells #[.int .i64 c, .slice none 0 0, .slice none 0 0] 261 (0, 0))
theorem FaultAt.below {w w' : World} {g : Nat} {c : Int} (h : FaultAt w g c) (hb : Below w.heap.size w w') : FaultAt w' g c := (hb.block g (blk_lt h)).trans h

theorem fcount_leaf (c : Int) (hc : 1 ≤ c) (w : World) : Calls Tryz.prog 160 #[.agg #[.int .i64 c, .slice none 0 0], .int .i64 256, .int .i64 32] w fun e w' => e = .returned (.int .i64 1) ∧ Below w.heap.size w w' := by
  have h1 : ¬ c < 1 := by omega
  go_enter Tryz.func160, Tryz.ntmps160
  go_wp2
  refine wp_loop_rounds 1 ?_
  rw [rounds_succ]
  go_wp2
  go_ret
  exact ⟨rfl, (Below.refl _ _).alloc (Nat.le_refl _) _⟩
theorem fMay_leaf (c : Int) (hc : 1 ≤ c) (w : World) : Calls Tryz.prog 134 #[.agg #[.int .i64 c, .slice none 0 0]] w fun e w' => e = .returned (.bool true) ∧ Below w.heap.size w w' := by
  have hn := fun W => fcount_leaf c hc W
  go_enter Tryz.func134, Tryz.ntmps134
  go_wp2_with fail
  refine (hn _).mono ?_
  rintro e w1 ⟨rfl, hb⟩
  go_wp2_with fail
  go_ret
  exact ⟨rfl, ((Below.refl _ _).alloc (Nat.le_refl _) _).trans (hb.mono (by simp))⟩
theorem fown_leaf (c : Int) (w : World) : Calls Tryz.prog 136 #[.agg #[.int .i64 c, .slice none 0 0]] w fun e w' => e = .returned (.agg #[.int .i64 c, .slice none 0 0]) ∧ Below w.heap.size w w' := by
  go_enter Tryz.func136, Tryz.ntmps136
  go_wp2
  refine wp_loop_rounds 1 ?_
  rw [rounds_succ]
  go_wp2
  exact ⟨rfl, _, results_cell_row (P := Tryz.prog) rfl _ _ (w.heap.size + 1) 202 #[.int .i64 c, .slice none 0 0] (0, 0) _ rfl (blk_new' _ _ (by simp)) Tryz.underlying202 rfl (by kernel_rfl), rfl, ((Below.refl _ _).alloc (Nat.le_refl _) _).alloc (by simp) _⟩
theorem fof_leaf (c : Int) (w : World) : Calls Tryz.prog 135 #[.agg #[.int .i64 c, .slice none 0 0]] w fun e w' => ∃ g, e = .returned (.pointer (some ⟨g, 0, none⟩)) ∧ FaultAt w' g c ∧ w.heap.size ≤ g ∧ Below w.heap.size w w' := by
  go_enter Tryz.func135, Tryz.ntmps135
  go_wp2
  refine wp_loop_rounds 1 ?_
  rw [rounds_succ]
  go_wp2
  go_ret
  exact ⟨_, rfl, blk_new' _ _ (by simp), by simp, ((Below.refl _ _).alloc (Nat.le_refl _) _).alloc (by simp) _⟩
theorem fUnwrap_leaf {w : World} {g : Nat} {c : Int} (h : FaultAt w g c) : Calls Tryz.prog 236 #[.pointer (some ⟨g, 0, none⟩)] w fun e w' => ∃ b, e = .returned (.slice (some ⟨b, 0, none⟩) 1 1) ∧ w'.cell? ⟨b, 0, none⟩ = some (.iface 40 (.int .i64 c)) ∧ Below w.heap.size w w' := by
  have c0 : w.cell? ⟨g, 0, none⟩ = some (.int .i64 c) := by rw [cell_blk h]; rfl
  have c2 : w.cell? ⟨g, 2, none⟩ = some (.slice none 0 0) := by rw [cell_blk h]; rfl
  have c2a : ∀ o, (w.alloc o).cell? ⟨g, 2, none⟩ = some (.slice none 0 0) := fun o => by rw [World.cell?_alloc_lt _ _ _ (World.block_lt_of_cell? _ _ c2)]; exact c2
  go_enter Tryz.func236, Tryz.ntmps236
  go_wp2
  go_region
  go_wp2_with fail
  go_ret
  exact ⟨_, rfl, by rw [cell_blk (fr := (0, 0)) (show (w.alloc _).drew.heap[w.heap.size]? = _ from blk_new w _)]; rfl, ((Below.refl _ _).alloc (Nat.le_refl _) _).drew⟩
theorem fCode_leaf {w : World} {g : Nat} {c : Int} (h : FaultAt w g c) : Calls Tryz.prog 234 #[.pointer (some ⟨g, 0, none⟩)] w fun e w' => e = .returned (.int .i64 c) ∧ w = w' := by
  have c0 : w.cell? ⟨g, 0, none⟩ = some (.int .i64 c) := by rw [cell_blk h]; rfl
  go_enter Tryz.func234, Tryz.ntmps234
  go_wp2
  go_ret
  exact ⟨rfl, rfl⟩
theorem fOf_leaf (c : Int) (hc : 1 ≤ c) (w : World) : Calls Tryz.prog 104 #[.agg #[.int .i64 c, .slice none 0 0]] w fun e w' => ∃ g, e = .returned (.tuple #[.iface 235 (.pointer (some ⟨g, 0, none⟩)), .int .i64 0]) ∧ FaultAt w' g c ∧ w.heap.size ≤ g ∧ Below w.heap.size w w' := by
  have h1 := fun W => fMay_leaf c hc W
  have h2 := fun W => fown_leaf c W
  have h3 := fun W => fof_leaf c W
  go_enter Tryz.func104, Tryz.ntmps104
  go_wp2_with fail
  refine (h1 _).mono ?_
  rintro e w1 ⟨rfl, hb1⟩
  have c0 : w1.cell? ⟨w.heap.size, 0, none⟩ = some (.int .i64 c) := by rw [cell_blk ((hb1.block _ (by simp)).trans (blk_new w _))]; rfl
  have c1 : w1.cell? ⟨w.heap.size, 1, none⟩ = some (.slice none 0 0) := by rw [cell_blk ((hb1.block _ (by simp)).trans (blk_new w _))]; rfl
  have HB1 : Hid (Below w.heap.size w w1) := ((Below.refl _ _).alloc (Nat.le_refl _) _).trans (hb1.mono (by simp))
  clear hb1
  go_wp2_with fail
  refine (h2 _).mono ?_
  rintro e w2 ⟨rfl, hb2⟩
  have HB2 : Hid (Below w.heap.size w w2) := HB1.out.trans (hb2.mono HB1.out.size)
  clear hb2
  go_wp2_with fail
  refine (h3 _).mono ?_
  rintro e w3 ⟨g, rfl, hg, hgs, hb3⟩
  have HB3 : Hid (Below w.heap.size w w3 ∧ FaultAt w3 g c ∧ w.heap.size ≤ g) := ⟨HB2.out.trans (hb3.mono HB2.out.size), hg, Nat.le_trans HB2.out.size hgs⟩
  clear hb3 hg hgs
  go_wp2_with fail
  go_ret2
  exact ⟨g, rfl, HB3.out.2.1, HB3.out.2.2, HB3.out.1⟩
theorem acOf_W (c : Int) (hc : 1 ≤ c) (w : World) : Calls Tryz.prog 60 #[.int .i64 c] w fun e w' => ∃ g, e = .returned (.iface 235 (.pointer (some ⟨g, 0, none⟩))) ∧ FaultAt w' g c ∧ w.heap.size ≤ g ∧ Below w.heap.size w w' := by
  have h1 := fun W => fOf_leaf c hc W
  have h0 : (c == 0) = false := by simp; omega
  go_enter Tryz.func60, Tryz.ntmps60
  go_wp2_with fail
  refine (h1 _).mono ?_
  rintro e w1 ⟨g, rfl, hg, hgs, hb⟩
  have H := (show Hid (FaultAt w1 g c ∧ w.heap.size ≤ g ∧ Below w.heap.size w w1) from ⟨hg, hgs, hb⟩)
  clear hg hgs hb
  go_wp2_with fail
  go_ret
  exact ⟨g, rfl, H.out⟩

/-! ### errors.As at *api.Fault: closed facts on the model's entries -/
theorem Tryz.valueOfPF (t : Addr) (w : World) : (ReflectliteValue.unpack (.iface 89 (.pointer (some t)))).run Tryz.prog w
    = .ok (.agg #[.pointer (some ⟨3, 89, none⟩), .pointer (some ⟨w.heap.size, 0, none⟩), .int .u64 150]) (w.alloc (.cells #[.pointer (some t)] 89)) := by kernel_rfl
theorem Tryz.typePF (a : Addr) (w : World) : (ReflectliteValue.methodAny (ReflectliteValue.valueError "reflectlite.Value.Type" 0) (fun t _ _ _ => ReflectliteType.toType t) #[.agg #[.pointer (some ⟨3, 89, none⟩), .pointer (some a), .int .u64 150]]).run Tryz.prog w
    = .ok (.iface 164 (.agg #[.pointer (some ⟨3, 89, none⟩)])) w := by kernel_rfl
theorem Tryz.methodKind (h : Value) (w : World) : (Go.method 450 164 (.agg #[h]) "Kind").run Tryz.prog w = .ok (215, h) w := by kernel_rfl
theorem Tryz.kindPF (w : World) : ((ReflectliteType.abiMethod fun t => (fun a : Nat => Value.int IntKind.u8 (a : Int)) <$> Rtype.kind t) #[.pointer (some ⟨3, 89, none⟩)]).run Tryz.prog w = .ok (.int .u8 22) w := by kernel_rfl
theorem Tryz.kindF (w : World) : ((ReflectliteType.abiMethod fun t => (fun a : Nat => Value.int IntKind.u8 (a : Int)) <$> Rtype.kind t) #[.pointer (some ⟨3, 87, none⟩)]).run Tryz.prog w = .ok (.int .u8 20) w := by kernel_rfl
theorem rlmW (z : Sem Value) (f : TypeId → Addr → Nat → Nat → Sem Value) (v : Value) :
    ReflectliteValue.method z f #[v] = (do match ← ReflectliteValue.parts v with | none => z | some (t, a, fl) => f t a fl (fl % 32)) := rfl
theorem Tryz.partsPF (a : Addr) (w : World) : (ReflectliteValue.parts (.agg #[.pointer (some ⟨3, 89, none⟩), .pointer (some a), .int .u64 150])).run Tryz.prog w = .ok (some (89, a, 150)) w := by kernel_rfl
theorem Tryz.isNilPF (a p : Addr) (W : World) (ha : W.cell? a = some (.pointer (some p))) :
    (ReflectliteValue.method (ReflectliteValue.valueError "reflectlite.Value.IsNil" 0) ReflectliteValue.isNil #[.agg #[.pointer (some ⟨3, 89, none⟩), .pointer (some a), .int .u64 150]]).run Tryz.prog W = .ok (.bool false) W := by
  rw [rlmW]
  simp only [Sem.run_bind, Tryz.partsPF, Result.andThen]
  simp [ReflectliteValue.isNil, loadVar, isAgg, underlying, Tryz.underlying89, ha, Result.andThen]
theorem Tryz.methodElem (h : Value) (w : World) : (Go.method 450 164 (.agg #[h]) "Elem").run Tryz.prog w = .ok (226, .agg #[h]) w := by kernel_rfl
theorem Tryz.methodAssignableTo (h : Value) (w : World) : (Go.method 450 164 (.agg #[h]) "AssignableTo").run Tryz.prog w = .ok (224, .agg #[h]) w := by kernel_rfl
theorem Tryz.elemPF (w : World) : (ReflectliteType.method ReflectliteType.elem #[.agg #[.pointer (some ⟨3, 89, none⟩)]]).run Tryz.prog w = .ok (.iface 164 (.agg #[.pointer (some ⟨3, 87, none⟩)])) w := by kernel_rfl
theorem Tryz.typeOfPt (v : Value) (w : World) : (ReflectliteType.typeOf #[.iface 235 v]).run Tryz.prog w = .ok (.iface 164 (.agg #[.pointer (some ⟨3, 235, none⟩)])) w := by kernel_rfl
theorem Tryz.assignPt (w : World) : (ReflectliteType.relation "AssignableTo" ReflectliteType.assignableTo #[.agg #[.pointer (some ⟨3, 235, none⟩)], .iface 164 (.agg #[.pointer (some ⟨3, 87, none⟩)])]).run Tryz.prog w = .ok (.bool true) w := by kernel_rfl
theorem Tryz.valueOfPt (e : Addr) (w : World) : (ReflectliteValue.unpack (.iface 235 (.pointer (some e)))).run Tryz.prog w
    = .ok (.agg #[.pointer (some ⟨3, 235, none⟩), .pointer (some ⟨w.heap.size, 0, none⟩), .int .u64 150]) (w.alloc (.cells #[.pointer (some e)] 235)) := by kernel_rfl
theorem Tryz.elemOfPF (w : World) : (Rtype.elem? 89).run Tryz.prog w = .ok (some 87) w := by kernel_rfl
theorem Tryz.mkF (p : Addr) (w : World) : (ReflectliteValue.mk 87 p ReflectliteValue.flagAddr).run Tryz.prog w = .ok (.agg #[.pointer (some ⟨3, 87, none⟩), .pointer (some p), .int .u64 404]) w := by kernel_rfl
theorem Tryz.elemVPF (a p : Addr) (W : World) (ha : W.cell? a = some (.pointer (some p))) :
    (ReflectliteValue.method (ReflectliteValue.valueError "reflectlite.Value.Elem" 0) ReflectliteValue.elem #[.agg #[.pointer (some ⟨3, 89, none⟩), .pointer (some a), .int .u64 150]]).run Tryz.prog W
      = .ok (.agg #[.pointer (some ⟨3, 87, none⟩), .pointer (some p), .int .u64 404]) W := by
  rw [rlmW]
  simp only [Sem.run_bind, Tryz.partsPF, Result.andThen]
  simp [ReflectliteValue.elem, loadVar, isAgg, underlying, Tryz.underlying89, ha, Result.andThen, Tryz.elemOfPF, Tryz.mkF]
theorem rlsW (v x : Value) : ReflectliteValue.set #[v, x] = (do
    let (some (dst, a, fl), some (src, b, _)) := (← ReflectliteValue.parts v, ← ReflectliteValue.parts x)
      | unsupported (.noEntry "extern/(internal/reflectlite.Value).Set.zeroValue")
    if fl / ReflectliteValue.flagAddr % 2 == 0 then unsupported (.noEntry "extern/(internal/reflectlite.Value).Set.unaddressable")
    let val ← loadVar src b
    if ← Rtype.directlyAssignable dst src then storeVar dst a val
    else if ← Rtype.implements dst src then
      if (← Rtype.kind src) == 20 then
        match val with
        | .nilIface => unsupported (.noEntry "extern/reflectlite: a nil value of one interface type handed on as a value of another")
        | _ => storeVar dst a val
      else storeVar dst a (.iface src val)
    else panicString ("reflectlite.Set: value of type " ++ (← Rtype.spelt src) ++ " is not assignable to type " ++ (← Rtype.spelt dst))
    pure (.tuple #[])) := rfl
theorem Tryz.partsF (a : Addr) (w : World) : (ReflectliteValue.parts (.agg #[.pointer (some ⟨3, 87, none⟩), .pointer (some a), .int .u64 404])).run Tryz.prog w = .ok (some (87, a, 404)) w := by kernel_rfl
theorem Tryz.partsPt (a : Addr) (w : World) : (ReflectliteValue.parts (.agg #[.pointer (some ⟨3, 235, none⟩), .pointer (some a), .int .u64 150])).run Tryz.prog w = .ok (some (235, a, 150)) w := by kernel_rfl
theorem Tryz.directF (w : World) : (Rtype.directlyAssignable 87 235).run Tryz.prog w = .ok false w := by kernel_rfl
theorem Tryz.implF (w : World) : (Rtype.implements 87 235).run Tryz.prog w = .ok true w := by kernel_rfl
theorem Tryz.kindPt (w : World) : (Rtype.kind 235).run Tryz.prog w = .ok 22 w := by kernel_rfl
theorem Tryz.setF (ta b e : Addr) (old : Value) (W : World) (hb : W.cell? b = some (.pointer (some e))) (ht : W.cell? ta = some old) (hf : W.frozen? ta = false) :
    (ReflectliteValue.set #[.agg #[.pointer (some ⟨3, 87, none⟩), .pointer (some ta), .int .u64 404], .agg #[.pointer (some ⟨3, 235, none⟩), .pointer (some b), .int .u64 150]]).run Tryz.prog W
      = .ok (.tuple #[]) (W.setCell ta (.iface 235 (.pointer (some e)))) := by
  rw [rlsW]
  simp only [Sem.run_bind, Tryz.partsF, Tryz.partsPt, Result.andThen]
  simp [ReflectliteValue.flagAddr, loadVar, isAgg, underlying, Tryz.underlying235, hb, Result.andThen, Tryz.directF, Tryz.implF, Tryz.kindPt, storeVar, Value.cells, storeCells, Addr.add]
  rw [run_store Tryz.prog W ta _ _ (by rfl)]
  simp [ht, hf]
end Go.Proofs.YtifmifjbebpomaaGreatDoor
