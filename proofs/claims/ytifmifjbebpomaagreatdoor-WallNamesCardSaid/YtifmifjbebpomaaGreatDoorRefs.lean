/- The references of a plain value: none. -/
import Derived.Test.YtifmifjbebpomaaGreatDoorVal
import Derived.Deep.QuietTactic
import Derived.BigQuiet
namespace Go.Proofs.YtifmifjbebpomaaGreatDoor
open Go.RowKit Go.ChangeMaps Go.MapKept

set_option maxRecDepth 8000 in
theorem vRefs1_W (w : World) (k n : Int) (h : Plain k n) (p : Option Addr) (l : Value) : Calls Tryz.prog 157 #[l, .agg #[.int .u8 k, .int .i64 n, .string ⟨#[]⟩, .slice none 0 0, .int .i64 0], .pointer p] w fun e w' => e = .returned (.bool true) ∧ Below w.heap.size w w' := by
  have hk4 : (k == 4) = false := by rcases h with ⟨rfl, rfl⟩ | rfl <;> rfl
  go_enter Tryz.func157, Tryz.ntmps157
  go_wp2
  go_ret
  exact ⟨rfl, by go_grown⟩

set_option maxRecDepth 8000 in
theorem vwalk_W (w : World) (k n : Int) (h : Plain k n) (p : Option Addr) : Calls Tryz.prog 156 #[.agg #[.int .u8 k, .int .i64 n, .string ⟨#[]⟩, .slice none 0 0, .int .i64 0], .slice none 0 0, .func (.func 157) #[] #[.pointer p]] w fun e w' => e = .returned (.bool true) ∧ Below w.heap.size w w' := by
  go_enter Tryz.func156, Tryz.ntmps156
  go_wp2_with fail
  refine (vRefs1_W _ k n h _ _).mono ?_
  rintro e w1 ⟨rfl, hb1⟩
  obtain ⟨⟨a0, a1, a2, a3, a4⟩, f0, f1, f2, f3, f4⟩ := cells5 (below_blk hb1 (blk_new _ _))
  have hz : w.heap.size < w1.heap.size := by have := hb1.size; simp at this; omega
  have HB : Hid (Below w.heap.size w w1) := ((Below.refl _ _).alloc (Nat.le_refl _) _).trans (hb1.mono (by simp; try omega))
  clear hb1
  go_wp2_with fail
  go_rounds 1
  go_ret
  have hB := HB.out
  exact ⟨rfl, by go_grown⟩

set_option maxRecDepth 8000 in
theorem vRefs_W (w : World) (k n : Int) (h : Plain k n) : Calls Tryz.prog 125 #[.agg #[.int .u8 k, .int .i64 n, .string ⟨#[]⟩, .slice none 0 0, .int .i64 0]] w fun e w' => e = .returned (.slice none 0 0) ∧ Below w.heap.size w w' := by
  go_enter Tryz.func125, Tryz.ntmps125
  go_wp2_with fail
  refine (vMay_W _ k n h).mono ?_
  rintro e w1 ⟨rfl, hb1⟩
  obtain ⟨⟨a0, a1, a2, a3, a4⟩, f0, f1, f2, f3, f4⟩ := cells5 (below_blk hb1 (blk2_old _ _ _))
  have b0 : w1.heap[w.heap.size + 1]? = some (.cells #[.slice none 0 0] 112 (0, 0)) := below_blk hb1 (blk2_new _ _ _)
  have hz : w.heap.size + 1 < w1.heap.size := by have := hb1.size; simp at this; omega
  have HB : Hid (Below w.heap.size w w1) := (((Below.refl _ _).alloc (Nat.le_refl _) _).alloc (by simp) _).trans (hb1.mono (by simp; omega))
  clear hb1
  go_wp2_with fail
  refine (vwalk_W _ k n h _).mono ?_
  rintro e w2 ⟨rfl, hb2⟩
  have b2 : w2.cell? ⟨w.heap.size + 1, 0, none⟩ = some (.slice none 0 0) := by rw [cell_blk (below_blk hb2 b0)]; rfl
  have hz2 : w.heap.size + 1 < w2.heap.size := by have := hb2.size; omega
  have HB2 : Hid (Below w.heap.size w w2) := HB.out.trans (hb2.mono HB.out.size)
  clear hb2
  go_wp2_with fail
  go_ret
  have hB := HB2.out
  have hz1 : w.heap.size ≤ w1.heap.size := by omega
  exact ⟨rfl, by go_grown⟩
end Go.Proofs.YtifmifjbebpomaaGreatDoor
