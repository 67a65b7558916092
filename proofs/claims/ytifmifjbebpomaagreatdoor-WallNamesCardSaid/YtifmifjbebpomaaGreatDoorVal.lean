/- Values without lists: nothing, a number. What is asked of them, and what is copied. -/
import Derived.Test.YtifmifjbebpomaaGreatDoorWholes
import Derived.Deep.QuietTactic
import Derived.BigQuiet
namespace Go.Proofs.YtifmifjbebpomaaGreatDoor
open Go.RowKit Go.ChangeMaps Go.MapKept

/-- A value that is nothing or a number. -/
def Plain (k n : Int) : Prop := (k = 0 ∧ n = 0) ∨ k = 1

set_option maxRecDepth 8000 in
theorem vMay_W (w : World) (k n : Int) (h : Plain k n) : Calls Tryz.prog 83 #[.agg #[.int .u8 k, .int .i64 n, .string ⟨#[]⟩, .slice none 0 0, .int .i64 0]] w fun e w' => e = .returned (.bool true) ∧ Below w.heap.size w w' := by
  rcases h with ⟨rfl, rfl⟩ | rfl
  · go_enter Tryz.func83, Tryz.ntmps83
    go_wp2
    go_ret
    exact ⟨rfl, by go_grown⟩
  · go_enter Tryz.func83, Tryz.ntmps83
    go_wp2
    go_ret
    exact ⟨rfl, by go_grown⟩

set_option maxRecDepth 8000 in
theorem vown_W (w : World) (k n : Int) : Calls Tryz.prog 122 #[.agg #[.int .u8 k, .int .i64 n, .string ⟨#[]⟩, .slice none 0 0, .int .i64 0]] w fun e w' => e = .returned (.agg #[.int .u8 k, .int .i64 n, .string ⟨#[]⟩, .slice none 0 0, .int .i64 0]) ∧ Below w.heap.size w w' := by
  go_enter Tryz.func122, Tryz.ntmps122
  go_wp2
  go_returns
  exact ⟨rfl, by go_grown⟩

set_option maxRecDepth 8000 in
theorem vOwn_W (w : World) (k n : Int) (h : Plain k n) : Calls Tryz.prog 128 #[.agg #[.int .u8 k, .int .i64 n, .string ⟨#[]⟩, .slice none 0 0, .int .i64 0]] w fun e w' =>
    e = .returned (.tuple #[.agg #[.int .u8 k, .int .i64 n, .string ⟨#[]⟩, .slice none 0 0, .int .i64 0], .int .i64 0]) ∧ Below w.heap.size w w' := by
  go_enter Tryz.func128, Tryz.ntmps128
  go_wp2_with fail
  refine (vMay_W _ k n h).mono ?_
  rintro e w1 ⟨rfl, hb1⟩
  obtain ⟨hc, hf⟩ := bcell hb1
  have hz : w.heap.size + 1 < w1.heap.size := by have := hb1.size; simp at this; omega
  have HB : Hid (Below w.heap.size w w1) := (((Below.refl _ _).alloc (Nat.le_refl _) _).alloc (by simp) _).trans (hb1.mono (by simp; omega))
  clear hb1
  go_wp2_with fail
  refine (vown_W _ k n).mono ?_
  rintro e w2 ⟨rfl, hb2⟩
  obtain ⟨hc2, hf2⟩ := bcell hb2
  have hz2 : w.heap.size + 1 < w2.heap.size := by have := hb2.size; omega
  have HB2 : Hid (Below w.heap.size w w2) := HB.out.trans (hb2.mono HB.out.size)
  clear hb2
  go_wp2_with fail
  have hB2 := HB2.out
  have hz1 : w.heap.size + 1 < w1.heap.size := hz
  exact bodyPost_ret (v := .tuple #[.agg #[.int .u8 k, .int .i64 n, .string ⟨#[]⟩, .slice none 0 0, .int .i64 0], .int .i64 0]) (by simp [results, Tryz.results128, go_sem, hc, hc2, hz1]) rfl ⟨rfl, by go_grown⟩

set_option maxRecDepth 8000 in
theorem cloneVal_W (w : World) : Calls Tryz.prog 95 #[.slice none 0 0] w fun e w' => e = .returned (.slice none 0 0) ∧ Below w.heap.size w w' := by
  go_enter Tryz.func95, Tryz.ntmps95
  go_wp2
  go_ret
  exact ⟨rfl, by go_grown⟩

set_option maxRecDepth 8000 in
theorem cloneName_W (w : World) : Calls Tryz.prog 96 #[.slice none 0 0] w fun e w' => e = .returned (.slice none 0 0) ∧ w = w' := by
  go_enter Tryz.func96, Tryz.ntmps96
  go_wp2
  go_ret
  exact ⟨rfl, rfl⟩
set_option maxRecDepth 8000 in
theorem cloneStmt_W (w : World) : Calls Tryz.prog 129 #[.slice none 0 0] w fun e w' => e = .returned (.slice none 0 0) ∧ w = w' := by
  go_enter Tryz.func129, Tryz.ntmps129
  go_wp2
  go_ret
  exact ⟨rfl, rfl⟩
set_option maxRecDepth 8000 in
theorem ownCode_W (w : World) : Calls Tryz.prog 97 #[.slice none 0 0] w fun e w' => e = .returned (.slice none 0 0) ∧ w = w' := by
  go_enter Tryz.func97, Tryz.ntmps97
  go_wp2_with fail
  refine (cloneStmt_W _).mono ?_
  rintro e w1 ⟨rfl, rfl⟩
  go_wp2_with fail
  go_rounds 1
  go_ret
  exact ⟨rfl, rfl⟩
set_option maxRecDepth 8000 in
theorem wsmall_W (w : World) (p : Option Addr) : Calls Tryz.prog 85 #[.slice none 0 0, .pointer p] w fun e w' => e = .returned (.bool true) ∧ w = w' := by
  go_enter Tryz.func85, Tryz.ntmps85
  go_wp2_with fail
  go_rounds 1
  go_ret
  exact ⟨rfl, rfl⟩
set_option maxRecDepth 8000 in
theorem containsRef_W (w : World) (f : Value) : Calls Tryz.prog 87 #[.slice none 0 0, f] w fun e w' => e = .returned (.bool false) ∧ w = w' := by
  go_enter Tryz.func87, Tryz.ntmps87
  go_wp2
  go_rounds 1
  go_ret
  exact ⟨rfl, rfl⟩

set_option maxHeartbeats 1600000 in
set_option maxRecDepth 8000 in
theorem wown_W (w : World) (k n : Int) (h : Plain k n) : Calls Tryz.prog 94 #[.agg #[.int .u8 k, .int .i64 n, .string ⟨#[]⟩, .slice none 0 0, .int .i64 0]] w fun e w' => e = .returned (.agg #[.int .u8 k, .int .i64 n, .string ⟨#[]⟩, .slice none 0 0, .int .i64 0]) ∧ Below w.heap.size w w' := by
  go_enter Tryz.func94, Tryz.ntmps94
  go_wp2_with fail
  refine (vOwn_W _ k n h).mono ?_
  rintro e w1 ⟨rfl, hb1⟩
  obtain ⟨⟨a0, a1, a2, a3, a4⟩, f0, f1, f2, f3, f4⟩ := cells5 (below_blk hb1 (blk2_new _ _ _))
  have hz : w.heap.size + 1 < w1.heap.size := by have := hb1.size; simp at this; omega
  have HB : Hid (Below w.heap.size w w1) := (((Below.refl _ _).alloc (Nat.le_refl _) _).alloc (by simp) _).trans (hb1.mono (by simp; omega))
  clear hb1
  go_wp2_with fail
  have hB := HB.out
  have hz1 : w.heap.size ≤ w1.heap.size := by omega
  exact bodyPost_ret (v := .agg #[.int .u8 k, .int .i64 n, .string ⟨#[]⟩, .slice none 0 0, .int .i64 0]) (by simp [results, Tryz.results94, go_sem, a0, a1, a2, a3, a4, hz]) rfl ⟨rfl, by go_grown⟩


end Go.Proofs.YtifmifjbebpomaaGreatDoor
