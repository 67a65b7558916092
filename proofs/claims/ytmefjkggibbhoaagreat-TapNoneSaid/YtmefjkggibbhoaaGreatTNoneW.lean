/- TapNone: the walk. -/
import Derived.Test.YtmefjkggibbhoaaGreatTNone
import Derived.Test.YtmefjkggibbhoaaGreatLives13
namespace Go.Proofs.YtmefjkggibbhoaaGreat
open Go.RowKit Go.ChangeMaps Go.MapKept

/-- The two worlds that are not there, in their array. -/
def LAt (w w' : World) : Prop := Below w.heap.size w w' ∧ w'.heap[w.heap.size]? = some (.cells #[.slice none 0 0, .slice none 0 0, .map none, .map none, .int .i64 0, .slice none 0 0] 64 (0, 0)) ∧
  w'.heap[w.heap.size + 1]? = some (.cells #[.pointer none, .pointer (some ⟨w.heap.size, 0, none⟩)] 65 (0, 0))
theorem LAt.below {w w1 w2 : World} (h : LAt w w1) (hb : Below w1.heap.size w1 w2) : LAt w w2 := by
  obtain ⟨h1, h2, h3⟩ := h
  exact ⟨h1.trans (hb.mono h1.size), below_blk hb h2, below_blk hb h3⟩

set_option maxHeartbeats 4000000 in
set_option maxRecDepth 100000 in
theorem tnone_W (w : World) (a b s : Int) : Calls Tryz.prog 4 #[.int .i64 a, .int .i64 b, .int .i64 s] w fun e w' => e = .returned (.bool true) ∧ Below w.heap.size w w' := by
  go_enter Tryz.func4, Tryz.ntmps4
  go_wp2_with fail
  have HL0 : Hid (LAt w ((w.alloc (.cells #[.slice none 0 0, .slice none 0 0, .map none, .map none, .int .i64 0, .slice none 0 0] 64)).alloc (.cells #[.pointer none, .pointer (some ⟨w.heap.size, 0, none⟩)] 65))) :=
    ⟨((Below.refl _ w).alloc (Nat.le_refl _) _).alloc (by simp) _, blk2_old w _ _, blk2_new w _ _⟩
  go_loopw [8] (fun vi wr => ∃ k : Nat, vi = .int .i64 k ∧ k ≤ 2 ∧ Hid (LAt w wr)) (fun vi _ => 2 - (intOf vi).toNat)
  case atStart => exact ⟨0, rfl, by omega, HL0⟩
  case round =>
    clear HL0
    obtain ⟨k, rfl, hk, HL0⟩ := hrel
    by_cases hk2 : k < 2
    · have hkz : (k : Int) < 2 := by omega
      obtain ⟨q, hc, hno⟩ : ∃ q, wr.cell? ⟨w.heap.size + 1, k, none⟩ = some (.pointer q) ∧ NoW wr (.pointer q) := by
        obtain ⟨-, h1, h2⟩ := HL0.out
        rcases (show k = 0 ∨ k = 1 by omega) with rfl | rfl
        · exact ⟨none, by rw [cell_blk h2]; rfl, .inl rfl⟩
        · exact ⟨some ⟨w.heap.size, 0, none⟩, by rw [cell_blk h2]; rfl, .inr ⟨w.heap.size, rfl, by rw [cell_blk h1]; rfl⟩⟩
      have HN0 := (show Hid (NoW wr (.pointer q)) from hno)
      clear hno
      go_wp2_with fail
      refine Calls.mono (tMake_no HN0.out s a) ?_
      rintro e w1 ⟨rfl, hb⟩
      have HN1 : Hid (NoW w1 (.pointer q)) := HN0.out.below hb
      have HL1 : Hid (LAt w w1) := HL0.out.below hb
      clear hb HN0 HL0
      go_wp2_with fail
      refine Calls.mono (tWith_no HN1.out s a b) ?_
      rintro e _ ⟨rfl, rfl⟩
      go_wp2_with fail
      refine Calls.mono (tTaps_no HN1.out a) ?_
      rintro e w2 ⟨rfl, hb⟩
      have HN2 : Hid (NoW w2 (.pointer q)) := HN1.out.below hb
      have HL2 : Hid (LAt w w2) := HL1.out.below hb
      clear hb HN1 HL1
      go_wp2_with fail
      refine Calls.mono (tCount_no HN2.out a) ?_
      rintro e w3 ⟨rfl, hb⟩
      have HN3 : Hid (NoW w3 (.pointer q)) := HN2.out.below hb
      have HL3 : Hid (LAt w w3) := HL2.out.below hb
      clear hb HN2 HL2
      go_wp2_with fail
      refine Calls.mono (tTally_no HN3.out a) ?_
      rintro e w4 ⟨rfl, hb⟩
      have HN4 : Hid (NoW w4 (.pointer q)) := HN3.out.below hb
      have HL4 : Hid (LAt w w4) := HL3.out.below hb
      clear hb HN3 HL3
      go_wp2_with fail
      refine Calls.mono (tOf_no HN4.out a) ?_
      rintro e w5 ⟨rfl, hb⟩
      have HN5 : Hid (NoW w5 (.pointer q)) := HN4.out.below hb
      have HL5 : Hid (LAt w w5) := HL4.out.below hb
      clear hb HN4 HL4
      go_wp2_with fail
      refine Calls.mono (tPass_no HN5.out a) ?_
      rintro e _ ⟨rfl, rfl⟩
      go_wp2_with fail
      go_roundw
      case rel => exact ⟨k + 1, by go_num, by omega, HL5⟩
      case measure => simp [intOf]; omega
    · have hkz : ¬ (k : Int) < 2 := by omega
      go_wp2_with fail
      refine (lives13_W wr).mono ?_
      rintro e w1 ⟨rfl, hb⟩
      have HB1 : Hid (Below w.heap.size w w1) := HL0.out.1.trans (hb.mono HL0.out.1.size)
      clear hb
      go_wp2_with fail
      go_ret
      exact ⟨rfl, HB1.out⟩
end Go.Proofs.YtmefjkggibbhoaaGreat
