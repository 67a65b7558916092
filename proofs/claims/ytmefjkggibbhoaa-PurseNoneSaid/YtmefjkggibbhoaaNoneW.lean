/- PurseNone: the walk. -/
import Derived.Test.YtmefjkggibbhoaaNone
import Derived.Test.YtmefjkggibbhoaaLives10
namespace Go.Proofs.Ytmefjkggibbhoaa
open Go.RowKit Go.ChangeMaps Go.MapKept

/-- The two worlds that are not there, in their array. -/
def LAt (w w' : World) : Prop := Below w.heap.size w w' ∧ w'.heap[w.heap.size]? = some (.cells #[.slice none 0 0, .slice none 0 0, .map none, .map none, .int .i64 0, .slice none 0 0] 90 (0, 0)) ∧
  w'.heap[w.heap.size + 1]? = some (.cells #[.pointer none, .pointer (some ⟨w.heap.size, 0, none⟩)] 91 (0, 0))
theorem LAt.below {w w1 w2 : World} (h : LAt w w1) (hb : Below w1.heap.size w1 w2) : LAt w w2 := by
  obtain ⟨h1, h2, h3⟩ := h
  exact ⟨h1.trans (hb.mono h1.size), below_blk hb h2, below_blk hb h3⟩

set_option maxHeartbeats 4000000 in
set_option maxRecDepth 100000 in
theorem none_W' (w : World) (a b s : Int) : Calls Try.prog 13 #[.int .i64 a, .int .i64 b, .int .i64 s] w fun e w' => e = .returned (.bool true) ∧ Below w.heap.size w w' := by
  go_enter Try.func13, Try.ntmps13
  go_wp2_with fail
  have HL0 : Hid (LAt w ((w.alloc (.cells #[.slice none 0 0, .slice none 0 0, .map none, .map none, .int .i64 0, .slice none 0 0] 90)).alloc (.cells #[.pointer none, .pointer (some ⟨w.heap.size, 0, none⟩)] 91))) :=
    ⟨((Below.refl _ w).alloc (Nat.le_refl _) _).alloc (by simp) _, blk2_old w _ _, blk2_new w _ _⟩
  go_loopw [9] (fun vi wr => ∃ k : Nat, vi = .int .i64 k ∧ k ≤ 2 ∧ Hid (LAt w wr)) (fun vi _ => 2 - (intOf vi).toNat)
  case atStart => exact ⟨0, rfl, by omega, HL0⟩
  case round =>
    clear HL0
    obtain ⟨k, rfl, hk, HL0⟩ := hrel
    by_cases hk2 : k < 2
    · have hkz : (k : Int) < 2 := by omega
      obtain ⟨q, hc, hno⟩ : ∃ q, wr.cell? ⟨w.heap.size + 1, k, none⟩ = some (.pointer q) ∧ NoW wr (.pointer q) := by
        obtain ⟨-, h1, h2⟩ := HL0.out
        rcases (show k = 0 ∨ k = 1 by omega) with rfl | rfl
        · exact ⟨none, by rw [cell_blk h2]; rfl, .inl rfl⟩
        · exact ⟨some ⟨w.heap.size, 0, none⟩, by rw [cell_blk h2]; rfl, .inr ⟨w.heap.size, rfl, by rw [cell_blk h1]; rfl⟩⟩
      have HN0 := (show Hid (NoW wr (.pointer q)) from hno)
      clear hno
      go_wp2_with fail
      refine Calls.mono (Mint_no HN0.out s) ?_
      rintro e w1 ⟨rfl, hb⟩
      have HN1 : Hid (NoW w1 (.pointer q)) := HN0.out.below hb
      have HL1 : Hid (LAt w w1) := HL0.out.below hb
      clear hb HN0 HL0
      go_wp2_with fail
      refine Calls.mono (Ask_no HN1.out a s) ?_
      rintro e w2 ⟨rfl, hb⟩
      have HN2 : Hid (NoW w2 (.pointer q)) := HN1.out.below hb
      have HL2 : Hid (LAt w w2) := HL1.out.below hb
      clear hb HN1 HL1
      go_wp2_with fail
      refine Calls.mono (Get_no HN2.out a) ?_
      rintro e w3 ⟨rfl, hb⟩
      have HN3 : Hid (NoW w3 (.pointer q)) := HN2.out.below hb
      have HL3 : Hid (LAt w w3) := HL2.out.below hb
      clear hb HN2 HL2
      go_wp2_with fail
      refine Calls.mono (Take_no HN3.out a s) ?_
      rintro e w4 ⟨rfl, hb⟩
      have HN4 : Hid (NoW w4 (.pointer q)) := HN3.out.below hb
      have HL4 : Hid (LAt w w4) := HL3.out.below hb
      clear hb HN3 HL3
      go_wp2_with fail
      refine Calls.mono (Of_no HN4.out a) ?_
      rintro e w5 ⟨rfl, hb⟩
      have HN5 : Hid (NoW w5 (.pointer q)) := HN4.out.below hb
      have HL5 : Hid (LAt w w5) := HL4.out.below hb
      clear hb HN4 HL4
      go_wp2_with fail
      refine Calls.mono (Purses_no HN5.out a) ?_
      rintro e w6 ⟨rfl, hb⟩
      have HN6 : Hid (NoW w6 (.pointer q)) := HN5.out.below hb
      have HL6 : Hid (LAt w w6) := HL5.out.below hb
      clear hb HN5 HL5
      go_wp2_with fail
      refine Calls.mono (Sum_no HN6.out a) ?_
      rintro e w7 ⟨rfl, hb⟩
      have HN7 : Hid (NoW w7 (.pointer q)) := HN6.out.below hb
      have HL7 : Hid (LAt w w7) := HL6.out.below hb
      clear hb HN6 HL6
      go_wp2_with fail
      refine Calls.mono (Move_no HN7.out a b) ?_
      rintro e w8 ⟨rfl, hb⟩
      have HN8 : Hid (NoW w8 (.pointer q)) := HN7.out.below hb
      have HL8 : Hid (LAt w w8) := HL7.out.below hb
      clear hb HN7 HL7
      go_wp2_with fail
      refine Calls.mono (Check_no HN8.out ) ?_
      rintro e w9 ⟨rfl, hb⟩
      have HN9 : Hid (NoW w9 (.pointer q)) := HN8.out.below hb
      have HL9 : Hid (LAt w w9) := HL8.out.below hb
      clear hb HN8 HL8
      go_wp2_with fail
      go_roundw
      case rel => exact ⟨k + 1, by go_num, by omega, HL9⟩
      case measure => simp [intOf]; omega
    · have hkz : ¬ (k : Int) < 2 := by omega
      go_wp2_with fail
      refine (lives10_W wr).mono ?_
      rintro e w1 ⟨rfl, hb⟩
      have HB1 : Hid (Below w.heap.size w w1) := HL0.out.1.trans (hb.mono HL0.out.1.size)
      clear hb
      go_wp2_with fail
      go_ret
      exact ⟨rfl, HB1.out⟩
end Go.Proofs.Ytmefjkggibbhoaa
