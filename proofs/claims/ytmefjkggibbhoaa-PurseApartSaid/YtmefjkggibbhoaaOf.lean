/- Of: whose money it is. Move where one of the two is a mint. -/
import Derived.Test.YtmefjkggibbhoaaPurses
import Derived.Test.YtmefjkggibbhoaaMove
namespace Go.Proofs.Ytmefjkggibbhoaa
open Go.RowKit Go.ChangeMaps Go.MapKept
variable {w : World} {p : Nat} {M : WM} {F : Nat → Prop}

set_option maxRecDepth 8000 in
theorem Of_mint (hW : IsW w p M F) {r h N lo : Int} (ht : M.at r = some (mintT h N lo)) :
    Calls Try.prog 39 #[.pointer (some ⟨p, 0, none⟩), .int .i64 r] w fun e w' => e = .returned (.tuple #[.int .i64 r, .int .i64 0]) ∧ Below w.heap.size w w' := by
  have hf := find_lt hW (q := 8) (hW.ok.at_wf ht) ht plain0 (.inl rfl)
  rw [if_pos rfl] at hf
  have HF := (show Hid _ from hf)
  clear hf hW ht
  go_enter Try.func39, Try.ntmps39
  go_wp2_with fail
  refine Calls.mono HF.out ?_
  rintro e w1 ⟨rfl, hb1⟩
  obtain ⟨w2, hst, hb2, -, -⟩ := boxed_what' w1 #[.int .u8 8, .int .i64 h, .int .u8 0, .int .i64 0, .string ⟨#[]⟩, .slice none 0 0, .int .i64 0, .slice none 0 0, .int .i64 N, .int .i64 lo, .int .i64 0, .int .i64 0, .int .u8 0, .bool false, .slice none 0 0, .slice none 0 0] rfl (by simp [go_sem])
  have HB2 := (show Hid (Below w.heap.size w w2) from hb1.trans (hb2.mono hb1.size))
  clear hb1 hb2
  go_wp2_with fail
  go_ret2
  exact ⟨rfl, HB2.out⟩

set_option maxRecDepth 8000 in
theorem Of_purse (hW : IsW w p M F) {r h n m : Int} (ht : M.at r = some (purseT h n m)) :
    Calls Try.prog 39 #[.pointer (some ⟨p, 0, none⟩), .int .i64 r] w fun e w' => e = .returned (.tuple #[.int .i64 m, .int .i64 0]) ∧ Below w.heap.size w w' := by
  have hf := find_lt hW (q := 8) (hW.ok.at_wf ht) ht plain0 (.inl rfl)
  rw [if_neg (by decide)] at hf
  have hf2 : ∀ w', Below w.heap.size w w' → _ := fun w' hb => find_lt (hW.below hb) (q := 9) (hW.ok.at_wf ht) ht plain0 (.inr rfl)
  simp only [if_true] at hf2
  have HF := (show Hid _ from hf)
  have HF2 := (show Hid _ from hf2)
  clear hf hf2 hW ht
  go_enter Try.func39, Try.ntmps39
  go_wp2_with fail
  refine Calls.mono HF.out ?_
  rintro e w1 ⟨rfl, hb1⟩
  obtain ⟨w2, hst, hb2, -, -⟩ := boxed_what' w1 #[.int .u8 9, .int .i64 h, .int .u8 0, .int .i64 0, .string ⟨#[]⟩, .slice none 0 0, .int .i64 0, .slice none 0 0, .int .i64 n, .int .i64 0, .int .i64 m, .int .i64 0, .int .u8 0, .bool false, .slice none 0 0, .slice none 0 0] rfl (by simp [go_sem])
  have HB2 := (show Hid (Below w.heap.size w w2) from hb1.trans (hb2.mono hb1.size))
  clear hb1 hb2
  go_wp2_with fail
  clear hst
  refine Calls.mono (HF2.out _ HB2.out) ?_
  rintro e w3 ⟨rfl, hb3⟩
  obtain ⟨w4, hst, hb4, hg4, -⟩ := boxed_what' w3 #[.int .u8 9, .int .i64 h, .int .u8 0, .int .i64 0, .string ⟨#[]⟩, .slice none 0 0, .int .i64 0, .slice none 0 0, .int .i64 n, .int .i64 0, .int .i64 m, .int .i64 0, .int .u8 0, .bool false, .slice none 0 0, .slice none 0 0] rfl (by simp [go_sem])
  have HB4 := (show Hid (Below w.heap.size w w4) from HB2.out.trans ((hb3.trans (hb4.mono hb3.size)).mono HB2.out.size))
  have c10 : w4.cell? ⟨w3.heap.size, 10, none⟩ = some (.int .i64 m) := by rw [cell_blk hg4]; rfl
  clear hb3 hb4 hg4
  go_wp2_with fail
  go_ret2
  exact ⟨rfl, HB4.out⟩

set_option maxHeartbeats 1000000 in
set_option maxRecDepth 8000 in
theorem Move_mint (hW : IsW w p M F) {a h N mi b h' N' lo : Int} (ha : M.at a = some (purseT h N mi)) (hb : M.at b = some (mintT h' N' lo)) :
    Calls Try.prog 40 #[.pointer (some ⟨p, 0, none⟩), .int .i64 a, .int .i64 b] w fun e w' => e = .returned (.int .i64 100) ∧ Below w.heap.size w w' := by
  have hf := find_lt hW (q := 9) (hW.ok.at_wf ha) ha plain0 (.inr rfl)
  rw [if_pos rfl] at hf
  have hf2 : ∀ w', Below w.heap.size w w' → _ := fun w' hb' => find_lt (hW.below hb') (q := 9) (hW.ok.at_wf hb) hb plain0 (.inr rfl)
  simp only [show ¬ ((8 : Int) = 9) by decide, if_false] at hf2
  have HF := (show Hid _ from hf)
  have HF2 := (show Hid _ from hf2)
  clear hf hf2 hW ha hb
  go_enter Try.func40, Try.ntmps40
  go_wp2_with fail
  refine Calls.mono HF.out ?_
  rintro e w1 ⟨rfl, hb1⟩
  obtain ⟨w2, hst, hb2, hg2, -⟩ := boxed_what' w1 #[.int .u8 9, .int .i64 h, .int .u8 0, .int .i64 0, .string ⟨#[]⟩, .slice none 0 0, .int .i64 0, .slice none 0 0, .int .i64 N, .int .i64 0, .int .i64 mi, .int .i64 0, .int .u8 0, .bool false, .slice none 0 0, .slice none 0 0] rfl (by simp [go_sem])
  have HB2 := (show Hid (Below w.heap.size w w2) from hb1.trans (hb2.mono hb1.size))
  clear hb1 hb2 hg2
  go_wp2_with fail
  clear hst
  refine Calls.mono (HF2.out _ HB2.out) ?_
  rintro e w3 ⟨rfl, hb3⟩
  obtain ⟨w4, hst, hb4, hg4, -⟩ := boxed_what' w3 #[.int .u8 8, .int .i64 h', .int .u8 0, .int .i64 0, .string ⟨#[]⟩, .slice none 0 0, .int .i64 0, .slice none 0 0, .int .i64 N', .int .i64 lo, .int .i64 0, .int .i64 0, .int .u8 0, .bool false, .slice none 0 0, .slice none 0 0] rfl (by simp [go_sem])
  have HB4 := (show Hid (Below w.heap.size w w4) from HB2.out.trans ((hb3.trans (hb4.mono hb3.size)).mono HB2.out.size))
  clear hb3 hb4 hg4
  go_wp2_with fail
  go_ret
  exact ⟨rfl, HB4.out⟩
end Go.Proofs.Ytmefjkggibbhoaa
