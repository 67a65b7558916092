/- Taps: Tally, Count, count. -/
import Derived.Test.YtmefjkggibbhoaaGreatTap
import Derived.Test.YtmefjkggibbhoaaGreatLayW
namespace Go.Proofs.YtmefjkggibbhoaaGreat
open Go.RowKit Go.ChangeMaps Go.MapKept
variable {w : World} {p : Nat} {M : WM} {F : Nat → Prop}

set_option maxRecDepth 8000 in
theorem Tally_tap (hW : IsW w p M F) {r h tg n : Int} (ht : M.at r = some (tapT h tg n)) :
    Calls Tryz.prog 19 #[.pointer (some ⟨p, 0, none⟩), .int .i64 r] w fun e w' => e = .returned (.tuple #[.int .i64 n, .int .i64 0]) ∧ Below w.heap.size w w' := by
  have HQ := (show Hid _ from What_lt hW (hW.ok.at_wf ht) ht plain0)
  clear hW ht
  go_enter Tryz.func19, Tryz.ntmps19
  go_wp2_with fail
  refine Calls.mono HQ.out ?_
  rintro e w1 ⟨rfl, hb1⟩
  obtain ⟨w2, hst, hb2, hg2⟩ := box_what w1 #[.int .u8 16, .int .i64 h, .int .u8 0, .int .i64 0, .string ⟨#[]⟩, .slice none 0 0, .int .i64 0, .slice none 0 0, .int .i64 0, .int .i64 0, .int .i64 tg, .int .i64 n, .int .u8 0, .bool false, .slice none 0 0, .slice none 0 0] rfl (by simp [go_sem])
  have HB2 := (show Hid (Below w.heap.size w w2) from hb1.trans (hb2.mono hb1.size))
  have c0 : w2.cell? ⟨w1.heap.size, 0, none⟩ = some (.int .u8 16) := by rw [cell_blk hg2]; rfl
  have c11 : w2.cell? ⟨w1.heap.size, 11, none⟩ = some (.int .i64 n) := by rw [cell_blk hg2]; rfl
  clear hb1 hb2 hg2
  go_wp2_with fail
  go_ret2
  exact ⟨rfl, HB2.out⟩

set_option maxRecDepth 8000 in
theorem Tally_not (hW : IsW w p M F) {r k h vk vn n l tg bi s : Int} {fu : Bool} (ht : M.at r = some (lt k h vk vn n l tg bi s fu)) (hp : Plain vk vn) (hk : k ≠ 16) :
    Calls Tryz.prog 19 #[.pointer (some ⟨p, 0, none⟩), .int .i64 r] w fun e w' => e = .returned (.tuple #[.int .i64 0, .int .i64 130]) ∧ Below w.heap.size w w' := by
  have HQ := (show Hid _ from What_lt hW (hW.ok.at_wf ht) ht hp)
  have hk2 : (k != 16) = true := by simpa using hk
  clear hW ht hk
  go_enter Tryz.func19, Tryz.ntmps19
  go_wp2_with fail
  refine Calls.mono HQ.out ?_
  rintro e w1 ⟨rfl, hb1⟩
  obtain ⟨w2, hst, hb2, hg2⟩ := box_what w1 #[.int .u8 k, .int .i64 h, .int .u8 vk, .int .i64 vn, .string ⟨#[]⟩, .slice none 0 0, .int .i64 0, .slice none 0 0, .int .i64 n, .int .i64 l, .int .i64 tg, .int .i64 bi, .int .u8 s, .bool fu, .slice none 0 0, .slice none 0 0] rfl (by simp [go_sem])
  have HB2 := (show Hid (Below w.heap.size w w2) from hb1.trans (hb2.mono hb1.size))
  have c0 : w2.cell? ⟨w1.heap.size, 0, none⟩ = some (.int .u8 k) := by rw [cell_blk hg2]; rfl
  clear hb1 hb2 hg2
  go_wp2_with fail
  go_ret2
  exact ⟨rfl, HB2.out⟩

set_option maxRecDepth 8000 in
theorem Count_tap (hW : IsW w p M F) {r h tg n h' c : Int} (ht : M.at r = some (tapT h tg n)) (hn : M.at n = some (tallyT h' c)) :
    Calls Tryz.prog 18 #[.pointer (some ⟨p, 0, none⟩), .int .i64 r] w fun e w' => e = .returned (.tuple #[.int .i64 c, .int .i64 0]) ∧ Below w.heap.size w w' := by
  have HT := (show Hid _ from Tally_tap hW ht)
  have HQ : Hid (∀ w1, Below w.heap.size w w1 → Calls Tryz.prog 14 #[.pointer (some ⟨p, 0, none⟩), .int .i64 n] w1 fun e w' => e = .returned (.tuple #[.agg #[.int .u8 3, .int .i64 h', .int .u8 0, .int .i64 0, .string ⟨#[]⟩, .slice none 0 0, .int .i64 0, .slice none 0 0, .int .i64 c, .int .i64 0, .int .i64 0, .int .i64 0, .int .u8 0, .bool false, .slice none 0 0, .slice none 0 0], .int .i64 0]) ∧ Below w1.heap.size w1 w') := fun w1 hb => What_lt (hW.below hb) (hW.ok.at_wf hn) hn plain0
  clear hW ht hn
  go_enter Tryz.func18, Tryz.ntmps18
  go_wp2_with fail
  refine Calls.mono HT.out ?_
  rintro e w1 ⟨rfl, hb1⟩
  have HB1 := (show Hid (Below w.heap.size w w1) from hb1)
  clear hb1
  go_wp2_with fail
  refine Calls.mono (HQ.out w1 HB1.out) ?_
  rintro e w2 ⟨rfl, hb2⟩
  obtain ⟨w3, hst, hb3, hg3⟩ := box_what w2 #[.int .u8 3, .int .i64 h', .int .u8 0, .int .i64 0, .string ⟨#[]⟩, .slice none 0 0, .int .i64 0, .slice none 0 0, .int .i64 c, .int .i64 0, .int .i64 0, .int .i64 0, .int .u8 0, .bool false, .slice none 0 0, .slice none 0 0] rfl (by simp [go_sem])
  have HB3 := (show Hid (Below w.heap.size w w3) from HB1.out.trans ((hb2.trans (hb3.mono hb2.size)).mono HB1.out.size))
  have c8 : w3.cell? ⟨w2.heap.size, 8, none⟩ = some (.int .i64 c) := by rw [cell_blk hg3]; rfl
  clear hb2 hb3 hg3
  go_wp2_with fail
  go_ret2
  exact ⟨rfl, HB3.out⟩

set_option maxRecDepth 8000 in
theorem Count_not (hW : IsW w p M F) {r k h vk vn n l tg bi s : Int} {fu : Bool} (ht : M.at r = some (lt k h vk vn n l tg bi s fu)) (hp : Plain vk vn) (hk : k ≠ 16) :
    Calls Tryz.prog 18 #[.pointer (some ⟨p, 0, none⟩), .int .i64 r] w fun e w' => e = .returned (.tuple #[.int .i64 0, .int .i64 130]) ∧ Below w.heap.size w w' := by
  have HT := (show Hid _ from Tally_not hW ht hp hk)
  clear hW ht hk
  go_enter Tryz.func18, Tryz.ntmps18
  go_wp2_with fail
  refine Calls.mono HT.out ?_
  rintro e w1 ⟨rfl, hb1⟩
  have HB1 := (show Hid (Below w.heap.size w w1) from hb1)
  clear hb1
  go_wp2_with fail
  go_ret2
  exact ⟨rfl, HB1.out⟩

/-- A tally one on. -/
def up (c : Int) : Int := min (c + 1) 9007199254740992

set_option maxHeartbeats 1000000 in
set_option maxRecDepth 8000 in
theorem count_W (hW : IsW w p M F) {r h tg n h' c : Int} (ht : M.at r = some (tapT h tg n)) (hn : M.at n = some (tallyT h' c)) (home : 0 ≤ h' ∧ h' < M.made.length) (hc : 0 ≤ c ∧ c ≤ 9007199254740992) :
    Calls Tryz.prog 43 #[.agg #[.pointer (some ⟨p, 0, none⟩)], .int .i64 r] w fun e w' => e = .returned (.tuple #[]) ∧ IsW w' p (M.set n (tallyT h' (up c))) F ∧ Keeps F w w' := by
  have HQ : Hid (∀ w1, Below w.heap.size w w1 → Calls Tryz.prog 14 #[.pointer (some ⟨p, 0, none⟩), .int .i64 r] w1 fun e w' => e = .returned (.tuple #[.agg #[.int .u8 16, .int .i64 h, .int .u8 0, .int .i64 0, .string ⟨#[]⟩, .slice none 0 0, .int .i64 0, .slice none 0 0, .int .i64 0, .int .i64 0, .int .i64 tg, .int .i64 n, .int .u8 0, .bool false, .slice none 0 0, .slice none 0 0], .int .i64 0]) ∧ Below w1.heap.size w1 w') := fun w1 hb => What_lt (hW.below hb) (hW.ok.at_wf ht) ht plain0
  have HQ2 : Hid (∀ w1, Below w.heap.size w w1 → Calls Tryz.prog 14 #[.pointer (some ⟨p, 0, none⟩), .int .i64 n] w1 fun e w' => e = .returned (.tuple #[.agg #[.int .u8 3, .int .i64 h', .int .u8 0, .int .i64 0, .string ⟨#[]⟩, .slice none 0 0, .int .i64 0, .slice none 0 0, .int .i64 c, .int .i64 0, .int .i64 0, .int .i64 0, .int .u8 0, .bool false, .slice none 0 0, .slice none 0 0], .int .i64 0]) ∧ Below w1.heap.size w1 w') := fun w1 hb => What_lt (hW.below hb) (hW.ok.at_wf hn) hn plain0
  have HW := (show Hid (IsW w p M F) from hW)
  have Hn := (show Hid (M.at n = some _) from hn)
  have Hhome := (show Hid (0 ≤ h' ∧ h' < M.made.length) from home)
  obtain ⟨hc0, hc1⟩ := hc
  clear hW ht hn home
  go_enter Tryz.func43, Tryz.ntmps43
  go_wp2_with fail
  refine Calls.mono (HQ.out _ ((Below.refl _ w).alloc (Nat.le_refl _) _)) ?_
  rintro e w1 ⟨rfl, hb1⟩
  have hw1 := below_blk hb1 (blk_new w (.cells #[.pointer (some ⟨p, 0, none⟩)] 101))
  have hB1 : Below w.heap.size w w1 := ((Below.refl _ w).alloc (Nat.le_refl _) _).trans (hb1.mono (by simp))
  obtain ⟨w2, hst, hb2, hg2⟩ := box_what w1 #[.int .u8 16, .int .i64 h, .int .u8 0, .int .i64 0, .string ⟨#[]⟩, .slice none 0 0, .int .i64 0, .slice none 0 0, .int .i64 0, .int .i64 0, .int .i64 tg, .int .i64 n, .int .u8 0, .bool false, .slice none 0 0, .slice none 0 0] rfl (by simp [go_sem])
  have hw2 := below_blk hb2 hw1
  have HB2 := (show Hid (Below w.heap.size w w2) from hB1.trans (hb2.mono hB1.size))
  have c0 : w2.cell? ⟨w.heap.size, 0, none⟩ = some (.pointer (some ⟨p, 0, none⟩)) := by rw [cell_blk hw2]; rfl
  have c11 : w2.cell? ⟨w1.heap.size, 11, none⟩ = some (.int .i64 n) := by rw [cell_blk hg2]; rfl
  have HG2 := (show Hid _ from And.intro hw2 hg2)
  have Hlt1 := (show Hid (w.heap.size < w1.heap.size) from blk_lt hw1)
  clear hb1 hw1 hB1 hb2 hg2 hw2
  go_wp2_with fail
  clear hst
  refine Calls.mono (HQ2.out w2 HB2.out) ?_
  rintro e w3 ⟨rfl, hb3⟩
  obtain ⟨w4, hst, hb4, hg4⟩ := box_what w3 #[.int .u8 3, .int .i64 h', .int .u8 0, .int .i64 0, .string ⟨#[]⟩, .slice none 0 0, .int .i64 0, .slice none 0 0, .int .i64 c, .int .i64 0, .int .i64 0, .int .i64 0, .int .u8 0, .bool false, .slice none 0 0, .slice none 0 0] rfl (by simp [go_sem])
  have hb24 : Below w2.heap.size w2 w4 := hb3.trans (hb4.mono hb3.size)
  have hw4 := below_blk hb24 HG2.out.1
  have hu4 := below_blk hb24 HG2.out.2
  have HB4 := (show Hid (Below w.heap.size w w4) from HB2.out.trans (hb24.mono HB2.out.size))
  have hne1 : w.heap.size ≠ w3.heap.size := by have := blk_lt HG2.out.1; have := hb3.size; omega
  have hne2 : w1.heap.size ≠ w3.heap.size := by have := blk_lt HG2.out.2; have := hb3.size; omega
  have hge : w.heap.size ≤ w3.heap.size := Nat.le_trans HB2.out.size hb3.size
  have c8 : w4.cell? ⟨w3.heap.size, 8, none⟩ = some (.int .i64 c) := by rw [cell_blk hg4]; rfl
  have f8 : w4.frozen? ⟨w3.heap.size, 8, none⟩ = false := frozen_blk hg4 8
  have HS : Hid ((w4.setCell ⟨w3.heap.size, 8, none⟩ (.int .i64 (min (c + 1) 9007199254740992))).heap[w.heap.size]? = some (.cells #[.pointer (some ⟨p, 0, none⟩)] 101 (0, 0)) ∧
      (w4.setCell ⟨w3.heap.size, 8, none⟩ (.int .i64 (min (c + 1) 9007199254740992))).heap[w1.heap.size]? = some (.cells #[.int .u8 16, .int .i64 h, .int .u8 0, .int .i64 0, .string ⟨#[]⟩, .slice none 0 0, .int .i64 0, .slice none 0 0, .int .i64 0, .int .i64 0, .int .i64 tg, .int .i64 n, .int .u8 0, .bool false, .slice none 0 0, .slice none 0 0] 53 (0, 0)) ∧
      (w4.setCell ⟨w3.heap.size, 8, none⟩ (.int .i64 (min (c + 1) 9007199254740992))).heap[w3.heap.size]? = some (.cells #[.int .u8 3, .int .i64 h', .int .u8 0, .int .i64 0, .string ⟨#[]⟩, .slice none 0 0, .int .i64 0, .slice none 0 0, .int .i64 (min (c + 1) 9007199254740992), .int .i64 0, .int .i64 0, .int .i64 0, .int .u8 0, .bool false, .slice none 0 0, .slice none 0 0] 53 (0, 0)) ∧
      Below w.heap.size w (w4.setCell ⟨w3.heap.size, 8, none⟩ (.int .i64 (min (c + 1) 9007199254740992)))) :=
    ⟨blk_other hw4 ⟨w3.heap.size, 8, none⟩ _ hne1, blk_other hu4 ⟨w3.heap.size, 8, none⟩ _ hne2, blk_setCell hg4 8 _, HB4.out.setCell (p := ⟨w3.heap.size, 8, none⟩) hge _⟩
  clear hb3 hb4 hg4 hb24 hw4 hu4 hne1 hne2 hge c0 c11 HG2 HQ HQ2
  go_upto_region 4 with fail
  clear hst c8 f8
  revert HS
  generalize w4.setCell _ _ = w5
  intro HS
  have d0 : w5.cell? ⟨w.heap.size, 0, none⟩ = some (.pointer (some ⟨p, 0, none⟩)) := by rw [cell_blk HS.out.1]; rfl
  have d11 : w5.cell? ⟨w1.heap.size, 11, none⟩ = some (.int .i64 n) := by rw [cell_blk HS.out.2.1]; rfl
  have hld := loadWhat_blk HS.out.2.2.1 rfl
  have hW5 := HW.out.below HS.out.2.2.2
  have hlay := Lay_lt hW5 (r := n) (n' := min (c + 1) 9007199254740992) (vk' := 0) (vn' := 0) (l' := 0) (fu' := false) (HW.out.ok.at_wf Hn.out) Hn.out plain0 (fun w hW => form_3 hW h' (min (c + 1) 9007199254740992) (sideB_iff.2 Hhome.out) (by omega))
  have HLAY := (show Hid _ from hlay)
  clear hlay hW5
  go_wp2_with fail
  refine Calls.mono HLAY.out ?_
  rintro e w6 ⟨rfl, hW6, hk6⟩
  have HF6 : Hid (IsW w6 p (M.set n (tallyT h' (up c))) F ∧ Keeps F w w6) := ⟨hW6, Below.keeps HS.out.2.2.2 hk6⟩
  clear hW6 hk6 hld d0 d11 HLAY HS
  go_wp2_with fail
  go_end0
  exact ⟨rfl, HF6.out.1, HF6.out.2⟩
end Go.Proofs.YtmefjkggibbhoaaGreat
