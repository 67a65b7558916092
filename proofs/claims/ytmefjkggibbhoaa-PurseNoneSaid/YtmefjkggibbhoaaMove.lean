/- Mint, Move, Of: money. -/
import Derived.Test.YtmefjkggibbhoaaPurse
namespace Go.Proofs.Ytmefjkggibbhoaa
open Go.RowKit Go.ChangeMaps Go.MapKept
variable {w : World} {p : Nat} {M : WM} {F : Nat → Prop}

set_option maxRecDepth 8000 in
theorem Mint_W (hW : IsW w p M F) (hl : M.last + 1 ≤ 1099511627776) {h : Int} (home : 0 ≤ h ∧ h < M.made.length) :
    Calls Try.prog 37 #[.pointer (some ⟨p, 0, none⟩), .int .i64 h] w (MadeL w p M F h (mintT h 0 0)) := by
  have hmk := Make_8 hW hl home (n := 0) (l := 0) (by decide) (by decide)
  have HMK := (show Hid _ from hmk)
  clear hmk hW hl home
  go_enter Try.func37, Try.ntmps37
  go_wp2_with fail
  refine Calls.mono HMK.out ?_
  rintro e w5 (⟨hroom, rfl, h5⟩ | ⟨hroom, rfl, hb5⟩)
  · have H5 := (show Hid _ from h5)
    have HR : Hid (M.made.getD h.toNat 0 < 512) := hroom
    clear h5 hroom
    go_wp2_with fail
    go_ret2
    exact .inl ⟨HR.out, rfl, H5.out⟩
  · have H5 := (show Hid (Below w.heap.size w w5) from hb5)
    have HR : Hid (¬ M.made.getD h.toNat 0 < 512) := hroom
    clear hb5 hroom
    go_wp2_with fail
    go_ret2
    exact .inr ⟨by have := HR.out; omega, rfl, H5.out⟩

/-- Two boxes of Whats. -/
def MovePost (w : World) (p : Nat) (M : WM) (F : Nat → Prop) (a h N mi b h' N' mi' : Int) (e : Ending) (w' : World) : Prop :=
  ((a = b ∨ mi ≠ mi') ∧ e = .returned (.int .i64 100) ∧ Below w.heap.size w w') ∨
  (a ≠ b ∧ mi = mi' ∧ 9007199254740992 - N < N' ∧ e = .returned (.int .i64 8) ∧ Below w.heap.size w w') ∨
  (a ≠ b ∧ mi = mi' ∧ N' ≤ 9007199254740992 - N ∧ e = .returned (.int .i64 0) ∧ IsW w' p ((M.set a (purseT h (N + N') mi)).set b (purseT h' 0 mi')) F ∧ Keeps F w w')

set_option maxHeartbeats 2000000 in
set_option maxRecDepth 8000 in
theorem Move_W (hW : IsW w p M F) {a h N mi b h' N' mi' : Int} (ha : M.at a = some (purseT h N mi)) (hb : M.at b = some (purseT h' N' mi')) (home : 0 ≤ h ∧ h < M.made.length) (home' : 0 ≤ h' ∧ h' < M.made.length)
    (hN : 0 ≤ N ∧ N ≤ 9007199254740992) (hN' : 0 ≤ N' ∧ N' ≤ 9007199254740992) :
    Calls Try.prog 40 #[.pointer (some ⟨p, 0, none⟩), .int .i64 a, .int .i64 b] w (MovePost w p M F a h N mi b h' N' mi') := by
  have hra := hW.ok.at_wf ha
  have hrb := hW.ok.at_wf hb
  have hf := find_lt hW (q := 9) hra ha plain0 (.inr rfl)
  rw [if_pos rfl] at hf
  have HF := (show Hid _ from hf)
  have HW := (show Hid (IsW w p M F) from hW)
  have Ha := (show Hid (M.at a = some (purseT h N mi)) from ha)
  have Hb := (show Hid (M.at b = some (purseT h' N' mi')) from hb)
  have Hhome := (show Hid (0 ≤ h ∧ h < M.made.length) from home)
  have Hhome' := (show Hid (0 ≤ h' ∧ h' < M.made.length) from home')
  have Hra := (show Hid _ from hra)
  have Hrb := (show Hid _ from hrb)
  obtain ⟨hN0, hN1⟩ := hN
  obtain ⟨hM0, hM1⟩ := hN'
  clear hf hW ha hb home home' hra hrb
  go_enter Try.func40, Try.ntmps40
  go_wp2_with fail
  refine Calls.mono HF.out ?_
  rintro e w1 ⟨rfl, hb1⟩
  obtain ⟨hst, hb2, hg2⟩ := boxed_what w1 #[.int .u8 9, .int .i64 h, .int .u8 0, .int .i64 0, .string ⟨#[]⟩, .slice none 0 0, .int .i64 0, .slice none 0 0, .int .i64 N, .int .i64 0, .int .i64 mi, .int .i64 0, .int .u8 0, .bool false, .slice none 0 0, .slice none 0 0] rfl (by simp [go_sem])
  have HB2 := (show Hid (Below w.heap.size w _) from hb1.trans (hb2.mono hb1.size))
  have HG2 := (show Hid _ from hg2)
  have hgw : w.heap.size ≤ w1.heap.size := hb1.size
  clear hb1 hb2 hg2
  go_upto_region 2 with fail
  clear hst
  revert HB2 HG2 hgw
  generalize (w1.alloc _).setRow _ _ = w2
  generalize w1.heap.size = g
  intro HB2 HG2 hgw
  have hf2 := find_lt (HW.out.below HB2.out) (q := 9) Hrb.out Hb.out plain0 (.inr rfl)
  rw [if_pos rfl] at hf2
  have HF2 := (show Hid _ from hf2)
  have Hgw := (show Hid (w.heap.size ≤ g) from hgw)
  clear hf2 HF hgw
  go_wp2_with fail
  refine Calls.mono HF2.out ?_
  rintro e w3 ⟨rfl, hb3⟩
  obtain ⟨hst, hb4, hg4⟩ := boxed_what w3 #[.int .u8 9, .int .i64 h', .int .u8 0, .int .i64 0, .string ⟨#[]⟩, .slice none 0 0, .int .i64 0, .slice none 0 0, .int .i64 N', .int .i64 0, .int .i64 mi', .int .i64 0, .int .u8 0, .bool false, .slice none 0 0, .slice none 0 0] rfl (by simp [go_sem])
  have HB4 := (show Hid (Below w.heap.size w _) from HB2.out.trans ((hb3.trans (hb4.mono hb3.size)).mono HB2.out.size))
  have HG4 := (show Hid _ from hg4)
  have hg3 := below_blk hb3 HG2.out
  have HGA := (show Hid _ from below_blk hb4 hg3)
  have Hgg : Hid (g < w3.heap.size) := blk_lt hg3
  clear hb3 hb4 hg4 hg3
  go_upto_region 3 with fail
  clear hst
  revert HB4 HG4 HGA Hgg
  generalize (w3.alloc _).setRow _ _ = w4
  generalize w3.heap.size = g'
  intro HB4 HG4 HGA Hgg
  have a8 : w4.cell? ⟨g, 8, none⟩ = some (.int .i64 N) := by rw [cell_blk HGA.out]; rfl
  have a10 : w4.cell? ⟨g, 10, none⟩ = some (.int .i64 mi) := by rw [cell_blk HGA.out]; rfl
  have b8 : w4.cell? ⟨g', 8, none⟩ = some (.int .i64 N') := by rw [cell_blk HG4.out]; rfl
  have b10 : w4.cell? ⟨g', 10, none⟩ = some (.int .i64 mi') := by rw [cell_blk HG4.out]; rfl
  by_cases hab : a = b
  · have e1 : (a == b) = true := by simpa using hab
    go_wp2_with fail
    go_ret
    exact .inl ⟨.inl hab, rfl, HB4.out⟩
  · have e1 : (a == b) = false := by simpa using hab
    by_cases hmm : mi = mi'
    · have e2 : (mi != mi') = false := by simpa using hmm
      by_cases h1 : 9007199254740992 - N < N'
      · have Hab := (show Hid (a ≠ b) from hab)
        have Hmm := (show Hid (mi = mi') from hmm)
        clear hab hmm
        go_wp2_with fail
        go_ret
        exact .inr (.inl ⟨Hab.out, Hmm.out, h1, rfl, HB4.out⟩)
      · have hn1 : N' ≤ 9007199254740992 - N := by omega
        have Hab := (show Hid (a ≠ b) from hab)
        have Hmm := (show Hid (mi = mi') from hmm)
        clear hab hmm
        have fa := frozen_blk HGA.out 8
        have fb := frozen_blk HG4.out 8
        have hA5 : (w4.setCell ⟨g, 8, none⟩ (.int .i64 (N + N'))).heap[g]? = some (.cells #[.int .u8 9, .int .i64 h, .int .u8 0, .int .i64 0, .string ⟨#[]⟩, .slice none 0 0, .int .i64 0, .slice none 0 0, .int .i64 (N + N'), .int .i64 0, .int .i64 mi, .int .i64 0, .int .u8 0, .bool false, .slice none 0 0, .slice none 0 0] 46 (0, 0)) := blk_setCell HGA.out 8 _
        have hB5 := blk_other HG4.out ⟨g, 8, none⟩ (.int .i64 (N + N')) (show g' ≠ g by have := Hgg.out; omega)
        have hA6 := blk_other hA5 ⟨g', 8, none⟩ (.int .i64 0) (show g ≠ g' by have := Hgg.out; omega)
        have hB6 : ((w4.setCell ⟨g, 8, none⟩ (.int .i64 (N + N'))).setCell ⟨g', 8, none⟩ (.int .i64 0)).heap[g']? = some (.cells #[.int .u8 9, .int .i64 h', .int .u8 0, .int .i64 0, .string ⟨#[]⟩, .slice none 0 0, .int .i64 0, .slice none 0 0, .int .i64 0, .int .i64 0, .int .i64 mi', .int .i64 0, .int .u8 0, .bool false, .slice none 0 0, .slice none 0 0] 46 (0, 0)) := blk_setCell hB5 8 _
        have hk6 : Keeps (fun x => x = g ∨ x = g') w4 ((w4.setCell ⟨g, 8, none⟩ (.int .i64 (N + N'))).setCell ⟨g', 8, none⟩ (.int .i64 0)) :=
          (Keeps.setCell (S := fun x => x = g ∨ x = g') w4 _ _ (.inl rfl)).trans (Keeps.setCell (S := fun x => x = g ∨ x = g') _ _ _ (.inr rfl)) (fun _ _ h => h) (fun _ _ h => h)
        have hgF : ∀ x, F x → ¬ (x = g ∨ x = g') := fun x hx e => by
          have h1 := HW.out.lt x hx
          have h2 := Hgw.out
          have h3 := Hgg.out
          omega
        have HgF := (show Hid _ from hgF)
        have hW6 := (HW.out.below HB4.out).keeps hk6 hgF
        have hb6 : Below w.heap.size w ((w4.setCell ⟨g, 8, none⟩ (.int .i64 (N + N'))).setCell ⟨g', 8, none⟩ (.int .i64 0)) := HB4.out.trans (hk6.below HB4.out.size (fun x hx => by have h2 := Hgw.out; have h3 := Hgg.out; omega))
        have b58 : (w4.setCell ⟨g, 8, none⟩ (.int .i64 (N + N'))).cell? ⟨g', 8, none⟩ = some (.int .i64 N') := by rw [cell_blk hB5]; rfl
        have HB6 := (show Hid (Below w.heap.size w _) from hb6)
        have HW6 := (show Hid (IsW _ p M F) from hW6)
        have HA6 := (show Hid _ from hA6)
        have HB6' := (show Hid _ from hB6)
        clear hA5 hB5 hA6 hB6 hk6 hgF hW6 hb6
        go_upto_region 12 with fail
        clear a8 a10 b8 b10 fa fb b58
        revert HB6 HW6 HA6 HB6'
        generalize (w4.setCell _ _).setCell _ _ = w6
        intro HB6 HW6 HA6 HB6'
        have hld := loadWhat_blk HA6.out rfl
        have hlay := Lay_lt HW6.out (r := a) (n' := N + N') (vk' := 0) (vn' := 0) (l' := 0) (fu' := false) Hra.out Ha.out plain0 (fun w hW => form_9 hW h (N + N') mi (sideB_iff.2 Hhome.out) (by omega))
        have HLAY := (show Hid _ from hlay)
        clear hlay
        go_wp2_with fail
        refine Calls.mono HLAY.out ?_
        rintro e w7 ⟨rfl, hW7, hk7⟩
        have hg7 : w7.heap[g']? = some (.cells #[.int .u8 9, .int .i64 h', .int .u8 0, .int .i64 0, .string ⟨#[]⟩, .slice none 0 0, .int .i64 0, .slice none 0 0, .int .i64 0, .int .i64 0, .int .i64 mi', .int .i64 0, .int .u8 0, .bool false, .slice none 0 0, .slice none 0 0] 46 (0, 0)) := (hk7.block g' (blk_lt HB6'.out) (fun e => HgF.out g' e (.inr rfl))).trans HB6'.out
        have hld7 := loadWhat_blk hg7 rfl
        have HW7 := (show Hid (IsW w7 p (M.set a (purseT h (N + N') mi)) F) from hW7)
        have HK7 := (show Hid (Keeps F w w7) from Below.keeps HB6.out hk7)
        have hlay2 := Lay_lt HW7.out (r := b) (n' := 0) (vk' := 0) (vn' := 0) (l' := 0) (fu' := false) Hrb.out ((WM.set_at_ne M _ (fun e => Hab.out e.symm)).trans Hb.out) plain0 (fun w hW => form_9 hW h' 0 mi' (sideB_iff.2 Hhome'.out) (by omega))
        have HLAY2 := (show Hid _ from hlay2)
        clear hlay2 hW7 hk7 hg7 hld HLAY
        go_wp2_with fail
        refine Calls.mono HLAY2.out ?_
        rintro e w8 ⟨rfl, hW8, hk8⟩
        have HF8 : Hid (IsW w8 p ((M.set a (purseT h (N + N') mi)).set b (purseT h' 0 mi')) F ∧ Keeps F w w8) := ⟨hW8, HK7.out.trans hk8 (fun _ _ h => h) (fun _ _ h => h)⟩
        clear hW8 hk8 hld7
        go_wp2_with fail
        go_ret
        exact .inr (.inr ⟨Hab.out, Hmm.out, hn1, rfl, HF8.out⟩)
    · have e2 : (mi != mi') = true := by simpa using hmm
      have Hmm := (show Hid (mi ≠ mi') from hmm)
      clear hab hmm
      go_wp2_with fail
      go_ret
      exact .inl ⟨.inr Hmm.out, rfl, HB4.out⟩
end Go.Proofs.Ytmefjkggibbhoaa
