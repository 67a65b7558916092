/- WorldMoney: the walk. -/
import Derived.Test.YtmefjkggibbhoaaMonA
import Derived.Test.YtmefjkggibbhoaaPivot
import Derived.Deep.DeepCutAuto
import Derived.Deep.CutBlock
namespace Go.Proofs.Ytmefjkggibbhoaa
open Go.RowKit Go.ChangeMaps Go.MapKept

set_option maxHeartbeats 4000000 in
set_option maxRecDepth 100000 in
theorem money_walk (w : World) (qa ra : Option Addr) (c' c'' m m' : Nat) (ks : List Int) (ds : List Bool) (hy : IntArg .u16 w qa ks) (hd : BoolArg w ra ds)
    (hkw : Hid (∀ x ∈ ks, 0 ≤ x ∧ x ≤ 65535)) (hm : Hid (m = ks.length)) (hm' : Hid (m' = ds.length)) :
    Calls Try.prog 4 #[.slice qa m c', .slice ra m' c''] w fun e w' => e = .returned (.bool true) ∧ Below w.heap.size w w' := by
  have Hy : Hid (IntArg .u16 w qa ks) := hy
  have Hd : Hid (BoolArg w ra ds) := hd
  have hN := New_W w none 0 [] (.inl rfl)
  have HN := (show Hid _ from hN)
  clear hy hd hN
  go_enter Try.func4, Try.ntmps4
  go_wp2_with fail
  refine Calls.mono HN.out ?_
  rintro e w1 hpost
  obtain ⟨p, F, rfl, hW, hF, hb⟩ := (Or.resolve_right hpost (fun h => h.1 ⟨by decide, fun i p h => by simp at h⟩)).2
  clear hpost
  have HO : Hid (Own w w1 p (WM.new [])) := ⟨F, hW, hF, hb⟩
  clear hW hF hb
  by_cases h200 : m ≤ 200
  · have h200z : ¬ ((200 : Int) < (m : Int)) := by omega
    go_wp2_with fail
    go_loop [7, 8] (fun vs vi => ∃ (k : Nat) (s : Int), vs = .int .i64 s ∧ vi = .int .i64 k ∧ k ≤ m ∧ 0 ≤ s ∧ s ≤ 13107000 ∧ Hid (s = sumTo ks k)) (fun _ vi => m - (intOf vi).toNat)
    case atStart => exact ⟨0, 0, rfl, rfl, Nat.zero_le _, by omega, by omega, rfl⟩
    case round =>
      obtain ⟨k, s, rfl, rfl, hk, hs1, hs2, HS⟩ := hrel
      by_cases hkm : k < m
      · have hkz : (k : Int) < (m : Int) := by omega
        obtain ⟨y, hyk⟩ : ∃ y, ks[k]? = some y := ⟨_, List.getElem?_eq_getElem (by have := hm.out; omega)⟩
        obtain ⟨hy1, hy2⟩ := hkw.out y (List.mem_of_getElem? hyk)
        have hss := sumTo_succ hyk
        have hsl := (sumTo_le (B := 65535) (by omega) hkw.out (k + 1)).2
        have HS2 : Hid (s + y = sumTo ks (k + 1)) := by show _ = _; rw [hss, ← HS.out]
        have hs3 : s + y ≤ 13107000 := by rw [HS2.out]; omega
        obtain ⟨bq, oq, rfl, hcy⟩ : ∃ bq oq, qa = some ⟨bq, oq, none⟩ ∧ w1.cell? ⟨bq, oq + k, none⟩ = some (.int .u16 y) := by
          rcases Hy.out with rfl | ⟨bq, oq, h1, h2, h3⟩
          · simp at hyk
          · obtain ⟨F, -, -, hB⟩ := HO.out
            exact ⟨bq, oq, h1, (hB.cell (p := ⟨bq, oq + k, none⟩) h2).trans (h3 k y hyk)⟩
        clear hyk hss hsl
        go_wp2_with fail
        go_round
        case rel => exact ⟨k + 1, s + y, by go_num, by go_num, by omega, by omega, hs3, HS2⟩
        case measure => simp [intOf]; omega
      · have hkz : ¬ (k : Int) < (m : Int) := by omega
        have HS2 : Hid (s = ks.sum) := by
          show _ = _
          have := HS.out
          rw [this, show k = ks.length by have := hm.out; omega, sumTo_all]
        clear hk HS
        obtain ⟨Fm, hWm, hFm, hBm⟩ := HO.out
        have hmk := Make_8 hWm (h := 0) (n := s) (l := 0) (by show (0 : Int) + 1 ≤ _; decide) ⟨by omega, by decide⟩ ⟨hs1, by omega⟩ ⟨by omega, hs1⟩
        have HMK := (show Hid _ from hmk)
        have HFm := (show Hid _ from hFm)
        have HBm := (show Hid (Below w.heap.size w w1) from hBm)
        clear hWm hFm hBm hmk
        go_wp2_with fail
        refine Calls.mono HMK.out ?_
        rintro e w2 (⟨-, rfl, F2, hW2, hG2⟩ | ⟨h, -, -⟩)
        rotate_left
        · exact absurd (by decide) h
        have HO2 : Hid (Own w w2 p ((WM.new []).add (lt 8 0 0 0 s 0 0 0 0 false))) := Own.turn HFm.out HBm.out hW2 hG2
        have HU := (show Hid _ from MonW.start s)
        have hr1 : (WM.new []).last + 1 = 1 := rfl
        rw [hr1]
        clear hW2 hG2 HO hr1 HMK HFm HBm
        generalize (WM.new []).add (lt 8 0 0 0 s 0 0 0 0 false) = M0 at HO2 HU
        go_wp2_with fail
        go_loopw [11, 12] (fun vl vi wr => ∃ (k : Nat) (lo : Int) (M : WM), vl = .int .i64 lo ∧ vi = .int .i64 k ∧ k ≤ m ∧ 0 ≤ lo ∧ lo ≤ 13107000 ∧ Hid (lo ≤ sumTo ks k) ∧ Hid (MonW M s lo k) ∧ Hid (Own w wr p M)) (fun _ vi _ => m - (intOf vi).toNat)
        case atStart => exact ⟨0, 0, _, rfl, rfl, Nat.zero_le _, by omega, by omega, by show (0 : Int) ≤ sumTo ks 0; simp [sumTo], HU, HO2⟩
        case round =>
          clear HU HO2
          obtain ⟨k, lo, M, rfl, rfl, hk, hl1, hl2, HL, HU, HO⟩ := hrel
          obtain ⟨F, hW, hF, hB⟩ := HO.out
          have HW := (show Hid (IsW wr p M F) from hW)
          have HF := (show Hid (∀ b, F b → w.heap.size ≤ b) from hF)
          have HB := (show Hid (Below w.heap.size w wr) from hB)
          clear hW hF hB
          by_cases hkm : k < m
          · have hkz : (k : Int) < (m : Int) := by omega
            obtain ⟨y, hyk⟩ : ∃ y, ks[k]? = some y := ⟨_, List.getElem?_eq_getElem (by have := hm.out; omega)⟩
            obtain ⟨hy1, hy2⟩ := hkw.out y (List.mem_of_getElem? hyk)
            have HL2 : Hid (lo + y ≤ sumTo ks (k + 1) ∧ lo + y ≤ s ∧ lo ≤ sumTo ks (k + 1)) := by
              have h1 := sumTo_succ hyk
              have h2 := sumTo_mono (fun x hx => (hkw.out x hx).1) (k + 1)
              have h3 := HL.out
              have h4 := HS2.out
              exact ⟨by omega, by omega, by omega⟩
            have hl3 : lo + y ≤ 13107000 := by have := HL2.out.2.1; omega
            obtain ⟨bq, oq, rfl, hcy⟩ : ∃ bq oq, qa = some ⟨bq, oq, none⟩ ∧ wr.cell? ⟨bq, oq + k, none⟩ = some (.int .u16 y) := by
              rcases Hy.out with rfl | ⟨bq, oq, h1, h2, h3⟩
              · simp at hyk
              · exact ⟨bq, oq, h1, (HB.out.cell (p := ⟨bq, oq + k, none⟩) h2).trans (h3 k y hyk)⟩
            have HCy : Hid (∀ w2, Below wr.heap.size wr w2 → w2.cell? ⟨bq, oq + k, none⟩ = some (.int .u16 y)) := fun w2 hb => (hb.cell (p := ⟨bq, oq + k, none⟩) (World.block_lt_of_cell? _ _ hcy)).trans hcy
            have hmk := Make_9 HW.out (h := 0) (n := y) (tg := 1) (u := lt 8 0 0 0 s lo 0 0 0 false) (by have := HU.out.last; omega) ⟨by omega, by have := HU.out.made; omega⟩ ⟨hy1, by omega⟩ rfl HU.out.mint rfl rfl
            have HMK := (show Hid _ from hmk)
            clear hyk hmk
            go_wp2_with fail
            refine Calls.mono HMK.out ?_
            rintro e w5 (⟨-, rfl, F5, hW5, hG5⟩ | ⟨h, -, -⟩)
            rotate_left
            · exact absurd (show M.made.getD (0 : Int).toNat 0 < 512 by have := HU.out.room; show M.made.getD 0 0 < 512; omega) h
            rw [makeM, if_neg (by simp)] at hW5
            have hlast : M.last + 1 = (k : Int) + 2 := by have := HU.out.last; omega
            rw [hlast]
            have hat : (M.add (lt 9 0 0 0 y 0 1 0 0 false)).at ((k : Int) + 2) = some (lt 9 0 0 0 y 0 1 0 0 false) := by
              rw [← hlast]
              exact WM.add_at_new HW.out.ok _
            have HUN := (show Hid _ from HU.out.add HW.out.ok y)
            have HO5 : Hid (Own w w5 p (M.add (lt 9 0 0 0 y 0 1 0 0 false))) := Own.turn HF.out HB.out hW5 hG5
            obtain ⟨N, hN⟩ : ∃ N, N = M.add (lt 9 0 0 0 y 0 1 0 0 false) := ⟨_, rfl⟩
            rw [← hN] at HUN HO5 hat
            have Hat := (show Hid (N.at ((k : Int) + 2) = some (lt 9 0 0 0 y 0 1 0 0 false)) from hat)
            have hbw : bq < w.heap.size := by
              rcases Hy.out with h | ⟨b', o', h1, h2, h3⟩
              · have := hm.out; rw [h] at this; simp at this; omega
              · cases h1; exact h2
            have hcy5 : w5.cell? ⟨bq, oq + k, none⟩ = some (.int .u16 y) := by
              obtain ⟨F, -, -, hB5⟩ := HO5.out
              exact (hB5.cell (p := ⟨bq, oq + k, none⟩) hbw).trans ((HB.out.cell (p := ⟨bq, oq + k, none⟩) hbw).symm.trans hcy)
            clear hN hW5 hG5 hlast hat HMK HCy hcy hbw
            go_upto_region 19 with fail
            go_cut [88] (fun v wx => ∃ B : Bool, v = .bool B ∧ w5 = wx)
            case first =>
              by_cases hkd : k < m'
              · have hkdz : (k : Int) < (m' : Int) := by omega
                obtain ⟨b, hbk⟩ : ∃ b, ds[k]? = some b := ⟨_, List.getElem?_eq_getElem (by have := hm'.out; omega)⟩
                obtain ⟨bd, od, rfl, hcd⟩ : ∃ bd od, ra = some ⟨bd, od, none⟩ ∧ w5.cell? ⟨bd, od + k, none⟩ = some (.bool b) := by
                  rcases Hd.out with h | ⟨bd, od, h1, h2, h3⟩
                  · rw [h] at hbk; simp at hbk
                  · obtain ⟨F, -, -, hB⟩ := HO5.out
                    exact ⟨bd, od, h1, (hB.cell (p := ⟨bd, od + k, none⟩) h2).trans (h3 k b hbk)⟩
                clear hbk
                go_wp2_with fail
                go_meet
                exact ⟨b, rfl, rfl⟩
              · have hkdz : ¬ (k : Int) < (m' : Int) := by omega
                go_wp2_with fail
                go_meet
                exact ⟨false, rfl, rfl⟩
            obtain ⟨B, rfl, rfl⟩ := hcut
            cases B
            · go_wp2_with fail
              go_roundw
              case rel => exact ⟨k + 1, lo, N, rfl, by go_num, by omega, hl1, hl2, HL2.out.2.2, HUN, HO5⟩
              case measure => simp [intOf]; omega
            · have HOa : Hid (Own w (w5.alloc (.cells #[.int .i64 ((k : Int) + 2)] 30)) p N) := HO5.out.below ((Below.refl _ _).alloc (Nat.le_refl _) _)
              obtain ⟨Fa, hWa, hFa, hBa⟩ := HOa.out
              have hD := Drop_one (c := 1) hWa (b := w5.heap.size) (r := (k : Int) + 2) (by rw [cell_blk (blk_new _ _)]; rfl) (by simp) (WalkArith.wf_i64 (by omega)) HUN.out.facet HUN.out.light
              have HD := (show Hid _ from hD)
              have HWa := (show Hid _ from hWa)
              have HFa := (show Hid _ from hFa)
              have HBa := (show Hid (Below w.heap.size w (w5.alloc (.cells #[.int .i64 ((k : Int) + 2)] 30))) from hBa)
              have hne1 : Hid ((k : Int) + 2 ≠ 1) := by show _ ≠ _; omega
              clear hWa hFa hBa hD
              go_wp2_with fail
              refine Calls.mono HD.out ?_
              rintro e w7 hpost
              obtain ⟨rfl, hW7, hk7⟩ := HUN.out.dropped HWa.out hne1.out Hat.out hpost
              have HU7 := (show Hid _ from HUN.out.gone hne1.out Hat.out hl1 hy1 HL2.out.2.1 (by have := hs2; omega))
              have HO7 : Hid (Own w w7 p ((WM.gone1 [(k : Int) + 2] N ((k : Int) + 2)).delL [(k : Int) + 2])) := Own.turn HFa.out HBa.out hW7 ⟨hk7, fun _ h => .inl h⟩
              clear hpost hW7 hk7 HD HWa HFa HBa HOa
              go_wp2_with fail
              go_roundw
              case rel => exact ⟨k + 1, lo + y, _, rfl, by go_num, by omega, by omega, hl3, HL2.out.1, HU7, HO7⟩
              case measure => simp [intOf]; omega
          · have hkz : ¬ (k : Int) < (m : Int) := by omega
            have hwh := What_lt HW.out (r := 1) rfl HU.out.mint plain0
            have HWH := (show Hid _ from hwh)
            clear hwh
            go_wp2_with fail
            refine Calls.mono HWH.out ?_
            rintro e w6 ⟨rfl, hb6⟩
            have HO6 : Hid (Own w w6 p M) := HO.out.below hb6
            have hst := storeWhat_blk (c' := #[.int .u8 8, .int .i64 0, .int .u8 0, .int .i64 0, .string ⟨#[]⟩, .slice none 0 0, .int .i64 0, .slice none 0 0, .int .i64 s, .int .i64 lo, .int .i64 0, .int .i64 0, .int .u8 0, .bool false, .slice none 0 0, .slice none 0 0]) (blk_new w6 (.cells #[.int .u8 0, .int .i64 0, .int .u8 0, .int .i64 0, .string ⟨#[]⟩, .slice none 0 0, .int .i64 0, .slice none 0 0, .int .i64 0, .int .i64 0, .int .i64 0, .int .i64 0, .int .u8 0, .bool false, .slice none 0 0, .slice none 0 0] 46)) rfl rfl (by simp [go_sem])
            clear HWH hb6 HW HF HB HO
            have B7 := heap_setRow_at (c' := #[.int .u8 8, .int .i64 0, .int .u8 0, .int .i64 0, .string ⟨#[]⟩, .slice none 0 0, .int .i64 0, .slice none 0 0, .int .i64 s, .int .i64 lo, .int .i64 0, .int .i64 0, .int .u8 0, .bool false, .slice none 0 0, .slice none 0 0]) (blk_new w6 (.cells #[.int .u8 0, .int .i64 0, .int .u8 0, .int .i64 0, .string ⟨#[]⟩, .slice none 0 0, .int .i64 0, .slice none 0 0, .int .i64 0, .int .i64 0, .int .i64 0, .int .i64 0, .int .u8 0, .bool false, .slice none 0 0, .slice none 0 0] 46))
            have H7 := (show Hid _ from Below.setRow (B := w6.heap.size) ((Below.refl _ w6).alloc (Nat.le_refl _) (.cells #[.int .u8 0, .int .i64 0, .int .u8 0, .int .i64 0, .string ⟨#[]⟩, .slice none 0 0, .int .i64 0, .slice none 0 0, .int .i64 0, .int .i64 0, .int .i64 0, .int .i64 0, .int .u8 0, .bool false, .slice none 0 0, .slice none 0 0] 46)) (Nat.le_refl _) #[.int .u8 8, .int .i64 0, .int .u8 0, .int .i64 0, .string ⟨#[]⟩, .slice none 0 0, .int .i64 0, .slice none 0 0, .int .i64 s, .int .i64 lo, .int .i64 0, .int .i64 0, .int .u8 0, .bool false, .slice none 0 0, .slice none 0 0])
            have H8 := (show Hid _ from B7)
            clear B7
            go_upto_region 24 with fail
            clear hst
            have HO7 := (show Hid _ from HO6.out.below H7.out)
            clear HO6 H7
            revert HO7 H8
            generalize (w6.alloc _).setRow _ _ = w7
            generalize w6.heap.size = g7
            intro H8 HO7
            have HO7 : Hid (Own w w7 p M) := HO7
            have hg7 := blk_lt H8.out
            have c8 : w7.cell? ⟨g7, 8, none⟩ = some (.int .i64 s) := by rw [cell_blk H8.out]; rfl
            have c9 : w7.cell? ⟨g7, 9, none⟩ = some (.int .i64 lo) := by rw [cell_blk H8.out]; rfl
            clear H8
            have HOa : Hid (Own w (w7.alloc (.cells #[.int .i64 1] 30)) p M) := HO7.out.below ((Below.refl _ _).alloc (Nat.le_refl _) _)
            obtain ⟨Fa, hWa, hFa, hBa⟩ := HOa.out
            have hD := Drop_one (c := 1) hWa (b := w7.heap.size) (r := 1) (by rw [cell_blk (blk_new _ _)]; rfl) (by simp) rfl HU.out.facet HU.out.light
            have HD := (show Hid _ from hD)
            have HWa := (show Hid _ from hWa)
            have HFa := (show Hid _ from hFa)
            have HBa := (show Hid (Below w.heap.size w (w7.alloc (.cells #[.int .i64 1] 30))) from hBa)
            clear hWa hFa hBa hD
            go_wp2_with fail
            refine Calls.mono HD.out ?_
            rintro e w8 hpost
            obtain ⟨cc, M8, rfl, hcc, hW8, hk8⟩ := HU.out.last_drop HWa.out hpost
            have HO8 : Hid (Own w w8 p M8) := Own.turn HFa.out HBa.out hW8 ⟨hk8, fun _ h => .inl h⟩
            have hL8 := Len_W hW8
            have HL8 := (show Hid _ from hL8)
            clear hpost hk8 hW8 hL8 HD HWa HFa HBa HOa HO7
            go_wp2_with fail
            refine Calls.mono HL8.out ?_
            rintro e _ ⟨rfl, rfl⟩
            go_wp2_with fail
            refine (lives_W w8).mono ?_
            rintro e w9 ⟨rfl, hb9⟩
            have HB9 : Hid (Below w.heap.size w w9) := by
              obtain ⟨F, -, -, hB⟩ := HO8.out
              exact hB.trans (hb9.mono hB.size)
            clear hb9
            go_wp2_with fail
            go_ret
            exact ⟨rfl, HB9.out⟩
  · have h200z : (200 : Int) < (m : Int) := by omega
    go_wp2_with fail
    refine (lives_W _).mono ?_
    rintro e w9 ⟨rfl, hb9⟩
    have HB9 : Hid (Below w.heap.size w w9) := by
      obtain ⟨F, -, -, hB⟩ := HO.out
      exact hB.trans (hb9.mono hB.size)
    clear hb9
    go_wp2_with fail
    go_ret
    exact ⟨rfl, HB9.out⟩
end Go.Proofs.Ytmefjkggibbhoaa
