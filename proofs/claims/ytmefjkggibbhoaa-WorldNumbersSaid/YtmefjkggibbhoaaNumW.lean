/- WorldNumbers: the walk. -/
import Derived.Test.YtmefjkggibbhoaaNumA
import Derived.Test.YtmefjkggibbhoaaSides
import Derived.Test.YtmefjkggibbhoaaPivot
import Derived.Deep.DeepCutAuto
import Derived.Deep.CutBlock
namespace Go.Proofs.Ytmefjkggibbhoaa
open Go.RowKit Go.ChangeMaps Go.MapKept

set_option maxHeartbeats 4000000 in
set_option maxRecDepth 100000 in
theorem numbers_walk (w : World) (pa qa ra : Option Addr) (c c' c'' m m' : Nat) (xs ks : List Int) (ds : List Bool) (hx : SideArg w pa xs) (hy : IntArg .u8 w qa ks) (hd : BoolArg w ra ds)
    (hkw : Hid (∀ x ∈ ks, (Lit.int .u8 x).wf = true)) (hm : Hid (m = ks.length)) (hm' : Hid (m' = ds.length)) :
    Calls Try.prog 3 #[.slice pa xs.length c, .slice qa m c', .slice ra m' c''] w fun e w' => e = .returned (.bool true) ∧ Below w.heap.size w w' := by
  have Hy : Hid (IntArg .u8 w qa ks) := hy
  have Hd : Hid (BoolArg w ra ds) := hd
  obtain ⟨n, hn⟩ : ∃ n, n = xs.length := ⟨_, rfl⟩
  have Hn : Hid (n = xs.length) := hn
  have hN := New_W w pa c xs hx
  rw [← hn] at hN ⊢
  have HN := (show Hid _ from hN)
  clear hx hy hd hn hN
  go_enter Try.func3, Try.ntmps3
  go_wp2_with fail
  refine Calls.mono HN.out ?_
  rintro e w1 hpost
  by_cases ht : TreeOk xs
  · obtain ⟨p, F, rfl, hW, hF, hb⟩ := (Or.resolve_right hpost (fun h => h.1 ht)).2
    clear hpost
    have HO : Hid (Own w w1 p (WM.new xs)) := ⟨F, hW, hF, hb⟩
    have HNu : Hid (NumW (WM.new xs) n 0) := by have := NumW.new xs; rw [← Hn.out] at this; exact this
    have hn16 : n < 16 := by have := Hn.out; have := ht.1; omega
    clear hW hF hb ht
    go_wp2_with fail
    go_loopw [9, 10] (fun vl vi wr => ∃ (k : Nat) (M : WM), vl = .int .i64 k ∧ vi = .int .i64 k ∧ k ≤ m ∧ k ≤ 300 ∧ Hid (NumW M n k) ∧ Hid (Own w wr p M)) (fun _ vi _ => 300 - (intOf vi).toNat)
    case atStart => exact ⟨0, _, rfl, rfl, Nat.zero_le _, by omega, HNu, HO⟩
    case round =>
      clear HO HNu
      obtain ⟨k, M, rfl, rfl, hk1, hk2, HU, HO⟩ := hrel
      by_cases hk : k < m ∧ k < 300
      · obtain ⟨hkm, hk40⟩ := hk
        have hkz : (k : Int) < (m : Int) := by omega
        have hkz2 : (k : Int) < 300 := by omega
        obtain ⟨y, hyk⟩ : ∃ y, ks[k]? = some y := ⟨_, List.getElem?_eq_getElem (by have := hm.out; omega)⟩
        have hyw := hkw.out y (List.mem_of_getElem? hyk)
        have hy0 := wf_u8_inv hyw
        obtain ⟨hy1, hy2⟩ := hy0
        obtain ⟨bq, oq, rfl, HC⟩ : ∃ bq oq, qa = some ⟨bq, oq, none⟩ ∧ Hid (∀ w2, Below w.heap.size w w2 → w2.cell? ⟨bq, oq + k, none⟩ = some (.int .u8 y)) := by
          rcases Hy.out with rfl | ⟨bq, oq, h1, h2, h3⟩
          · simp at hyk
          · exact ⟨bq, oq, h1, fun w2 hb => (hb.cell (p := ⟨bq, oq + k, none⟩) h2).trans (h3 k y hyk)⟩
        obtain ⟨F, hW, hF, hB⟩ := HO.out
        have HB := (show Hid (Below w.heap.size w wr) from hB)
        have HF := (show Hid (∀ b, F b → w.heap.size ≤ b) from hF)
        have HW := (show Hid (IsW wr p M F) from hW)
        have hcy := HC.out _ hB
        clear hyk hyw hW hF hB
        obtain ⟨kd, hkd, hix⟩ := index_tab y wr
        have HK := (show Hid (Kd kd) from hkd)
        clear hkd
        have hS := (show Hid (Calls Try.prog 18 #[.pointer (some ⟨p, 0, none⟩)] wr.drew fun e w' => e = .returned (.int .i64 ((n : Int) + 1)) ∧ w' = wr.drew) from
          (Sides_W (w := wr.drew) (HW.out.below ⟨rfl, rfl, rfl, Nat.le_refl _, fun _ _ => rfl⟩)).mono (by
            rintro e w' ⟨rfl, rfl⟩
            rw [HU.out.made]
            exact ⟨by simp, rfl⟩))
        have hM := (show Hid (Calls Try.prog 17 #[.int .i64 (IntKind.i64.wrap y), .int .i64 ((n : Int) + 1)] wr.drew fun e w' => e = .returned (.int .i64 (modV (IntKind.i64.wrap y) ((n : Int) + 1))) ∧ w' = wr.drew) from mod_W _ _ _ (by omega) (by omega))
        have Hh := (show Hid (0 ≤ modV (IntKind.i64.wrap y) ((n : Int) + 1) ∧ modV (IntKind.i64.wrap y) ((n : Int) + 1) < (n : Int) + 1) from modV_bound _ (by omega))
        generalize modV (IntKind.i64.wrap y) ((n : Int) + 1) = hm2 at hM Hh
        obtain ⟨hmA, hmB⟩ := Hh.out
        go_upto_region 9 with fail
        refine wp_region_pivot 11 (by kernel_rfl) (by kernel_rfl) ?_
        simp only [List.take_succ_cons, List.take_zero, List.drop_succ_cons, List.drop_zero]
        repeat still_step
        refine wpStill_step (fun K hK => ?_)
        go_simp
        apply Exists.intro
        refine ⟨?_, hK _ ?_⟩
        · exact hS.out
        clear hK K
        repeat still_step
        refine wpStill_step (fun K hK => ?_)
        go_simp
        apply Exists.intro
        refine ⟨?_, hK _ ?_⟩
        · with_reducible exact hM.out
        clear hK K
        repeat still_step
        refine wpStill_nil ?_
        go_wp2_with fail
        have hwd : IsW wr.drew p M F := HW.out.below ⟨rfl, rfl, rfl, Nat.le_refl _, fun _ _ => rfl⟩
        have hmk := Make_K hwd (by have := HU.out.last; omega) HK.out (show 0 ≤ hm2 ∧ hm2 < M.made.length by have := HU.out.made; omega)
        refine hmk.mono ?_
        rintro e w5 (⟨-, rfl, F5, hW5, hG5⟩ | ⟨h, -, -⟩)
        rotate_left
        · exact absurd (by have := HU.out.room hm2.toNat; omega) h
        have hk15 : kd ≠ 15 := by rcases HK.out with rfl | rfl | rfl | rfl | rfl <;> decide
        rw [makeM, if_neg hk15] at hW5
        rw [HU.out.last]
        obtain ⟨N, hN⟩ : ∃ N, N = M.add (lt kd hm2 0 0 0 0 0 0 0 false) := ⟨_, rfl⟩
        rw [← hN] at hW5
        have HUN : Hid (NumW N n (k + 1)) := by rw [hN]; exact HU.out.add HW.out.ok HK.out
        have hat : N.at ((k : Int) + 1) = some (lt kd hm2 0 0 0 0 0 0 0 false) := by
          have := WM.add_at_new HW.out.ok (lt kd hm2 0 0 0 0 0 0 0 false)
          rw [← hN, HU.out.last] at this
          exact this
        have Hat := (show Hid _ from hat)
        have HO5 : Hid (Own w w5 p N) := Own.turn (w := wr.drew) HF.out (HB.out.trans ⟨rfl, rfl, rfl, Nat.le_refl _, fun _ _ => rfl⟩) hW5 hG5
        have hrw : (Lit.int .i64 ((k : Int) + 1)).wf = true := WalkArith.wf_i64 (by omega)
        have hK5 : N.kindOf ((k : Int) + 1) = kd := by simp [WM.kindOf, hat]
        have hI5 := Is_W hW5 hrw
        have hKi5 := Kind_W hW5 hrw
        rw [hK5] at hKi5
        rw [show (N.at ((k : Int) + 1)).isSome = true by rw [hat]; rfl] at hI5
        have HI5 := (show Hid _ from hI5)
        have HKi5 := (show Hid _ from hKi5)
        have hwk : wrap64 ((k : Int) + 1) = (k : Int) + 1 := by unfold wrap64; omega
        clear hS hM Hh hwd hmk hW5 hG5 hN hk15 hat hK5 hI5 hKi5 hix hcy
        go_wp2_with fail
        change wpStill _ _ _ _ _ _
        repeat still_step
        refine wpStill_nil ?_
        go_wp2_with fail
        refine Calls.mono HI5.out ?_
        rintro e _ ⟨rfl, rfl⟩
        go_wp2_with fail
        refine Calls.mono HKi5.out ?_
        rintro e _ ⟨rfl, rfl⟩
        have hne : (kd != kd) = false := by simp
        clear hrw
        go_upto_region 13 with fail
        go_cut [89] (fun v wx => ∃ B : Bool, v = .bool B ∧ w5 = wx)
        case first =>
          by_cases hkd : k < m'
          · have hkdz : (k : Int) < (m' : Int) := by omega
            obtain ⟨b, hbk⟩ : ∃ b, ds[k]? = some b := ⟨_, List.getElem?_eq_getElem (by have := hm'.out; omega)⟩
            obtain ⟨bd, od, rfl, hcd⟩ : ∃ bd od, ra = some ⟨bd, od, none⟩ ∧ w5.cell? ⟨bd, od + k, none⟩ = some (.bool b) := by
              rcases Hd.out with h | ⟨bd, od, h1, h2, h3⟩
              · rw [h] at hbk; simp at hbk
              · obtain ⟨F, -, -, hB⟩ := HO5.out
                exact ⟨bd, od, h1, (hB.cell (p := ⟨bd, od + k, none⟩) h2).trans (h3 k b hbk)⟩
            clear hbk
            go_wp2_with fail
            go_meet
            exact ⟨b, rfl, rfl⟩
          · have hkdz : ¬ (k : Int) < (m' : Int) := by omega
            go_wp2_with fail
            go_meet
            exact ⟨false, rfl, rfl⟩
        obtain ⟨B, rfl, rfl⟩ := hcut
        cases B
        · go_wp2_with fail
          go_roundw
          case rel => exact ⟨k + 1, N, by go_num, by go_num, by omega, by omega, HUN, HO5⟩
          case measure => simp [intOf]; omega
        · have HOa : Hid (Own w (w5.alloc (.cells #[.int .i64 ((k : Int) + 1)] 30)) p N) := HO5.out.below ((Below.refl _ _).alloc (Nat.le_refl _) _)
          obtain ⟨Fa, hWa, hFa, hBa⟩ := HOa.out
          have hD := Drop_one (c := 1) hWa (b := w5.heap.size) (r := (k : Int) + 1) (by rw [cell_blk (blk_new _ _)]; rfl) (by simp) (WalkArith.wf_i64 (by omega)) HUN.out.facet HUN.out.light
          have HD := (show Hid _ from hD)
          have HWa := (show Hid _ from hWa)
          have HFa := (show Hid _ from hFa)
          have HBa := (show Hid (Below w.heap.size w (w5.alloc (.cells #[.int .i64 ((k : Int) + 1)] 30))) from hBa)
          clear hWa hFa hBa hD HI5 HKi5
          go_wp2_with fail
          refine Calls.mono HD.out ?_
          rintro e w7 hpost
          obtain ⟨rfl, hW7, hk7⟩ := HUN.out.dropped HWa.out Hat.out hpost
          have HU7 : Hid (NumW (N.delL [(k : Int) + 1]) n (k + 1)) := HUN.out.delL _
          have hn7 : (N.delL [(k : Int) + 1]).at ((k : Int) + 1) = none := by rw [WM.delL_at, if_pos (by simp)]
          have Hn7 := (show Hid _ from hn7)
          have HO7 : Hid (Own w w7 p (N.delL [(k : Int) + 1])) := Own.turn HFa.out HBa.out hW7 ⟨hk7, fun _ h => .inl h⟩
          have hI7 := Is_W hW7 (r := (k : Int) + 1) (WalkArith.wf_i64 (by omega))
          rw [hn7] at hI7
          have HI7 := (show Hid _ from hI7)
          have HOb : Hid (Own w (w7.alloc (.cells #[.int .i64 ((k : Int) + 1)] 30)) p (N.delL [(k : Int) + 1])) := HO7.out.below ((Below.refl _ _).alloc (Nat.le_refl _) _)
          obtain ⟨Fb, hWb, hFb, hBb⟩ := HOb.out
          have hD2 := Drop_one (c := 1) hWb (b := w7.heap.size) (r := (k : Int) + 1) (by rw [cell_blk (blk_new _ _)]; rfl) (by simp) (WalkArith.wf_i64 (by omega)) HU7.out.facet HU7.out.light
          have HD2 := (show Hid _ from hD2)
          clear hpost hW7 hk7 hn7 hI7 hWb hFb hBb hD2 HD HWa HFa HBa HOa
          go_wp2_with fail
          refine Calls.mono HI7.out ?_
          rintro e _ ⟨rfl, rfl⟩
          go_wp2_with fail
          refine Calls.mono HD2.out ?_
          rintro e w8 hpost
          obtain ⟨rfl, hb8⟩ := dropped_none Hn7.out hpost
          have HO8 : Hid (Own w w8 p (N.delL [(k : Int) + 1])) := HOb.out.below hb8
          clear hpost hb8 HD2 HOb HI7
          go_wp2_with fail
          go_roundw
          case rel => exact ⟨k + 1, _, by go_num, by go_num, by omega, by omega, HU7, HO8⟩
          case measure => simp [intOf]; omega
      · by_cases hkm : k < m
        · have hkz : (k : Int) < (m : Int) := by omega
          have hkz2 : ¬ (k : Int) < 300 := by omega
          go_wp2_with fail
          refine (lives_W wr).mono ?_
          rintro e w9 ⟨rfl, hb9⟩
          have HB9 : Hid (Below w.heap.size w w9) := by
            obtain ⟨F, -, -, hB⟩ := HO.out
            exact hB.trans (hb9.mono hB.size)
          clear hb9
          go_wp2_with fail
          go_ret
          exact ⟨rfl, HB9.out⟩
        · have hkz : ¬ (k : Int) < (m : Int) := by omega
          go_wp2_with fail
          refine (lives_W wr).mono ?_
          rintro e w9 ⟨rfl, hb9⟩
          have HB9 : Hid (Below w.heap.size w w9) := by
            obtain ⟨F, -, -, hB⟩ := HO.out
            exact hB.trans (hb9.mono hB.size)
          clear hb9
          go_wp2_with fail
          go_ret
          exact ⟨rfl, HB9.out⟩
  · obtain ⟨rfl, hw'⟩ := (Or.resolve_left hpost (fun h => ht h.1)).2
    subst hw'
    clear hpost ht HN
    go_wp2_with fail
    refine (lives_W _).mono ?_
    rintro e w9 ⟨rfl, hb9⟩
    have HB9 : Hid (Below _ _ w9) := hb9
    clear hb9
    go_wp2_with fail
    go_ret
    exact ⟨rfl, HB9.out⟩
end Go.Proofs.Ytmefjkggibbhoaa
