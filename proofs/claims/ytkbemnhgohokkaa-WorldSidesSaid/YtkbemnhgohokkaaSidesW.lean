/- WorldSides: the walk. -/
import Derived.Test.YtkbemnhgohokkaaSides
import Derived.Test.YtkbemnhgohokkaaOpen
import Derived.Deep.QuietTactic
import Derived.BigQuiet
import Derived.Deep.DeepCutAuto
import Derived.Deep.CutBlock
namespace Go.Proofs.Ytkbemnhgohokkaa
open Go.RowKit Go.ChangeMaps Go.MapKept

theorem WM.tops_le (M : WM) (m : Nat) : M.tops m ≤ m := by
  have := List.length_filter_le M.isTop (List.range m)
  simpa [WM.tops] using this
theorem meas_step40 {k : Nat} (h : k < 40) : 40 - (intOf (.int .i64 ((k : Int) + 1))).toNat < 40 - (intOf (.int .i64 (k : Int))).toNat := by
  simp [intOf]
  omega
theorem new_cutAt (xs : List Int) (k : Nat) : (WM.new xs).cutAt k = false := by
  simp only [WM.cutAt, WM.new, List.getD_eq_getElem?_getD, List.getElem?_replicate]
  split <;> rfl

/-- A cut, whatever edge is asked for: what the world is then. -/
structure CutTo (M : WM) (y : Int) (E h : Bool) (f : Int) (M' : WM) : Prop where
  e : edgeB M y = E
  had : (edgeB M y && M.cutAt y.toNat) = h
  f : f = if E then 0 else 2
  made : M'.made = M.made
  now : (edgeB M' y && M'.cutAt y.toNat) = E
  tops : M'.tops M.made.length = M.tops M.made.length + if E = true ∧ h = false then 1 else 0
  less : ∀ a b, M'.openB a b = true → M.openB a b = true

theorem cut_any {w : World} {p : Nat} {M : WM} {F : Nat → Prop} (hW : IsW w p M F) (y : Int) : ∃ E h f M', CutTo M y E h f M' ∧
    ∀ w F, IsW w p M F → Calls Try.prog 18 #[.pointer (some ⟨p, 0, none⟩), .int .i64 y] w fun e w' => e = .returned (.int .i64 f) ∧ IsW w' p M' F ∧ Keeps F w w' := by
  cases he : edgeB M y with
  | false =>
    exact ⟨false, false, 2, M, ⟨he, by rw [he]; rfl, rfl, rfl, by rw [he]; rfl, by simp, fun _ _ h => h⟩, fun w F hW => (CutEdge_bad hW y he).mono (by rintro e w' ⟨rfl, rfl⟩; exact ⟨rfl, hW, Keeps.refl _ _⟩)⟩
  | true =>
    have he' : 0 < y ∧ y < M.made.length := by simpa [edgeB] using he
    obtain ⟨k, rfl⟩ := Int.eq_ofNat_of_zero_le (Int.le_of_lt he'.1)
    have ok := hW.ok
    have ok' := WM.cutE_ok ok k
    have h1 := ok.cuts
    have h2 := ok.made
    have hk : k < M.cuts.length := by omega
    refine ⟨true, M.cutAt k, 0, M.cutE k, ⟨he, by rw [he]; simp, rfl, rfl, ?_, ?_, fun a b => ok.open_cut hk ok' a b⟩, fun w F hW => (CutEdge_W hW k (by omega) (by omega)).mono (by rintro e w' ⟨rfl, h1, h2, -⟩; exact ⟨rfl, h1, h2⟩)⟩
    · have : edgeB (M.cutE k) k = true := he
      rw [this, WM.cutE_at _ _ hk]
      simp
    · rw [WM.tops_cut hk (by omega)]
      have : k < M.made.length := by omega
      simp [this]

/-- An edge is open between its ends just where it is not cut. -/
theorem open_parent {M : WM} (h : M.ok) {k : Nat} (h0 : 0 < k) (hk : k < M.made.length) : M.openB k (M.par (k - 1)) = !M.cutAt k := by
  have hp := h.par_lt h0 hk
  rw [h.openB_root, sideB_iff.2 ⟨by omega, by omega⟩, sideB_iff.2 ⟨hp.1, by omega⟩, Bool.true_and, Bool.true_and, Int.toNat_natCast]
  cases hc : M.cutAt k with
  | true =>
    rw [WM.ok.root_stop (.inr hc)]
    have := h.root_le (M.par (k - 1)).toNat (by omega)
    simp only [Bool.not_true, decide_eq_false_iff_not]
    omega
  | false =>
    rw [h.root_up h0 hk hc]
    simp

/-- What is open among three sides. -/
def Three (o1 o2 o3 : Bool) : Prop := (o1 = true ∧ o2 = true ∧ o3 = true) ∨ (o1 = true ∧ o2 = false ∧ o3 = false) ∨ o1 = false
theorem three {M : WM} (h : M.ok) {a b c : Int} (ha : sideB M a = true) (hb : sideB M b = true) (hc : sideB M c = true) : Three (M.openB a b) (M.openB b c) (M.openB a c) := by
  rw [h.openB_root, h.openB_root, h.openB_root, ha, hb, hc]
  simp only [Bool.true_and, Three, decide_eq_true_eq, decide_eq_false_iff_not]
  omega

/-- Is no side ahead of i one with k? -/
def FirstTo (M : WM) (k i : Nat) (f : Bool) : Prop := f = decide (∀ j, j < i → M.root j ≠ M.root k)
theorem FirstTo.start (M : WM) (k : Nat) : FirstTo M k 0 true := by
  unfold FirstTo
  symm
  exact decide_eq_true (fun j h => absurd h (Nat.not_lt_zero _))
theorem FirstTo.lost {M : WM} {k i : Nat} (h : FirstTo M k i false) : FirstTo M k (i + 1) false := by
  unfold FirstTo at *
  have := of_decide_eq_false h.symm
  symm
  exact decide_eq_false (fun g => this (fun j hj => g j (by omega)))
theorem FirstTo.meet {M : WM} (hok : M.ok) {k i : Nat} (h : FirstTo M k i true) (hi : i < M.made.length) (hk : k < M.made.length) : FirstTo M k (i + 1) (!M.openB i k) := by
  unfold FirstTo at *
  have h1 := of_decide_eq_true h.symm
  rw [hok.openB_root, sideB_iff.2 ⟨by omega, by omega⟩, sideB_iff.2 ⟨by omega, by omega⟩]
  simp only [Bool.true_and, Int.toNat_natCast]
  by_cases e : M.root i = M.root k
  · rw [decide_eq_true e]
    symm
    exact decide_eq_false (fun g => g i (by omega) e)
  · rw [decide_eq_false e]
    symm
    refine decide_eq_true (fun j hj => ?_)
    rcases Nat.lt_succ_iff_lt_or_eq.1 hj with h2 | h2
    · exact h1 j h2
    · rw [h2]; exact e
theorem FirstTo.top {M : WM} (hok : M.ok) {k : Nat} {f : Bool} (h : FirstTo M k k f) (hk : k < M.made.length) : f = M.isTop k := by
  unfold FirstTo at h
  have e : decide (∀ j, j < k → M.root j ≠ M.root k) = decide (k = 0 ∨ M.cutAt k = true) := decide_eq_decide.2 ((hok.first_iff hk).trans (hok.root_self hk))
  rw [h, e, WM.isTop, Bool.eq_iff_iff]
  simp
theorem meas_up {k n : Nat} (h : k < n) : n - (intOf (.int .i64 ((k : Int) + 1))).toNat < n - (intOf (.int .i64 (k : Int))).toNat := by
  simp [intOf]
  omega

set_option maxHeartbeats 4000000 in
set_option maxRecDepth 100000 in
theorem sides_walk (w : World) (pa qa : Option Addr) (c c' m : Nat) (xs ys : List Int) (hx : SideArg w pa xs) (hy : IntArg .i64 w qa ys) (s0 s1 s2 : Int) (hm : Hid (m = ys.length)) :
    Calls Try.prog 4 #[.slice pa xs.length c, .slice qa m c', .agg #[.int .i64 s0, .int .i64 s1, .int .i64 s2]] w fun e w' => e = .returned (.bool true) ∧ Below w.heap.size w w' := by
  have hx1 : SideArg (w.alloc (.cells #[.int .i64 s0, .int .i64 s1, .int .i64 s2] 26)) pa xs := by
    rcases hx with h | ⟨b, o, h1, h2⟩
    · exact .inl h
    · exact .inr ⟨b, o, h1, fun j x hj => cell_al (h2 j x hj) _⟩
  have Hx : Hid (SideArg w pa xs) := hx
  have Hy : Hid (IntArg .i64 w qa ys) := hy
  have Hx1 := (show Hid _ from hx1)
  obtain ⟨n, hn⟩ : ∃ n, n = xs.length := ⟨_, rfl⟩
  have Hn : Hid (n = xs.length) := hn
  have hN := New_W _ pa c xs hx1
  rw [← hn] at hN ⊢
  have HN := (show Hid _ from hN)
  clear hx hy hx1 hn hN
  go_enter Try.func4, Try.ntmps4
  go_wp2_with fail
  refine Calls.mono HN.out ?_
  rintro e w1 hpost
  by_cases ht : TreeOk xs
  · obtain ⟨p, F, rfl, hW, hF, hb⟩ := (Or.resolve_right hpost (fun h => h.1 ht)).2
    clear hpost
    have HO : Hid (Own w w1 p (WM.new xs)) := ⟨F, hW, fun b h => by have := hF b h; simp at this; omega, ((Below.refl _ _).alloc (Nat.le_refl _) _).trans (hb.mono (by simp))⟩
    have B0 := below_blk hb (blk_new _ _)
    have a0 : w1.cell? ⟨w.heap.size, 0, none⟩ = some (.int .i64 s0) := by rw [cell_blk B0]; rfl
    have a1 : w1.cell? ⟨w.heap.size, 1, none⟩ = some (.int .i64 s1) := by rw [cell_blk B0]; rfl
    have a2 : w1.cell? ⟨w.heap.size, 2, none⟩ = some (.int .i64 s2) := by rw [cell_blk B0]; rfl
    clear hW hF hb B0
    go_wp2_with fail
    obtain ⟨F, hW, -, -⟩ := HO.out
    have hS := Sides_W hW
    have hlen : (((WM.new xs).made.length : Nat) : Int) = (n : Int) + 1 := by have := Hn.out; simp [WM.new]; omega
    have hn16 : n < 16 := by have := Hn.out; have := ht.1; omega
    have Htop : Hid ((WM.new xs).tops (n + 1) = 1 ∧ (WM.new xs).made.length = n + 1) := ⟨WM.ok.tops_one (fun k => new_cutAt xs k) _ (by omega), by have := Hn.out; simp [WM.new]; omega⟩
    rw [hlen] at hS
    have hwn : wrap64 ((n : Int) + 1) = (n : Int) + 1 := by unfold wrap64; omega
    clear hW hlen
    refine hS.mono ?_
    rintro e _ ⟨rfl, rfl⟩
    clear hS
    go_wp2_with fail
    have hN0 : (0 : Int) < (n : Int) + 1 := by omega
    have hN16 : (n : Int) + 1 ≤ 16 := by omega
    have Hm := (show Hid (∀ (s : Int) (w : World), Calls Try.prog 15 #[.int .i64 s, .int .i64 ((n : Int) + 1)] w fun e w' => e = .returned (.int .i64 (modV s ((n : Int) + 1))) ∧ w' = w) from fun s w => mod_W w s _ hN0 hN16)
    have Ba := (show Hid (0 ≤ modV s0 ((n : Int) + 1) ∧ modV s0 ((n : Int) + 1) < (n : Int) + 1) from modV_bound s0 hN0)
    have Bb := (show Hid (0 ≤ modV s1 ((n : Int) + 1) ∧ modV s1 ((n : Int) + 1) < (n : Int) + 1) from modV_bound s1 hN0)
    have Bc := (show Hid (0 ≤ modV s2 ((n : Int) + 1) ∧ modV s2 ((n : Int) + 1) < (n : Int) + 1) from modV_bound s2 hN0)
    clear hN0 hN16
    go_quiet ((go_at_call 15; exact Calls.quiet_of_same (Hm.out _ _)))
    have HO1 : Hid (Own w (w1.drewN nq) p (WM.new xs)) := HO.out.below ⟨rfl, rfl, rfl, Nat.le_refl _, fun _ _ => rfl⟩
    clear HO a0 a1 a2 Hm
    revert HO1
    generalize w1.drewN nq = w2
    revert Ba Bb Bc
    generalize modV s0 ((n : Int) + 1) = a
    generalize modV s1 ((n : Int) + 1) = b
    generalize modV s2 ((n : Int) + 1) = cc
    intro Ba Bb Bc HO1
    go_upto_block 0 with fail
    go_cut [13] (fun v13 wx => ∃ M : WM, v13 = .int .i64 (M.tops (n + 1)) ∧ Hid (M.made.length = n + 1) ∧ Hid (Own w wx p M))
    case first =>
      go_wp2_with fail
      go_loopw [13, 14] (fun vp vi wr => ∃ (k : Nat) (M : WM), vp = .int .i64 (M.tops (n + 1)) ∧ vi = .int .i64 k ∧ k ≤ m ∧ k ≤ 40 ∧ Hid (M.made.length = n + 1) ∧ Hid (Own w wr p M)) (fun _ vi _ => 40 - (intOf vi).toNat)
      case atStart => exact ⟨0, _, by rw [Htop.out.1]; rfl, rfl, Nat.zero_le _, by omega, Htop.out.2, HO1.out⟩
      case round =>
        clear HO1 Htop
        obtain ⟨k, M, rfl, rfl, hk1, hk2, HL, HO1⟩ := hrel
        by_cases hk : k < m ∧ k < 40
        · obtain ⟨hkm, hk40⟩ := hk
          have hkz : (k : Int) < (m : Int) := by omega
          have hkz2 : (k : Int) < 40 := by omega
          have hwk : wrap64 ((k : Int) + 1) = (k : Int) + 1 := by unfold wrap64; omega
          obtain ⟨y, hyk⟩ : ∃ y, ys[k]? = some y := ⟨_, List.getElem?_eq_getElem (by have := hm.out; omega)⟩
          obtain ⟨bq, oq, rfl, HC⟩ : ∃ bq oq, qa = some ⟨bq, oq, none⟩ ∧ Hid (∀ w2, Below w.heap.size w w2 → w2.cell? ⟨bq, oq + k, none⟩ = some (.int .i64 y)) := by
            rcases Hy.out with rfl | ⟨bq, oq, h1, h2, h3⟩
            · simp at hyk
            · exact ⟨bq, oq, h1, fun w2 hb => (hb.cell (p := ⟨bq, oq + k, none⟩) h2).trans (h3 k y hyk)⟩
          obtain ⟨F, hW, hF, hB⟩ := HO1.out
          have HB := (show Hid (Below w.heap.size w wr) from hB)
          have HF := (show Hid (∀ b, F b → w.heap.size ≤ b) from hF)
          have HW := (show Hid (IsW wr p M F) from hW)
          obtain ⟨E, h, f, M', hCt, hcut⟩ := cut_any hW y
          have HCT := (show Hid (CutTo M y E h f M') from hCt)
          have Hcut := (show Hid _ from hcut)
          have hcy := HC.out _ hB
          have hcn : bq < wr.heap.size := World.block_lt_of_cell? _ _ hcy
          clear hW hB hcut hyk hk1 hk2 hF
          have hE : edgeB M y = E := hCt.e
          have hcomb : (E = true ∧ h = true ∧ f = 0 ∧ 1 ≤ y ∧ y < (n : Int) + 1) ∨ (E = true ∧ h = false ∧ f = 0 ∧ 1 ≤ y ∧ y < (n : Int) + 1) ∨ (E = false ∧ h = false ∧ f = 2 ∧ 1 ≤ y ∧ decide (y < (n : Int) + 1) = false) ∨ (E = false ∧ h = false ∧ f = 2 ∧ decide (1 ≤ y) = false ∧ True) := by
            have h1 := hCt.f
            have h2 := hCt.had
            have h3 := HL.out
            cases E with
            | true =>
              have : 0 < y ∧ y < M.made.length := by simpa [edgeB] using hE
              cases h <;> simp at h1 ⊢ <;> omega
            | false =>
              have : ¬ (0 < y ∧ y < M.made.length) := by simpa [edgeB] using hE
              rw [hE] at h2
              simp at h1 h2
              subst h2
              by_cases h5 : 1 ≤ y
              · exact .inr (.inr (.inl ⟨rfl, rfl, h1, h5, decide_eq_false (by omega)⟩))
              · exact .inr (.inr (.inr ⟨rfl, rfl, h1, decide_eq_false h5, trivial⟩))
          have Htops : Hid (M'.tops (n + 1) = M.tops (n + 1) + if E = true ∧ h = false then 1 else 0) := by
            have := hCt.tops
            rw [HL.out] at this
            exact this
          have HT16 : Hid (M.tops (n + 1) ≤ n + 1) := M.tops_le _
          obtain ⟨T, hT⟩ : ∃ T, T = M.tops (n + 1) := ⟨_, rfl⟩
          obtain ⟨T', hT'⟩ : ∃ T', T' = M'.tops (n + 1) := ⟨_, rfl⟩
          rw [← hT, ← hT'] at Htops
          rw [← hT] at HT16 ⊢
          have hT16 : T ≤ 16 := by have := HT16.out; omega
          have HT' : Hid (T' = M'.tops (n + 1)) := hT'
          clear hT hT' HT16
          obtain ⟨o1, ho1⟩ : ∃ o, o = M.openB a b := ⟨_, rfl⟩
          obtain ⟨o2, ho2⟩ : ∃ o, o = M.openB b cc := ⟨_, rfl⟩
          obtain ⟨o3, ho3⟩ : ∃ o, o = M.openB a cc := ⟨_, rfl⟩
          obtain ⟨n1, hn1⟩ : ∃ o, o = M'.openB a b := ⟨_, rfl⟩
          obtain ⟨n2, hn2⟩ : ∃ o, o = M'.openB b cc := ⟨_, rfl⟩
          obtain ⟨n3, hn3⟩ : ∃ o, o = M'.openB a cc := ⟨_, rfl⟩
          have H1 : Hid (n1 = false ∨ (n1 = true ∧ o1 = true)) := by
            have := hCt.less a b
            rw [← ho1, ← hn1] at this
            cases n1 with
            | false => exact .inl rfl
            | true => exact .inr ⟨rfl, this rfl⟩
          have H2 : Hid (n2 = false ∨ (n2 = true ∧ o2 = true)) := by
            have := hCt.less b cc
            rw [← ho2, ← hn2] at this
            cases n2 with
            | false => exact .inl rfl
            | true => exact .inr ⟨rfl, this rfl⟩
          have H3 : Hid (n3 = false ∨ (n3 = true ∧ o3 = true)) := by
            have := hCt.less a cc
            rw [← ho3, ← hn3] at this
            cases n3 with
            | false => exact .inl rfl
            | true => exact .inr ⟨rfl, this rfl⟩
          have Ho1 := (show Hid _ from ho1)
          have Ho2 := (show Hid _ from ho2)
          have Ho3 := (show Hid _ from ho3)
          have Hn1 := (show Hid _ from hn1)
          have Hn2 := (show Hid _ from hn2)
          have Hn3 := (show Hid _ from hn3)
          clear hCt hE ho1 ho2 ho3 hn1 hn2 hn3
          have HA : Hid (Below w.heap.size w (wr.alloc (.cells #[.bool o1, .bool o2, .bool o3] 34))) := HB.out.trans ((Below.refl _ _).alloc (by exact HB.out.size) _)
          have HWA : Hid (IsW (wr.alloc (.cells #[.bool o1, .bool o2, .bool o3] 34)) p M F) := HW.out.below ((Below.refl _ _).alloc (Nat.le_refl _) _)
          go_wp2_with fail
          refine (Open_W HW.out a b).mono ?_
          rw [← Ho1.out]
          rintro e _ ⟨rfl, rfl⟩
          go_wp2_with fail
          refine (Open_W HW.out b cc).mono ?_
          rw [← Ho2.out]
          rintro e _ ⟨rfl, rfl⟩
          go_wp2_with fail
          refine (Open_W HW.out a cc).mono ?_
          rw [← Ho3.out]
          rintro e _ ⟨rfl, rfl⟩
          go_wp2_with fail
          refine (IsCut_W HWA.out y).mono ?_
          rw [(show (edgeB M y && M.cutAt y.toNat) = h from HCT.out.had)]
          rintro e _ ⟨rfl, rfl⟩
          go_wp2_with fail
          refine (Hcut.out _ _ HWA.out).mono ?_
          rintro e w4 ⟨rfl, hW4, hk4⟩
          have hz4 := hk4.size
          simp only [World.size_alloc] at hz4
          have B15 : w4.heap[wr.heap.size]? = some (.cells #[.bool o1, .bool o2, .bool o3] 34 (0, 0)) := (hk4.block _ (by simp) (fun h => Nat.lt_irrefl _ (HW.out.lt _ h))).trans (blk_new _ _)
          have b0 : w4.cell? ⟨wr.heap.size, 0, none⟩ = some (.bool o1) := by rw [cell_blk B15]; rfl
          have b1 : w4.cell? ⟨wr.heap.size, 1, none⟩ = some (.bool o2) := by rw [cell_blk B15]; rfl
          have b2 : w4.cell? ⟨wr.heap.size, 2, none⟩ = some (.bool o3) := by rw [cell_blk B15]; rfl
          have HB4 : Hid (Below w.heap.size w w4) := HA.out.trans (Keeps.below hk4 HA.out.size HF.out)
          have HW4 : Hid (IsW w4 p M' F) := hW4
          have hcy4 := HC.out _ HB4.out
          have hcn4 : wr.heap.size < w4.heap.size := by omega
          clear hcy hcn hk4 hz4 hW4 B15
          have HWN : Hid (IsW (w4.alloc (.cells #[.bool n1, .bool n2, .bool n3] 34)) p M' F) := HW4.out.below ((Below.refl _ _).alloc (Nat.le_refl _) _)
          have HBN : Hid (Below w.heap.size w (w4.alloc (.cells #[.bool n1, .bool n2, .bool n3] 34))) := HB4.out.trans ((Below.refl _ _).alloc (by exact HB4.out.size) _)
          go_upto_region 15 with fail
          go_cut [138] from 69 to 172 (fun v wx => v = .bool false ∧ w4 = wx)
          case first =>
            rcases hcomb with ⟨rfl, rfl, rfl, hy1, hy2⟩ | ⟨rfl, rfl, rfl, hy1, hy2⟩ | ⟨rfl, rfl, rfl, hy1, hy2⟩ | ⟨rfl, rfl, rfl, hy1, hy2⟩
            all_goals
              go_wp2_with fail
              refine (IsCut_W HW4.out y).mono ?_
              rw [HCT.out.now]
              rintro e _ ⟨rfl, rfl⟩
              go_wp2_with fail
              go_meet
              exact ⟨rfl, rfl⟩
          obtain ⟨rfl, rfl⟩ := hcut
          go_upto_region 17 with fail
          go_cut [144] from 69 to 172 (fun v wx => v = .bool (E && !h) ∧ w4 = wx)
          case first =>
            rcases hcomb with ⟨rfl, rfl, rfl, hy1, hy2⟩ | ⟨rfl, rfl, rfl, hy1, hy2⟩ | ⟨rfl, rfl, rfl, hy1, hy2⟩ | ⟨rfl, rfl, rfl, hy1, hy2⟩
            all_goals
              go_wp2_with fail
              go_meet
              exact ⟨rfl, rfl⟩
          obtain ⟨rfl, rfl⟩ := hcut
          have Htops2 : Hid (T' = T + if (E && !h) = true then 1 else 0) := by
            have := Htops.out
            show _ = _
            rw [this]
            cases E <;> cases h <;> rfl
          go_upto_if 144 with fail
          go_cut [13] from 69 to 172 (fun v wx => v = .int .i64 T' ∧ w4 = wx)
          case first =>
            revert Htops2
            generalize (E && !h) = G
            intro Htops2
            cases G
            all_goals
              go_wp2_with fail
              go_meet
              exact ⟨by rw [Htops2.out]; simp, rfl⟩
          obtain ⟨rfl, rfl⟩ := hcut
          go_wp2_with fail
          refine (Open_W HW4.out a b).mono ?_
          rw [← Hn1.out]
          rintro e _ ⟨rfl, rfl⟩
          go_wp2_with fail
          refine (Open_W HW4.out b cc).mono ?_
          rw [← Hn2.out]
          rintro e _ ⟨rfl, rfl⟩
          go_wp2_with fail
          refine (Open_W HW4.out a cc).mono ?_
          rw [← Hn3.out]
          rintro e _ ⟨rfl, rfl⟩
          go_wp2_with fail
          have hln : wr.heap.size < (w4.alloc (.cells #[.bool n1, .bool n2, .bool n3] 34)).heap.size := by simp; omega
          have q0 : (w4.alloc (.cells #[.bool n1, .bool n2, .bool n3] 34)).cell? ⟨wr.heap.size, 0, none⟩ = some (.bool o1) := cell_al b0 _
          have q1 : (w4.alloc (.cells #[.bool n1, .bool n2, .bool n3] 34)).cell? ⟨wr.heap.size, 1, none⟩ = some (.bool o2) := cell_al b1 _
          have q2 : (w4.alloc (.cells #[.bool n1, .bool n2, .bool n3] 34)).cell? ⟨wr.heap.size, 2, none⟩ = some (.bool o3) := cell_al b2 _
          have q3 : (w4.alloc (.cells #[.bool n1, .bool n2, .bool n3] 34)).cell? ⟨w4.heap.size, 0, none⟩ = some (.bool n1) := by rw [cell_blk (blk_new _ _)]; rfl
          have q4 : (w4.alloc (.cells #[.bool n1, .bool n2, .bool n3] 34)).cell? ⟨w4.heap.size, 1, none⟩ = some (.bool n2) := by rw [cell_blk (blk_new _ _)]; rfl
          have q5 : (w4.alloc (.cells #[.bool n1, .bool n2, .bool n3] 34)).cell? ⟨w4.heap.size, 2, none⟩ = some (.bool n3) := by rw [cell_blk (blk_new _ _)]; rfl
          clear hln b0 b1 b2 hcy4 hcn4 Ho1 Ho2 Ho3 Hn1 Hn2 Hn3 Hcut
          revert HWN HBN q0 q1 q2 q3 q4 q5
          generalize w4.heap.size = g4
          generalize wr.heap.size = g5
          generalize w4.alloc _ = w5
          intro HWN HBN q0 q1 q2 q3 q4 q5
          go_loop [19] (fun v => ∃ j : Int, v = .int .i64 j ∧ (j = 0 ∨ j = 1 ∨ j = 2 ∨ j = 3)) (fun v => (3 - intOf v).toNat)
          case atStart => exact ⟨0, rfl, .inl rfl⟩
          case round =>
            obtain ⟨j, rfl, hj⟩ := hrel
            rcases hj with rfl | rfl | rfl | rfl
            · rcases H1.out with h1 | ⟨h1, h2⟩
              · subst h1
                go_wp2_with fail
                go_round
                case rel => exact ⟨1, rfl, .inr (.inl rfl)⟩
                case measure => simp [intOf]
              · subst h1 h2
                go_wp2_with fail
                go_round
                case rel => exact ⟨1, rfl, .inr (.inl rfl)⟩
                case measure => simp [intOf]
            · rcases H2.out with h1 | ⟨h1, h2⟩
              · subst h1
                go_wp2_with fail
                go_round
                case rel => exact ⟨2, rfl, .inr (.inr (.inl rfl))⟩
                case measure => simp [intOf]
              · subst h1 h2
                go_wp2_with fail
                go_round
                case rel => exact ⟨2, rfl, .inr (.inr (.inl rfl))⟩
                case measure => simp [intOf]
            · rcases H3.out with h1 | ⟨h1, h2⟩
              · subst h1
                go_wp2_with fail
                go_round
                case rel => exact ⟨3, rfl, .inr (.inr (.inr rfl))⟩
                case measure => simp [intOf]
              · subst h1 h2
                go_wp2_with fail
                go_round
                case rel => exact ⟨3, rfl, .inr (.inr (.inr rfl))⟩
                case measure => simp [intOf]
            · go_wp2_with fail
              go_roundw
              case rel =>
                have h1 := Htops.out
                have h2 := HT'.out
                refine ⟨k + 1, M', ?_, by go_num, by omega, by omega, (show M'.made.length = n + 1 by rw [HCT.out.made]; exact HL.out), ⟨F, HWN.out, HF.out, HBN.out⟩⟩
                rw [← h2]
              case measure => exact meas_step40 hk40
        · by_cases hkm : k < m
          · have hkz : (k : Int) < (m : Int) := by omega
            have hkz2 : ¬ (k : Int) < 40 := by omega
            go_wp2_with fail
            go_meet
            case rel => exact ⟨M, rfl, HL, HO1⟩
          · have hkz : ¬ (k : Int) < (m : Int) := by omega
            go_wp2_with fail
            go_meet
            case rel => exact ⟨M, rfl, HL, HO1⟩
    case rest =>
      clear HO1 Htop
      obtain ⟨M, rfl, HL, HO⟩ := hcut
      obtain ⟨F, hW, hF, hB⟩ := HO.out
      have HW := (show Hid (IsW wc p M F) from hW)
      have HB := (show Hid (Below w.heap.size w wc) from hB)
      have hok := hW.ok
      have HOK := (show Hid M.ok from hok)
      have sa : sideB M a = true := sideB_iff.2 (by rw [HL.out]; have := Ba.out; omega)
      have sb : sideB M b = true := sideB_iff.2 (by rw [HL.out]; have := Bb.out; omega)
      have sc : sideB M cc = true := sideB_iff.2 (by rw [HL.out]; have := Bc.out; omega)
      have Haa : Hid (M.openB a a = true) := by show _ = _; rw [hok.openB_root, sa]; simp
      have Hba : Hid (M.openB b a = M.openB a b) := by
        show _ = _
        rw [hok.openB_root, hok.openB_root, sa, sb]
        exact congrArg (fun x => true && true && x) (decide_eq_decide.2 eq_comm)
      have Ham : Hid (M.openB a (-1) = false) := by
        show _ = _
        rw [hok.openB_root, show sideB M (-1) = false by simp [sideB]]
        simp
      have Hna : Hid (M.openB ((n : Int) + 1) a = false) := by
        show _ = _
        rw [hok.openB_root, show sideB M ((n : Int) + 1) = false by simp [sideB, HL.out]]
        simp
      have H3 := (show Hid (Three (M.openB a b) (M.openB b cc) (M.openB a cc)) from three hok sa sb sc)
      obtain ⟨o1, ho1⟩ : ∃ o, o = M.openB a b := ⟨_, rfl⟩
      obtain ⟨o2, ho2⟩ : ∃ o, o = M.openB b cc := ⟨_, rfl⟩
      obtain ⟨o3, ho3⟩ : ∃ o, o = M.openB a cc := ⟨_, rfl⟩
      rw [← ho1, ← ho2, ← ho3] at H3
      rw [← ho1] at Hba
      have Ho1 := (show Hid _ from ho1)
      have Ho2 := (show Hid _ from ho2)
      have Ho3 := (show Hid _ from ho3)
      clear hW hF hB hok sa sb sc ho1 ho2 ho3
      go_wp2_with fail
      refine (Open_W HW.out a b).mono ?_
      rw [← Ho1.out]
      rintro e _ ⟨rfl, rfl⟩
      go_wp2_with fail
      refine (Open_W HW.out b cc).mono ?_
      rw [← Ho2.out]
      rintro e _ ⟨rfl, rfl⟩
      go_wp2_with fail
      refine (Open_W HW.out a cc).mono ?_
      rw [← Ho3.out]
      rintro e _ ⟨rfl, rfl⟩
      go_upto_region 26 with fail
      go_cut [228] (fun v wx => v = .bool false ∧ wx = wc)
      case first =>
        rcases H3.out with ⟨rfl, rfl, rfl⟩ | ⟨rfl, rfl, rfl⟩ | rfl
        all_goals
          as_aux_lemma =>
            go_wp2_with fail
            refine (Open_W HW.out a a).mono ?_
            rw [Haa.out]
            rintro e _ ⟨rfl, rfl⟩
            go_wp2_with fail
            refine (Open_W HW.out b a).mono ?_
            rw [Hba.out]
            rintro e _ ⟨rfl, rfl⟩
            go_wp2_with fail
            refine (Open_W HW.out a (-1)).mono ?_
            rw [Ham.out]
            rintro e _ ⟨rfl, rfl⟩
            go_wp2_with fail
            refine (Open_W HW.out ((n : Int) + 1) a).mono ?_
            rw [Hna.out]
            rintro e _ ⟨rfl, rfl⟩
            go_wp2_with fail
            go_meet
            exact ⟨rfl, rfl⟩
      case rest =>
        obtain ⟨rfl, rfl⟩ := hcut
        clear Haa Hba Ham Hna H3 Ho1 Ho2 Ho3 Ba Bb Bc
        go_wp2_with fail
        have hHL : Hid (M.made.length = n + 1) := HL
        go_loop [23] (fun v => ∃ k : Nat, v = .int .i64 k ∧ 1 ≤ k ∧ k ≤ n + 1) (fun v => (n + 1) - (intOf v).toNat)
        case atStart => exact ⟨1, rfl, Nat.le_refl _, by omega⟩
        case round =>
          obtain ⟨k, rfl, hk0, hk1⟩ := hrel
          by_cases hkn : k < n + 1
          · have hkz : (k : Int) < (n : Int) + 1 := by omega
            have hwk : wrap64 ((k : Int) + 1) = (k : Int) + 1 := by unfold wrap64; omega
            have hP := Parent_W HW.out (k : Int) ⟨by omega, by rw [HL.out]; omega⟩
            rw [Int.toNat_natCast] at hP
            have HP := (show Hid _ from hP)
            have ho := open_parent HOK.out (k := k) hk0 (by rw [HL.out]; exact hkn)
            have HOp := (show Hid _ from ho)
            have hc := IsCut_W HW.out (k : Int)
            rw [show (edgeB M (k : Int) && M.cutAt (k : Int).toNat) = M.cutAt k by rw [Int.toNat_natCast, show edgeB M (k : Int) = true by simp [edgeB, HL.out]; omega]; rfl] at hc
            have HC := (show Hid _ from hc)
            clear hP ho hc
            generalize M.par (k - 1) = pp at HP HOp
            generalize M.cutAt k = cb at HOp HC
            go_wp2_with fail
            refine Calls.mono HP.out ?_
            rintro e _ ⟨rfl, rfl⟩
            go_wp2_with fail
            refine (Open_W HW.out (k : Int) pp).mono ?_
            rw [HOp.out]
            rintro e _ ⟨rfl, rfl⟩
            go_wp2_with fail
            refine Calls.mono HC.out ?_
            rintro e _ ⟨rfl, rfl⟩
            have hne : ((!cb) == cb) = false := by cases cb <;> rfl
            go_wp2_with fail
            go_round
            case rel => exact ⟨k + 1, by go_num, by omega, by omega⟩
            case measure => exact meas_up hkn
          · have hkz : ¬ (k : Int) < (n : Int) + 1 := by omega
            go_wp2_with fail
            clear hk0 hk1 hkn hkz
            go_loop [26, 27] (fun v26 v27 => ∃ k : Nat, v27 = .int .i64 k ∧ k ≤ n + 1 ∧ v26 = .int .i64 (M.tops k)) (fun _ v => (n + 1) - (intOf v).toNat)
            case atStart => exact ⟨0, rfl, Nat.zero_le _, rfl⟩
            case round =>
              obtain ⟨k, rfl, hk1, rfl⟩ := hrel
              by_cases hkn : k < n + 1
              · have hkz : (k : Int) < (n : Int) + 1 := by omega
                have hwk : wrap64 ((k : Int) + 1) = (k : Int) + 1 := by unfold wrap64; omega
                have Hts : Hid (M.tops (k + 1) = M.tops k + (if M.isTop k = true then 1 else 0)) := M.tops_succ k
                have htl := M.tops_le k
                obtain ⟨T, hT⟩ : ∃ T, T = M.tops k := ⟨_, rfl⟩
                rw [← hT] at Hts htl ⊢
                have hT16 : T ≤ 16 := by omega
                clear hT htl
                go_wp2_with fail
                go_loop [28, 29] (fun v28 v29 => ∃ (i : Nat) (f : Bool), v29 = .int .i64 i ∧ v28 = .bool f ∧ i ≤ k ∧ Hid (FirstTo M k i f)) (fun _ v => k - (intOf v).toNat)
                case atStart => exact ⟨0, true, rfl, rfl, Nat.zero_le _, FirstTo.start M k⟩
                case round =>
                  obtain ⟨i, f, rfl, rfl, hik, HF⟩ := hrel
                  by_cases hi : i < k
                  · have hiz : (i : Int) < (k : Int) := by omega
                    have hwi : wrap64 ((i : Int) + 1) = (i : Int) + 1 := by unfold wrap64; omega
                    cases f with
                    | false =>
                      go_wp2_with fail
                      go_round
                      case rel => exact ⟨i + 1, false, by go_num, rfl, by omega, HF.out.lost⟩
                      case measure => exact meas_up hi
                    | true =>
                      have HF2 := (show Hid (FirstTo M k (i + 1) (!M.openB i k)) from HF.out.meet HOK.out (by rw [HL.out]; omega) (by rw [HL.out]; omega))
                      go_wp2_with fail
                      refine (Open_W HW.out (i : Int) (k : Int)).mono ?_
                      revert HF2
                      generalize M.openB (i : Int) (k : Int) = ob
                      intro HF2
                      rintro e _ ⟨rfl, rfl⟩
                      go_wp2_with fail
                      go_round
                      case rel => exact ⟨i + 1, !ob, by go_num, rfl, by omega, HF2.out⟩
                      case measure => exact meas_up hi
                  · have hiz : ¬ (i : Int) < (k : Int) := by omega
                    have hik' : i = k := by omega
                    subst hik'
                    have HT := (show Hid (f = M.isTop i) from HF.out.top HOK.out (by rw [HL.out]; omega))
                    clear HF hiz hi hik
                    cases f with
                    | false =>
                      go_wp2_with fail
                      go_round
                      case rel => exact ⟨i + 1, by go_num, by omega, by rw [Hts.out, ← HT.out]; rfl⟩
                      case measure => exact meas_up hkn
                    | true =>
                      go_wp2_with fail
                      go_round
                      case rel => exact ⟨i + 1, by go_num, by omega, by rw [Hts.out, ← HT.out]; simp⟩
                      case measure => exact meas_up hkn
              · have hkz : ¬ (k : Int) < (n : Int) + 1 := by omega
                have hkn' : k = n + 1 := by omega
                subst hkn'
                clear hk1 hkn hkz
                go_wp2_with fail
                refine (lives_W _).mono ?_
                rintro e w2 ⟨rfl, hb⟩
                go_wp2_with fail
                go_ret
                exact ⟨rfl, HB.out.trans (hb.mono HB.out.size)⟩
  · obtain ⟨rfl, rfl⟩ := (Or.resolve_left hpost (fun h => ht h.1)).2
    clear hpost
    go_wp2_with fail
    refine (lives_W _).mono ?_
    rintro e w2 ⟨rfl, hb⟩
    go_wp2_with fail
    go_ret
    exact ⟨rfl, ((Below.refl _ _).alloc (Nat.le_refl _) _).trans (hb.mono (by simp))⟩
end Go.Proofs.Ytkbemnhgohokkaa
