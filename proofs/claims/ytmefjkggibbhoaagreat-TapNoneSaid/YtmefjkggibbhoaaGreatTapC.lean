/- Taps: Pass: each tap on the way counts. -/
import Derived.Test.YtmefjkggibbhoaaGreatTapB
import Derived.Test.YtmefjkggibbhoaaGreatWalkD
namespace Go.Proofs.YtmefjkggibbhoaaGreat
open Go.RowKit Go.ChangeMaps Go.MapKept

/-- A world in which each tap has its tally. -/
def TW (M : WM) : Prop := ∀ r t, M.at r = some t → t.kind = 16 → ∃ h tg n h' c, t = tapT h tg n ∧ M.at n = some (tallyT h' c) ∧ (0 ≤ h' ∧ h' < M.made.length) ∧ 0 ≤ c ∧ c ≤ 9007199254740992
/-- A tap counts. -/
def WM.cnt (M : WM) (q : Int) : WM :=
  match M.at q with
  | some t => if t.kind = 16 then (match M.at t.bi with | some u => M.set t.bi { u with n := up u.n } | none => M) else M
  | none => M
def WM.pass (M : WM) (l : List Int) : WM := l.foldl WM.cnt M
theorem WM.pass_snoc (M : WM) (l : List Int) (q : Int) : M.pass (l ++ [q]) = (M.pass l).cnt q := by simp [WM.pass]

section
variable {M : WM}
theorem cnt_tap {q h tg n h' c : Int} (ht : M.at q = some (tapT h tg n)) (hn : M.at n = some (tallyT h' c)) : M.cnt q = M.set n (tallyT h' (up c)) := by
  unfold WM.cnt
  rw [ht]
  simp only [if_true]
  rw [hn]
theorem cnt_not {q : Int} {t : Th} (ht : M.at q = some t) (hk : t.kind ≠ 16) : M.cnt q = M := by
  unfold WM.cnt
  rw [ht]
  simp only [hk, if_false]
theorem up_range {c : Int} (h : 0 ≤ c ∧ c ≤ 9007199254740992) : 0 ≤ up c ∧ up c ≤ 9007199254740992 := by
  unfold up
  omega
/-- What a count leaves of a thing: all but a tally's number. -/
theorem cnt_at (hT : TW M) {q r : Int} {t u : Th} (hq : M.at q = some u) (ht : M.at r = some t) : ∃ t', (M.cnt q).at r = some t' ∧ t'.kind = t.kind ∧ (t.kind ≠ 3 → t' = t) ∧ (t.kind = 3 → ∀ h' c, t = tallyT h' c → ∃ c', t' = tallyT h' c' ∧ (c' = c ∨ c' = up c)) := by
  by_cases hk : u.kind = 16
  · obtain ⟨h, tg, n, h', c, rfl, hn, -, hc⟩ := hT q u hq hk
    rw [cnt_tap hq hn]
    by_cases e : r = n
    · subst e
      rw [hn] at ht
      cases ht
      exact ⟨_, WM.set_at_self _ hn, rfl, (fun h => absurd rfl h), fun _ h1 c1 e1 => by cases e1; exact ⟨_, rfl, .inr rfl⟩⟩
    · exact ⟨t, by rw [WM.set_at_ne _ _ e]; exact ht, rfl, fun _ => rfl, fun _ h1 c1 e1 => ⟨c1, e1, .inl rfl⟩⟩
  · rw [cnt_not hq hk]
    exact ⟨t, ht, rfl, fun _ => rfl, fun _ h1 c1 e1 => ⟨c1, e1, .inl rfl⟩⟩
theorem TW.cnt (hT : TW M) {q : Int} {u : Th} (hq : M.at q = some u) : TW (M.cnt q) := by
  by_cases hk : u.kind = 16
  · obtain ⟨h, tg, n, h', c, rfl, hn, hh, hc⟩ := hT q u hq hk
    rw [cnt_tap hq hn]
    intro r t ht htk
    have hrn : r ≠ n := fun e => by
      subst e
      rw [WM.set_at_self _ hn] at ht
      cases ht
      cases htk
    rw [WM.set_at_ne _ _ hrn] at ht
    obtain ⟨h1, tg1, n1, h1', c1, rfl, hn1, hh1, hc1⟩ := hT r t ht htk
    by_cases e : n1 = n
    · subst e
      rw [hn] at hn1
      cases hn1
      exact ⟨h1, tg1, n1, h', _, rfl, WM.set_at_self _ hn, hh, up_range hc⟩
    · exact ⟨h1, tg1, n1, h1', c1, rfl, by rw [WM.set_at_ne _ _ e]; exact hn1, hh1, hc1⟩
  · rw [cnt_not hq hk]
    exact hT
theorem pass_keeps : ∀ (l : List Int) {M : WM}, TW M → (∀ q ∈ l, ∃ t, M.at q = some t) → TW (M.pass l) ∧ ∀ r t, M.at r = some t → ∃ t', (M.pass l).at r = some t' ∧ t'.kind = t.kind ∧ (t.kind ≠ 3 → t' = t)
  | [], _, hT, _ => ⟨hT, fun _ t ht => ⟨t, ht, rfl, fun _ => rfl⟩⟩
  | q :: l, M, hT, h => by
    obtain ⟨tq, hq⟩ := h q (by simp)
    obtain ⟨h1, h2⟩ := pass_keeps l (hT.cnt hq) fun x hx => by
      obtain ⟨tx, hx⟩ := h x (by simp [hx])
      obtain ⟨t', h3, -⟩ := cnt_at hT hq hx
      exact ⟨t', h3⟩
    refine ⟨h1, fun r t ht => ?_⟩
    obtain ⟨t1, a1, a2, a3, -⟩ := cnt_at hT hq ht
    obtain ⟨t2, b1, b2, b3⟩ := h2 r t1 a1
    exact ⟨t2, b1, b2.trans a2, fun hk => (b3 (by rw [a2]; exact hk)).trans (a3 hk)⟩
theorem way_mem : ∀ (l : List Int) (r : Int), WayIs M r l → ∀ q ∈ l, ∃ t, M.at q = some t := by
  intro l
  induction l with
  | nil => intro r _ q hq; cases hq
  | cons x l ih =>
    intro r h q hq
    cases hr : M.at r with
    | none => cases h.none hr
    | some t =>
      cases hk : wrapsB t.kind with
      | true =>
        obtain ⟨l', e, h'⟩ := h.wrap hr hk
        cases e
        rcases List.mem_cons.1 hq with rfl | hq
        · exact ⟨t, hr⟩
        · exact ih _ h' q hq
      | false =>
        have e := h.base hr hk
        cases e
        rcases List.mem_cons.1 hq with rfl | hq
        · exact ⟨t, hr⟩
        · cases hq
end
theorem meas_up {k n : Nat} (h : k < n) : n - (intOf (.int .i64 ((k : Int) + 1))).toNat < n - (intOf (.int .i64 (k : Int))).toNat := by
  simp only [intOf]
  omega
theorem way_cells {W : World} {base n : Nat} {e : TypeId} {v : Value} {xs : List Value} (h : W.ownsRow base e 1 v n xs) :
    ∃ a cap, v = .slice a n cap ∧ ∀ k, k < n → ∃ g, a = some ⟨g, 0, none⟩ ∧ base ≤ g ∧ g < W.heap.size ∧ W.cell? ⟨g, k, none⟩ = xs[k]? := by
  rcases h.2 with ⟨rfl, h0⟩ | ⟨g, cap, cur, rfl, h1, h2, -⟩
  · subst h0
    exact ⟨none, 0, rfl, fun k hk => by omega⟩
  · exact ⟨_, cap, rfl, fun k hk => ⟨g, rfl, h1, blk_lt h2, h.cellAt k (by omega)⟩⟩

set_option maxHeartbeats 4000000 in
set_option maxRecDepth 100000 in
theorem walkPass_W {w : World} {p : Nat} {M : WM} {F : Nat → Prop} (hW : IsW w p M F) (hT : TW M) {r : Int} {l : List Int} (hl : WayIs M r l) {t0 : Th} (hr : M.at r = some t0) :
    Calls Tryz.prog 36 #[.pointer (some ⟨p, 0, none⟩), .int .i64 r, .func (.func 43) #[.agg #[.pointer (some ⟨p, 0, none⟩)]] #[]] w fun e w' => e = .returned (.int .i64 0) ∧ IsW w' p (M.pass l) F ∧ Keeps F w w' := by
  have hrw := hW.ok.at_wf hr
  have HS := (show Hid _ from Sides_W hW)
  have hI := Is_W hW hrw
  rw [hr] at hI
  have HI := (show Hid _ from hI)
  have HY := (show Hid _ from Way_W hW hrw hl)
  have hne : ((M.made.length : Int) == 0) = false := by
    have := hW.ok.made
    exact beq_eq_false_iff_ne.2 (by omega)
  have HW := (show Hid (IsW w p M F) from hW)
  have HT := (show Hid (TW M) from hT)
  have HM := (show Hid (∀ q ∈ l, ∃ t, M.at q = some t) from way_mem l r hl)
  have Hlen : Hid ((l.length : Int) ≤ 1099511627777) := by
    obtain ⟨l', h1, h2⟩ := way_ex hW.ok r
    obtain rfl := hl.uniq h1
    have := hW.ok.last
    show _ ≤ _
    omega
  obtain ⟨n, hn⟩ : ∃ n, n = l.length := ⟨_, rfl⟩
  have Hn := (show Hid (n = l.length) from hn)
  rw [← hn] at HY Hlen
  clear hW hT hr hl hI hn
  go_enter Tryz.func36, Tryz.ntmps36
  go_wp2_with fail
  refine Calls.mono HS.out ?_
  rintro e _ ⟨rfl, rfl⟩
  go_wp2_with fail
  refine Calls.mono HI.out ?_
  rintro e _ ⟨rfl, rfl⟩
  go_wp2_with fail
  refine Calls.mono HY.out ?_
  rintro e w1 ⟨v, rfl, hrow, hb1⟩
  obtain ⟨a, cap, rfl, hcells⟩ := way_cells hrow
  have HB1 := (show Hid (Below w.heap.size w w1) from hb1)
  have HC := (show Hid (∀ k, k < n → ∃ g, a = some ⟨g, 0, none⟩ ∧ w.heap.size ≤ g ∧ g < w1.heap.size ∧ w1.cell? ⟨g, k, none⟩ = (l.map (Value.int .i64))[k]?) from hcells)
  clear hrow hcells hb1 HS HI HY
  go_wp2_with fail
  go_loopw [24] (fun vi wr => ∃ k : Nat, vi = .int .i64 k ∧ k ≤ n ∧ Hid (IsW wr p (M.pass (l.take k)) F ∧ Keeps F w wr ∧ Keeps F w1 wr)) (fun vi _ => n - (intOf vi).toNat)
  case atStart => exact ⟨0, rfl, Nat.zero_le _, HW.out.below HB1.out, Keeps.of_below HB1.out, Keeps.refl _ _⟩
  case round =>
    obtain ⟨k, rfl, hk, HR⟩ := hrel
    by_cases hkn : k < n
    · have hkz : (k : Int) < (n : Int) := by omega
      have hwk : wrap64 ((k : Int) + 1) = (k : Int) + 1 := by have := Hlen.out; unfold wrap64; omega
      obtain ⟨q, hq⟩ : ∃ q, l[k]? = some q := ⟨_, List.getElem?_eq_getElem (by have := Hn.out; omega)⟩
      have Htk : Hid (l.take (k + 1) = l.take k ++ [q]) := by show _ = _; rw [List.take_add_one, hq]; rfl
      obtain ⟨t, ht⟩ := HM.out q (List.mem_of_getElem? hq)
      obtain ⟨hTk, hpk⟩ := pass_keeps (l.take k) HT.out (fun x hx => HM.out x (List.mem_of_mem_take hx))
      obtain ⟨t', ht', hkd, hsame⟩ := hpk q t ht
      obtain ⟨g, rfl, hg0, hg1, hgc⟩ := HC.out k hkn
      have hcell : wr.cell? ⟨g, k, none⟩ = some (.int .i64 q) := by
        rw [World.cell?_of_block (a := ⟨g, k, none⟩) (HR.out.2.2.block g hg1 (fun e => by have := HW.out.lt g e; omega)), hgc, List.getElem?_map, hq]
        rfl
      have hkw := Kind_W HR.out.1 (HW.out.ok.at_wf ht)
      rw [show (M.pass (l.take k)).kindOf q = t'.kind by simp [WM.kindOf, ht']] at hkw
      have HK := (show Hid _ from hkw)
      have HTk := (show Hid (TW (M.pass (l.take k))) from hTk)
      have Ht' := (show Hid ((M.pass (l.take k)).at q = some t') from ht')
      clear hq ht hTk hpk ht' hkd hsame hgc hkw
      by_cases h16 : t'.kind = 16
      · have e16 : (t'.kind == 16) = true := by simpa using h16
        obtain ⟨h, tg, nn, h', c, rfl, hn', hh, hc⟩ := HTk.out q t' Ht'.out h16
        have hcw := count_W HR.out.1 Ht'.out hn' hh hc
        rw [← cnt_tap Ht'.out hn', ← WM.pass_snoc, ← Htk.out] at hcw
        have HCW := (show Hid _ from hcw)
        clear hcw hn' hh hc h16
        go_wp2_with fail
        refine Calls.mono HK.out ?_
        rintro e _ ⟨rfl, rfl⟩
        go_wp2_with fail
        refine Calls.mono HCW.out ?_
        rintro e w2 ⟨rfl, hW2, hk2⟩
        have HR2 : Hid (IsW w2 p (M.pass (l.take (k + 1))) F ∧ Keeps F w w2 ∧ Keeps F w1 w2) := ⟨hW2, HR.out.2.1.trans hk2 (fun _ _ h => h) (fun _ _ h => h), HR.out.2.2.trans hk2 (fun _ _ h => h) (fun _ _ h => h)⟩
        clear hW2 hk2 HR HCW HK
        go_wp2_with fail
        go_roundw
        case rel => exact ⟨k + 1, by rw [hwk]; go_num, by omega, HR2⟩
        case measure => rw [hwk]; exact meas_up hkn
      · have e16 : (t'.kind == 16) = false := by simpa using h16
        have HR2 : Hid (IsW wr p (M.pass (l.take (k + 1))) F ∧ Keeps F w wr ∧ Keeps F w1 wr) := by
          rw [Htk.out, WM.pass_snoc, cnt_not Ht'.out h16]
          exact HR.out
        clear h16 HR
        go_wp2_with fail
        refine Calls.mono HK.out ?_
        rintro e _ ⟨rfl, rfl⟩
        go_wp2_with fail
        go_roundw
        case rel => exact ⟨k + 1, by rw [hwk]; go_num, by omega, HR2⟩
        case measure => rw [hwk]; exact meas_up hkn
    · have hkz : ¬ (k : Int) < (n : Int) := by omega
      obtain rfl : k = n := by omega
      have HR2 : Hid (IsW wr p (M.pass l) F ∧ Keeps F w wr) := by
        have := HR.out
        rw [Hn.out, List.take_length] at this
        exact ⟨this.1, this.2.1⟩
      clear HR
      go_wp2_with fail
      go_ret
      exact ⟨rfl, HR2.out.1, HR2.out.2⟩
end Go.Proofs.YtmefjkggibbhoaaGreat
