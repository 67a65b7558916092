/- A part of the proof, several texts in one: TapC, Facet, TowA. -/
import Derived.Test.YtmefjkggibbhoaaGreatmAS
import Derived.Test.YtmefjkggibbhoaaGreatmAG
import Derived.Test.YtmefjkggibbhoaaGreatmAD
import Derived.Deep.QuietTactic
import Derived.BigQuiet
/- Taps: Pass: each tap on the way counts. -/
namespace Go.Proofs.YtmefjkggibbhoaaGreat
open Go.RowKit Go.ChangeMaps Go.MapKept

/-- A world in which each tap has its tally. -/
def TW (M : WM) : Prop := ∀ r t, M.at r = some t → t.kind = 16 → ∃ h tg n h' c, t = tapT h tg n ∧ M.at n = some (tallyT h' c) ∧ (0 ≤ h' ∧ h' < M.made.length) ∧ 0 ≤ c ∧ c ≤ 9007199254740992
/-- A tap counts. -/
def WM.cnt (M : WM) (q : Int) : WM :=
  match M.at q with
  | some t => if t.kind = 16 then (match M.at t.bi with | some u => M.set t.bi { u with n := up u.n } | none => M) else M
  | none => M
def WM.pass (M : WM) (l : List Int) : WM := l.foldl WM.cnt M
theorem WM.pass_snoc (M : WM) (l : List Int) (q : Int) : M.pass (l ++ [q]) = (M.pass l).cnt q := by simp [WM.pass]

section
variable {M : WM}
theorem cnt_tap {q h tg n h' c : Int} (ht : M.at q = some (tapT h tg n)) (hn : M.at n = some (tallyT h' c)) : M.cnt q = M.set n (tallyT h' (up c)) := by
  unfold WM.cnt
  rw [ht]
  simp only [if_true]
  rw [hn]
theorem cnt_not {q : Int} {t : Th} (ht : M.at q = some t) (hk : t.kind ≠ 16) : M.cnt q = M := by
  unfold WM.cnt
  rw [ht]
  simp only [hk, if_false]
theorem up_range {c : Int} (h : 0 ≤ c ∧ c ≤ 9007199254740992) : 0 ≤ up c ∧ up c ≤ 9007199254740992 := by
  unfold up
  omega
/-- What a count leaves of a thing: all but a tally's number. -/
theorem cnt_at (hT : TW M) {q r : Int} {t u : Th} (hq : M.at q = some u) (ht : M.at r = some t) : ∃ t', (M.cnt q).at r = some t' ∧ t'.kind = t.kind ∧ (t.kind ≠ 3 → t' = t) ∧ (t.kind = 3 → ∀ h' c, t = tallyT h' c → ∃ c', t' = tallyT h' c' ∧ (c' = c ∨ c' = up c)) := by
  by_cases hk : u.kind = 16
  · obtain ⟨h, tg, n, h', c, rfl, hn, -, hc⟩ := hT q u hq hk
    rw [cnt_tap hq hn]
    by_cases e : r = n
    · subst e
      rw [hn] at ht
      cases ht
      exact ⟨_, WM.set_at_self _ hn, rfl, (fun h => absurd rfl h), fun _ h1 c1 e1 => by cases e1; exact ⟨_, rfl, .inr rfl⟩⟩
    · exact ⟨t, by rw [WM.set_at_ne _ _ e]; exact ht, rfl, fun _ => rfl, fun _ h1 c1 e1 => ⟨c1, e1, .inl rfl⟩⟩
  · rw [cnt_not hq hk]
    exact ⟨t, ht, rfl, fun _ => rfl, fun _ h1 c1 e1 => ⟨c1, e1, .inl rfl⟩⟩
theorem TW.cnt (hT : TW M) {q : Int} {u : Th} (hq : M.at q = some u) : TW (M.cnt q) := by
  by_cases hk : u.kind = 16
  · obtain ⟨h, tg, n, h', c, rfl, hn, hh, hc⟩ := hT q u hq hk
    rw [cnt_tap hq hn]
    intro r t ht htk
    have hrn : r ≠ n := fun e => by
      subst e
      rw [WM.set_at_self _ hn] at ht
      cases ht
      cases htk
    rw [WM.set_at_ne _ _ hrn] at ht
    obtain ⟨h1, tg1, n1, h1', c1, rfl, hn1, hh1, hc1⟩ := hT r t ht htk
    by_cases e : n1 = n
    · subst e
      rw [hn] at hn1
      cases hn1
      exact ⟨h1, tg1, n1, h', _, rfl, WM.set_at_self _ hn, hh, up_range hc⟩
    · exact ⟨h1, tg1, n1, h1', c1, rfl, by rw [WM.set_at_ne _ _ e]; exact hn1, hh1, hc1⟩
  · rw [cnt_not hq hk]
    exact hT
theorem pass_keeps : ∀ (l : List Int) {M : WM}, TW M → (∀ q ∈ l, ∃ t, M.at q = some t) → TW (M.pass l) ∧ ∀ r t, M.at r = some t → ∃ t', (M.pass l).at r = some t' ∧ t'.kind = t.kind ∧ (t.kind ≠ 3 → t' = t)
  | [], _, hT, _ => ⟨hT, fun _ t ht => ⟨t, ht, rfl, fun _ => rfl⟩⟩
  | q :: l, M, hT, h => by
    obtain ⟨tq, hq⟩ := h q (by simp)
    obtain ⟨h1, h2⟩ := pass_keeps l (hT.cnt hq) fun x hx => by
      obtain ⟨tx, hx⟩ := h x (by simp [hx])
      obtain ⟨t', h3, -⟩ := cnt_at hT hq hx
      exact ⟨t', h3⟩
    refine ⟨h1, fun r t ht => ?_⟩
    obtain ⟨t1, a1, a2, a3, -⟩ := cnt_at hT hq ht
    obtain ⟨t2, b1, b2, b3⟩ := h2 r t1 a1
    exact ⟨t2, b1, b2.trans a2, fun hk => (b3 (by rw [a2]; exact hk)).trans (a3 hk)⟩
theorem way_mem : ∀ (l : List Int) (r : Int), WayIs M r l → ∀ q ∈ l, ∃ t, M.at q = some t := by
  intro l
  induction l with
  | nil => intro r _ q hq; cases hq
  | cons x l ih =>
    intro r h q hq
    cases hr : M.at r with
    | none => cases h.none hr
    | some t =>
      cases hk : wrapsB t.kind with
      | true =>
        obtain ⟨l', e, h'⟩ := h.wrap hr hk
        cases e
        rcases List.mem_cons.1 hq with rfl | hq
        · exact ⟨t, hr⟩
        · exact ih _ h' q hq
      | false =>
        have e := h.base hr hk
        cases e
        rcases List.mem_cons.1 hq with rfl | hq
        · exact ⟨t, hr⟩
        · cases hq
end
theorem meas_up {k n : Nat} (h : k < n) : n - (intOf (.int .i64 ((k : Int) + 1))).toNat < n - (intOf (.int .i64 (k : Int))).toNat := by
  simp only [intOf]
  omega
theorem way_cells {W : World} {base n : Nat} {e : TypeId} {v : Value} {xs : List Value} (h : W.ownsRow base e 1 v n xs) :
    ∃ a cap, v = .slice a n cap ∧ ∀ k, k < n → ∃ g, a = some ⟨g, 0, none⟩ ∧ base ≤ g ∧ g < W.heap.size ∧ W.cell? ⟨g, k, none⟩ = xs[k]? := by
  rcases h.2 with ⟨rfl, h0⟩ | ⟨g, cap, cur, rfl, h1, h2, -⟩
  · subst h0
    exact ⟨none, 0, rfl, fun k hk => by omega⟩
  · exact ⟨_, cap, rfl, fun k hk => ⟨g, rfl, h1, blk_lt h2, h.cellAt k (by omega)⟩⟩

set_option maxHeartbeats 4000000 in
set_option maxRecDepth 100000 in
theorem walkPass_W {w : World} {p : Nat} {M : WM} {F : Nat → Prop} (hW : IsW w p M F) (hT : TW M) {r : Int} {l : List Int} (hl : WayIs M r l) {t0 : Th} (hr : M.at r = some t0) :
    Calls Tryz.prog 36 #[.pointer (some ⟨p, 0, none⟩), .int .i64 r, .func (.func 43) #[.agg #[.pointer (some ⟨p, 0, none⟩)]] #[]] w fun e w' => e = .returned (.int .i64 0) ∧ IsW w' p (M.pass l) F ∧ Keeps F w w' := by
  have hrw := hW.ok.at_wf hr
  have HS := (show Hid _ from Sides_W hW)
  have hI := Is_W hW hrw
  rw [hr] at hI
  have HI := (show Hid _ from hI)
  have HY := (show Hid _ from Way_W hW hrw hl)
  have hne : ((M.made.length : Int) == 0) = false := by
    have := hW.ok.made
    exact beq_eq_false_iff_ne.2 (by omega)
  have HW := (show Hid (IsW w p M F) from hW)
  have HT := (show Hid (TW M) from hT)
  have HM := (show Hid (∀ q ∈ l, ∃ t, M.at q = some t) from way_mem l r hl)
  have Hlen : Hid ((l.length : Int) ≤ 1099511627777) := by
    obtain ⟨l', h1, h2⟩ := way_ex hW.ok r
    obtain rfl := hl.uniq h1
    have := hW.ok.last
    show _ ≤ _
    omega
  obtain ⟨n, hn⟩ : ∃ n, n = l.length := ⟨_, rfl⟩
  have Hn := (show Hid (n = l.length) from hn)
  rw [← hn] at HY Hlen
  clear hW hT hr hl hI hn
  go_enter Tryz.func36, Tryz.ntmps36
  go_wp2_with fail
  refine Calls.mono HS.out ?_
  rintro e _ ⟨rfl, rfl⟩
  go_wp2_with fail
  refine Calls.mono HI.out ?_
  rintro e _ ⟨rfl, rfl⟩
  go_wp2_with fail
  refine Calls.mono HY.out ?_
  rintro e w1 ⟨v, rfl, hrow, hb1⟩
  obtain ⟨a, cap, rfl, hcells⟩ := way_cells hrow
  have HB1 := (show Hid (Below w.heap.size w w1) from hb1)
  have HC := (show Hid (∀ k, k < n → ∃ g, a = some ⟨g, 0, none⟩ ∧ w.heap.size ≤ g ∧ g < w1.heap.size ∧ w1.cell? ⟨g, k, none⟩ = (l.map (Value.int .i64))[k]?) from hcells)
  clear hrow hcells hb1 HS HI HY
  go_wp2_with fail
  go_loopw [24] (fun vi wr => ∃ k : Nat, vi = .int .i64 k ∧ k ≤ n ∧ Hid (IsW wr p (M.pass (l.take k)) F ∧ Keeps F w wr ∧ Keeps F w1 wr)) (fun vi _ => n - (intOf vi).toNat)
  case atStart => exact ⟨0, rfl, Nat.zero_le _, HW.out.below HB1.out, Keeps.of_below HB1.out, Keeps.refl _ _⟩
  case round =>
    obtain ⟨k, rfl, hk, HR⟩ := hrel
    by_cases hkn : k < n
    · have hkz : (k : Int) < (n : Int) := by omega
      have hwk : wrap64 ((k : Int) + 1) = (k : Int) + 1 := by have := Hlen.out; unfold wrap64; omega
      obtain ⟨q, hq⟩ : ∃ q, l[k]? = some q := ⟨_, List.getElem?_eq_getElem (by have := Hn.out; omega)⟩
      have Htk : Hid (l.take (k + 1) = l.take k ++ [q]) := by show _ = _; rw [List.take_add_one, hq]; rfl
      obtain ⟨t, ht⟩ := HM.out q (List.mem_of_getElem? hq)
      obtain ⟨hTk, hpk⟩ := pass_keeps (l.take k) HT.out (fun x hx => HM.out x (List.mem_of_mem_take hx))
      obtain ⟨t', ht', hkd, hsame⟩ := hpk q t ht
      obtain ⟨g, rfl, hg0, hg1, hgc⟩ := HC.out k hkn
      have hcell : wr.cell? ⟨g, k, none⟩ = some (.int .i64 q) := by
        rw [World.cell?_of_block (a := ⟨g, k, none⟩) (HR.out.2.2.block g hg1 (fun e => by have := HW.out.lt g e; omega)), hgc, List.getElem?_map, hq]
        rfl
      have hkw := Kind_W HR.out.1 (HW.out.ok.at_wf ht)
      rw [show (M.pass (l.take k)).kindOf q = t'.kind by simp [WM.kindOf, ht']] at hkw
      have HK := (show Hid _ from hkw)
      have HTk := (show Hid (TW (M.pass (l.take k))) from hTk)
      have Ht' := (show Hid ((M.pass (l.take k)).at q = some t') from ht')
      clear hq ht hTk hpk ht' hkd hsame hgc hkw
      by_cases h16 : t'.kind = 16
      · have e16 : (t'.kind == 16) = true := by simpa using h16
        obtain ⟨h, tg, nn, h', c, rfl, hn', hh, hc⟩ := HTk.out q t' Ht'.out h16
        have hcw := count_W HR.out.1 Ht'.out hn' hh hc
        rw [← cnt_tap Ht'.out hn', ← WM.pass_snoc, ← Htk.out] at hcw
        have HCW := (show Hid _ from hcw)
        clear hcw hn' hh hc h16
        go_wp2_with fail
        refine Calls.mono HK.out ?_
        rintro e _ ⟨rfl, rfl⟩
        go_wp2_with fail
        refine Calls.mono HCW.out ?_
        rintro e w2 ⟨rfl, hW2, hk2⟩
        have HR2 : Hid (IsW w2 p (M.pass (l.take (k + 1))) F ∧ Keeps F w w2 ∧ Keeps F w1 w2) := ⟨hW2, HR.out.2.1.trans hk2 (fun _ _ h => h) (fun _ _ h => h), HR.out.2.2.trans hk2 (fun _ _ h => h) (fun _ _ h => h)⟩
        clear hW2 hk2 HR HCW HK
        go_wp2_with fail
        go_roundw
        case rel => exact ⟨k + 1, by rw [hwk]; go_num, by omega, HR2⟩
        case measure => rw [hwk]; exact meas_up hkn
      · have e16 : (t'.kind == 16) = false := by simpa using h16
        have HR2 : Hid (IsW wr p (M.pass (l.take (k + 1))) F ∧ Keeps F w wr ∧ Keeps F w1 wr) := by
          rw [Htk.out, WM.pass_snoc, cnt_not Ht'.out h16]
          exact HR.out
        clear h16 HR
        go_wp2_with fail
        refine Calls.mono HK.out ?_
        rintro e _ ⟨rfl, rfl⟩
        go_wp2_with fail
        go_roundw
        case rel => exact ⟨k + 1, by rw [hwk]; go_num, by omega, HR2⟩
        case measure => rw [hwk]; exact meas_up hkn
    · have hkz : ¬ (k : Int) < (n : Int) := by omega
      obtain rfl : k = n := by omega
      have HR2 : Hid (IsW wr p (M.pass l) F ∧ Keeps F w wr) := by
        have := HR.out
        rw [Hn.out, List.take_length] at this
        exact ⟨this.1, this.2.1⟩
      clear HR
      go_wp2_with fail
      go_ret
      exact ⟨rfl, HR2.out.1, HR2.out.2⟩
end Go.Proofs.YtmefjkggibbhoaaGreat
/- Facet. -/
namespace Go.Proofs.YtmefjkggibbhoaaGreat
open Go.RowKit Go.ChangeMaps Go.MapKept
variable {w : World} {p : Nat} {M : WM} {F : Nat → Prop}

set_option maxHeartbeats 1000000 in
set_option maxRecDepth 8000 in
theorem Facet_what (hW : IsW w p M F) {r s v : Int} {t : Th} (hr : (Lit.int .i64 r).wf = true) (ht : M.at r = some t) (hv : AbleIs M 63 r v) (hs : s = v) :
    Calls Tryz.prog 35 #[.pointer (some ⟨p, 0, none⟩), .int .i64 r, .int .u8 s] w fun e w' => e = .returned (.tuple #[.int .i64 0, .int .i64 70]) ∧ Below w.heap.size w w' := by
  subst hs
  have HW : Hid (IsW w p M F) := hW
  have Hv : Hid (AbleIs M 63 r s) := hv
  have hIs : (M.at r).isSome = true := by rw [ht]; rfl
  clear hW hv
  go_enter Tryz.func35, Tryz.ntmps35
  go_wp2_with fail
  refine (none_W HW.out).mono ?_
  rintro e _ ⟨rfl, rfl⟩
  go_wp2_with fail
  refine (Is_W HW.out hr).mono ?_
  rw [hIs]
  rintro e _ ⟨rfl, rfl⟩
  go_wp2_with fail
  refine (Able_W HW.out hr Hv.out).mono ?_
  rintro e w1 ⟨rfl, hb1⟩
  have HB : Hid (Below w.heap.size w w1) := hb1
  clear hb1
  go_wp2_with fail
  refine (Kind_W (HW.out.below HB.out) hr).mono ?_
  rintro e _ ⟨rfl, rfl⟩
  go_wp2_with fail
  all_goals (go_ret2; exact ⟨rfl, HB.out⟩)

/-- A facet. -/
abbrev ft (r s : Int) : Th := lt 14 0 0 0 0 0 r 0 s false

set_option maxHeartbeats 1000000 in
set_option maxRecDepth 8000 in
theorem Facet_there (hW : IsW w p M F) {r s v q : Int} {t : Th} (hr : (Lit.int .i64 r).wf = true) (hsw : (Lit.int .u8 s).wf = true) (ht : M.at r = some t) (h14 : t.kind ≠ 14) (hv : AbleIs M 63 r v) (hs : s ≠ v)
    (hand : bits BinOp.andNot .u8 s v = 0) (hf : M.find r s = some q) :
    Calls Tryz.prog 35 #[.pointer (some ⟨p, 0, none⟩), .int .i64 r, .int .u8 s] w fun e w' => e = .returned (.tuple #[.int .i64 q, .int .i64 0]) ∧ Below w.heap.size w w' := by
  have HW : Hid (IsW w p M F) := hW
  have Hv : Hid (AbleIs M 63 r v) := hv
  have hIs : (M.at r).isSome = true := by rw [ht]; rfl
  have hK : (M.kindOf r == 14) = false := by simp [WM.kindOf, ht, h14]
  have hsv : (s == v) = false := by simpa using hs
  have Hf : Hid (M.find r s = some q) := hf
  clear hW hv hf ht
  go_enter Tryz.func35, Tryz.ntmps35
  go_wp2_with fail
  refine (none_W HW.out).mono ?_
  rintro e _ ⟨rfl, rfl⟩
  go_wp2_with fail
  refine (Is_W HW.out hr).mono ?_
  rw [hIs]
  rintro e _ ⟨rfl, rfl⟩
  go_wp2_with fail
  refine (Able_W HW.out hr Hv.out).mono ?_
  rintro e w1 ⟨rfl, hb1⟩
  have HB : Hid (Below w.heap.size w w1) := hb1
  clear hb1
  go_wp2_with fail
  refine (Kind_W (HW.out.below HB.out) hr).mono ?_
  rintro e _ ⟨rfl, rfl⟩
  go_wp2_with fail
  refine (Find_W (HW.out.below HB.out) hr hsw).mono ?_
  rw [Hf.out]
  rintro e _ ⟨rfl, rfl⟩
  go_wp2_with fail
  go_ret2
  exact ⟨rfl, HB.out⟩

set_option maxHeartbeats 1000000 in
set_option maxRecDepth 8000 in
theorem Facet_new (hW : IsW w p M F) {r s v : Int} {t : Th} (hr : (Lit.int .i64 r).wf = true) (hsw : (Lit.int .u8 s).wf = true) (ht : M.at r = some t) (h14 : t.kind ≠ 14) (hv : AbleIs M 63 r v) (hs : s ≠ v)
    (hand : bits BinOp.andNot .u8 s v = 0) (hf : M.find r s = none) (hs0 : 0 ≤ s ∧ s ≤ 255) (hl : M.last + 1 ≤ 1099511627776) :
    Calls Tryz.prog 35 #[.pointer (some ⟨p, 0, none⟩), .int .i64 r, .int .u8 s] w fun e w' => e = .returned (.tuple #[.int .i64 (M.last + 1), .int .i64 0]) ∧ ∃ F', IsW w' p (M.add (ft r s)) F' ∧ Grew F w F' w' := by
  have a : AddOk M (ft r s) := {
    wf := ⟨⟨by show (1 : Int) ≤ 14; decide, by show (14 : Int) ≤ 16; decide⟩, hr, rfl, hs0⟩
    last := hl
    home := fun h => absurd rfl h
    made := fun h => absurd rfl h
    wrap := fun _ => ⟨t, ht⟩
    gate := fun h => absurd (show (14 : Int) = 15 from h) (by decide)
    purse := fun h => absurd (show (14 : Int) = 9 from h) (by decide)
    facet := fun _ => hf }
  have HA : Hid (AddOk M (ft r s)) := a
  have HW : Hid (IsW w p M F) := hW
  have Hv : Hid (AbleIs M 63 r v) := hv
  have hIs : (M.at r).isSome = true := by rw [ht]; rfl
  have hK : (M.kindOf r == 14) = false := by simp [WM.kindOf, ht, h14]
  have hsv : (s == v) = false := by simpa using hs
  have Hf : Hid (M.find r s = none) := hf
  clear hW hv hf ht a hl
  go_enter Tryz.func35, Tryz.ntmps35
  go_wp2_with fail
  refine (none_W HW.out).mono ?_
  rintro e _ ⟨rfl, rfl⟩
  go_wp2_with fail
  refine (Is_W HW.out hr).mono ?_
  rw [hIs]
  rintro e _ ⟨rfl, rfl⟩
  go_wp2_with fail
  refine (Able_W HW.out hr Hv.out).mono ?_
  rintro e w1 ⟨rfl, hb1⟩
  have HB : Hid (Below w.heap.size w w1) := hb1
  clear hb1
  go_wp2_with fail
  refine (Kind_W (HW.out.below HB.out) hr).mono ?_
  rintro e _ ⟨rfl, rfl⟩
  go_wp2_with fail
  refine (Find_W (HW.out.below HB.out) hr hsw).mono ?_
  rw [Hf.out]
  rintro e _ ⟨rfl, rfl⟩
  go_wp2_with fail
  refine (lay_W (HW.out.below HB.out) HA.out (deep_lt _ NoB _ _ _ _ _ _ _ _ _ _) (fun _ h => h.elim)).mono ?_
  rintro e w5 ⟨rfl, hW5, hk5⟩
  have HF : Hid (∃ F', IsW w5 p (M.add (ft r s)) F' ∧ Grew F w F' w5) := ⟨_, hW5, Below.keeps HB.out hk5, by
    have := HB.out.size
    rintro b ((h | h) | h)
    · exact .inl h
    · exact h.elim
    · right; omega⟩
  clear hW5 hk5
  go_wp2_with fail
  go_ret2
  exact ⟨rfl, HF.out⟩
end Go.Proofs.YtmefjkggibbhoaaGreat
/- Towers of taps, gates and facets: as plain data. -/
namespace Go.Proofs.YtmefjkggibbhoaaGreat
open Go.RowKit

/-- A tower l over a cell: each one stands before the one below it; the taps have tallies tl; at most B things were made. -/
structure Tw (M : WM) (l : List Int) (tl : Int → Int) (first : Int) (B : Nat) : Prop where
  base : M.at 1 = some (lt 1 0 0 0 0 0 0 0 0 false)
  head : l[0]? = some 1
  inc : l.Pairwise (· < ·)
  range : ∀ x ∈ l, x ≤ M.last
  chain : ∀ (j : Nat) (x y : Int), l[j]? = some x → l[j + 1]? = some y → ∃ t, M.at y = some t ∧ t.tgt = x ∧ ((t.kind = 16 ∧ t.bi = tl y ∧ tl y ≠ 0) ∨ ((t.kind = 14 ∧ t.set = 0 ∨ t.kind = 15) ∧ tl y = 0))
  tl0 : ∀ x, x ∉ l → tl x = 0
  tl1 : tl 1 = 0
  wraps : ∀ r t, M.at r = some t → wrapsB t.kind = true → r ∈ l
  tally : ∀ r t, M.at r = some t → t.kind = 3 → ∃ h, t = tallyT h 0
  taps : ∀ r t, M.at r = some t → t.kind = 16 → ∃ h tg n, t = tapT h tg n ∧ M.at n = some (tallyT h 0)
  lite : ∀ r t, M.at r = some t → Lite t
  mlen : M.made.length = 2
  room : M.made.getD 0 0 ≤ 1 + B ∧ M.made.getD 1 0 ≤ 1 + B
  last : M.last ≤ 1 + B
  llen : l.length ≤ 1 + B
  first : first = 0 ∨ M.at first = some (tallyT 0 0)

section
variable {M : WM} {l : List Int} {tl : Int → Int} {first : Int} {B : Nat}
theorem Tw.ne (h : Tw M l tl first B) : 0 < l.length := (List.getElem?_eq_some_iff.1 h.head).1
theorem Tw.top (h : Tw M l tl first B) : ∃ x, l[l.length - 1]? = some x ∧ x ∈ l := by
  have := h.ne
  exact ⟨l[l.length - 1], List.getElem?_eq_getElem (by omega), List.getElem_mem _⟩
theorem Tw.at (h : Tw M l tl first B) {j : Nat} {x : Int} (hj : l[j]? = some x) : ∃ t, M.at x = some t := by
  match j with
  | 0 =>
    rw [h.head] at hj
    cases hj
    exact ⟨_, h.base⟩
  | j + 1 =>
    have hlt := (List.getElem?_eq_some_iff.1 hj).1
    obtain ⟨t, ht, -⟩ := h.chain j l[j] x (List.getElem?_eq_getElem (by omega)) hj
    exact ⟨t, ht⟩
theorem Tw.able (h : Tw M l tl first B) : ∀ (j : Nat) (x : Int), l[j]? = some x → ∃ v, AbleIs M 63 x v ∧ (v = 0 ∨ v = 3) ∧ AbleIs M 0 x 0
  | 0, x, hj => by
    rw [h.head] at hj
    cases hj
    exact ⟨3, AbleIs.mk_base h.base (by decide) (by decide), .inr rfl, AbleIs.mk_base h.base (by decide) (by decide)⟩
  | j + 1, x, hj => by
    have hlt := (List.getElem?_eq_some_iff.1 hj).1
    obtain ⟨v, h1, h2, h3⟩ := h.able j l[j] (List.getElem?_eq_getElem (by omega))
    obtain ⟨t, ht, htg, hc⟩ := h.chain j l[j] x (List.getElem?_eq_getElem (by omega)) hj
    rw [← htg] at h1 h3
    rcases hc with ⟨hk, -⟩ | ⟨⟨hk, hs⟩ | hk, -⟩
    · exact ⟨v, AbleIs.mk_wrap ht (.inr hk) h1, h2, AbleIs.mk_wrap ht (.inr hk) h3⟩
    · refine ⟨0, AbleIs.mk_facet ht hk ?_, .inl rfl, AbleIs.mk_facet ht hk ?_⟩
      · rw [hs]
        exact h3
      · rw [hs]
        exact h3
    · exact ⟨v, AbleIs.mk_wrap ht (.inl hk) h1, h2, AbleIs.mk_wrap ht (.inl hk) h3⟩
theorem Tw.way (h : Tw M l tl first B) : ∀ (j : Nat) (x : Int), l[j]? = some x → WayIs M x (l.take (j + 1)).reverse
  | 0, x, hj => by
    rw [h.head] at hj
    cases hj
    have : l.take 1 = [1] := by
      rw [List.take_add_one, h.head]
      rfl
    rw [this]
    exact WayIs.mk_base h.base rfl
  | j + 1, x, hj => by
    have hlt := (List.getElem?_eq_some_iff.1 hj).1
    have ih := h.way j l[j] (List.getElem?_eq_getElem (by omega))
    obtain ⟨t, ht, htg, hc⟩ := h.chain j l[j] x (List.getElem?_eq_getElem (by omega)) hj
    rw [← htg] at ih
    have hw : wrapsB t.kind = true := by
      rcases hc with ⟨hk, -⟩ | ⟨⟨hk, hs⟩ | hk, -⟩ <;> rw [hk] <;> rfl
    rw [List.take_add_one, hj]
    simp only [Option.toList_some, List.reverse_append, List.reverse_cons, List.reverse_nil, List.nil_append, List.singleton_append]
    exact WayIs.mk_wrap ht hw ih
theorem Tw.tw (h : Tw M l tl first B) (hM : M.ok) : TW M := fun r t ht hk => by
  obtain ⟨hh, tg, n, rfl, hn⟩ := h.taps r t ht hk
  exact ⟨hh, tg, n, hh, 0, rfl, hn, hM.homes _ _ hn (show ¬ ((3 : Int) = 14) by decide), by decide, by decide⟩
theorem Tw.more (h : Tw M l tl first B) {B' : Nat} (hB : B ≤ B') : Tw M l tl first B' :=
  { h with room := ⟨by have := h.room.1; omega, by have := h.room.2; omega⟩, last := by have := h.last; omega, llen := by have := h.llen; omega }
theorem made_le {B : Nat} (h1 : M.made.getD 0 0 ≤ 1 + B ∧ M.made.getD 1 0 ≤ 1 + B) (t : Th) : (M.add t).made.getD 0 0 ≤ 1 + (B + 1 : Nat) ∧ (M.add t).made.getD 1 0 ≤ 1 + (B + 1 : Nat) := by
  have key : ∀ j : Nat, j = 0 ∨ j = 1 → (M.add t).made.getD j 0 ≤ 1 + (B + 1 : Nat) := fun j hj => by
    have hj' : M.made.getD j 0 ≤ 1 + B := by rcases hj with rfl | rfl; exact h1.1; exact h1.2
    show (if t.kind = 14 then M.made else M.made.set t.home.toNat (M.made.getD t.home.toNat 0 + 1)).getD j 0 ≤ _
    split
    · omega
    · rw [List.getD_eq_getElem?_getD, List.getElem?_set]
      split
      · rename_i e
        split
        · rw [e]
          simp only [Option.getD_some]
          omega
        · simp
          omega
      · rw [← List.getD_eq_getElem?_getD]
        omega
  exact ⟨key 0 (.inl rfl), key 1 (.inr rfl)⟩
/-- Something more that is no wrapper: a tally of nothing, or a switch. -/
theorem Tw.aux (hM : M.ok) (h : Tw M l tl first B) {t : Th} (hk : t.kind = 13 ∨ ∃ hh, t = tallyT hh 0) (hl : Lite t) : Tw (M.add t) l tl first (B + 1) where
  base := WM.add_at_old hM _ h.base
  head := h.head
  inc := h.inc
  range x hx := by
    have := h.range x hx
    show x ≤ M.last + 1
    omega
  chain j x y hx hy := by
    obtain ⟨u, hu, r⟩ := h.chain j x y hx hy
    exact ⟨u, WM.add_at_old hM _ hu, r⟩
  tl0 := h.tl0
  tl1 := h.tl1
  wraps r u hu hw := by
    rw [WM.add_at hM] at hu
    split at hu
    · cases hu
      rcases hk with hk | ⟨hh, rfl⟩
      · rw [hk] at hw; cases hw
      · cases hw
    · exact h.wraps r u hu hw
  tally r u hu hku := by
    rw [WM.add_at hM] at hu
    split at hu
    · cases hu
      rcases hk with hk | ⟨hh, rfl⟩
      · rw [hk] at hku; cases hku
      · exact ⟨hh, rfl⟩
    · exact h.tally r u hu hku
  taps r u hu hku := by
    rw [WM.add_at hM] at hu
    split at hu
    · cases hu
      rcases hk with hk | ⟨hh, rfl⟩
      · rw [hk] at hku; cases hku
      · cases hku
    · obtain ⟨hh, tg, n, e, hn⟩ := h.taps r u hu hku
      exact ⟨hh, tg, n, e, WM.add_at_old hM _ hn⟩
  lite r u hu := by
    rw [WM.add_at hM] at hu
    split at hu
    · cases hu; exact hl
    · exact h.lite r u hu
  mlen := (made_len M _).trans h.mlen
  room := made_le h.room t
  last := by
    have := h.last
    show M.last + 1 ≤ _
    omega
  llen := by have := h.llen; omega
  first := by
    rcases h.first with e | e
    · exact .inl e
    · exact .inr (WM.add_at_old hM _ e)
/-- One wrapper more on top. -/
theorem Tw.wrap (hM : M.ok) (h : Tw M l tl first B) {t : Th} {x tly : Int} (htop : l[l.length - 1]? = some x) (htg : t.tgt = x)
    (hc : (t.kind = 16 ∧ t.bi = tly ∧ tly ≠ 0 ∧ ∃ hh, t = tapT hh x tly ∧ M.at tly = some (tallyT hh 0)) ∨ ((t.kind = 14 ∧ t.set = 0 ∨ t.kind = 15) ∧ tly = 0)) (hl : Lite t) :
    Tw (M.add t) (l ++ [M.last + 1]) (fun r => if r = M.last + 1 then tly else tl r) first (B + 1) where
  base := WM.add_at_old hM _ h.base
  head := by
    rw [List.getElem?_append_left h.ne]
    exact h.head
  inc := by
    rw [List.pairwise_append]
    refine ⟨h.inc, by simp, fun a ha b hb => ?_⟩
    simp at hb
    have := h.range a ha
    omega
  range y hy := by
    show y ≤ M.last + 1
    rcases List.mem_append.1 hy with hy | hy
    · have := h.range y hy
      omega
    · simp at hy
      omega
  chain j a y hx hy := by
    have hne := h.ne
    by_cases hj : j + 1 < l.length
    · rw [List.getElem?_append_left (by omega)] at hx hy
      obtain ⟨u, hu, h1, h2⟩ := h.chain j a y hx hy
      have hyn : y ≠ M.last + 1 := by
        have := h.range y (List.mem_of_getElem? hy)
        omega
      refine ⟨u, WM.add_at_old hM _ hu, h1, ?_⟩
      simp only [if_neg hyn]
      exact h2
    · have hlt := (List.getElem?_eq_some_iff.1 hy).1
      simp at hlt
      obtain rfl : j = l.length - 1 := by omega
      rw [List.getElem?_append_left (by omega), htop] at hx
      cases hx
      rw [show l.length - 1 + 1 = l.length by omega, List.getElem?_append_right (Nat.le_refl _)] at hy
      simp at hy
      subst hy
      refine ⟨t, WM.add_at_new hM _, htg, ?_⟩
      simp only [if_true]
      rcases hc with ⟨h1, h2, h3, -⟩ | ⟨h1, h2⟩
      · exact .inl ⟨h1, h2, h3⟩
      · exact .inr ⟨h1, h2⟩
  tl0 y hy := by
    have h1 : y ∉ l := fun e => hy (by simp [e])
    have h2 : y ≠ M.last + 1 := fun e => hy (by simp [e])
    simp only [if_neg h2]
    exact h.tl0 y h1
  tl1 := by
    have := h.range 1 (List.mem_of_getElem? h.head)
    simp only [if_neg (show ¬ (1 : Int) = M.last + 1 by omega)]
    exact h.tl1
  wraps r u hu hw := by
    rw [WM.add_at hM] at hu
    split at hu
    · rename_i e
      simp [e]
    · simp [h.wraps r u hu hw]
  tally r u hu hku := by
    rw [WM.add_at hM] at hu
    split at hu
    · cases hu
      rcases hc with ⟨h1, -⟩ | ⟨⟨h1, -⟩ | h1, -⟩ <;> rw [h1] at hku <;> cases hku
    · exact h.tally r u hu hku
  taps r u hu hku := by
    rw [WM.add_at hM] at hu
    split at hu
    · cases hu
      rcases hc with ⟨-, -, -, hh, e, hn⟩ | ⟨⟨h1, -⟩ | h1, -⟩
      · exact ⟨hh, x, tly, e, WM.add_at_old hM _ hn⟩
      · rw [h1] at hku; cases hku
      · rw [h1] at hku; cases hku
    · obtain ⟨hh, tg, n, e, hn⟩ := h.taps r u hu hku
      exact ⟨hh, tg, n, e, WM.add_at_old hM _ hn⟩
  lite r u hu := by
    rw [WM.add_at hM] at hu
    split at hu
    · cases hu; exact hl
    · exact h.lite r u hu
  mlen := (made_len M _).trans h.mlen
  room := made_le h.room t
  last := by
    have := h.last
    show M.last + 1 ≤ _
    omega
  llen := by have := h.llen; simp; omega
  first := by
    rcases h.first with e | e
    · exact .inl e
    · exact .inr (WM.add_at_old hM _ e)
/-- A switch's gate is written down. -/
theorem Tw.switch (h : Tw M l tl first B) {s g : Int} {u : Th} (hs : M.at s = some u) (hk : u.kind = 13) (hl : Lite { u with tgt := g }) : Tw (M.set s { u with tgt := g }) l tl first B where
  base := by
    rw [WM.set_at_ne _ _ (fun e => by subst e; rw [h.base] at hs; cases hs; cases hk)]
    exact h.base
  head := h.head
  inc := h.inc
  range := h.range
  chain j x y hx hy := by
    obtain ⟨v, hv, h1, h2⟩ := h.chain j x y hx hy
    have : y ≠ s := fun e => by
      subst e
      rw [hs] at hv
      cases hv
      rcases h2 with ⟨h3, -⟩ | ⟨⟨h3, -⟩ | h3, -⟩ <;> rw [hk] at h3 <;> cases h3
    exact ⟨v, by rw [WM.set_at_ne _ _ this]; exact hv, h1, h2⟩
  tl0 := h.tl0
  tl1 := h.tl1
  wraps r v hv hw := by
    rcases WM.set_at_some hv with ⟨rfl, rfl, -⟩ | ⟨-, hv⟩
    · rw [show ({ u with tgt := g } : Th).kind = 13 from hk] at hw; cases hw
    · exact h.wraps r v hv hw
  tally r v hv hw := by
    rcases WM.set_at_some hv with ⟨rfl, rfl, -⟩ | ⟨-, hv⟩
    · rw [show ({ u with tgt := g } : Th).kind = 13 from hk] at hw; cases hw
    · exact h.tally r v hv hw
  taps r v hv hw := by
    rcases WM.set_at_some hv with ⟨rfl, rfl, -⟩ | ⟨-, hv⟩
    · rw [show ({ u with tgt := g } : Th).kind = 13 from hk] at hw; cases hw
    · obtain ⟨hh, tg, n, e, hn⟩ := h.taps r v hv hw
      refine ⟨hh, tg, n, e, ?_⟩
      rw [WM.set_at_ne _ _ (fun e' => by subst e'; rw [hs] at hn; cases hn; cases hk)]
      exact hn
  lite r v hv := by
    rcases WM.set_at_some hv with ⟨rfl, rfl, -⟩ | ⟨-, hv⟩
    · exact hl
    · exact h.lite r v hv
  mlen := h.mlen
  room := h.room
  last := h.last
  llen := h.llen
  first := by
    rcases h.first with e | e
    · exact .inl e
    · refine .inr ?_
      rw [WM.set_at_ne _ _ (fun e' => by subst e'; rw [hs] at e; cases e; cases hk)]
      exact e
/-- Nobody stands before the one on top. -/
theorem Tw.free (hM : M.ok) (h : Tw M l tl first B) {x s : Int} (htop : l[l.length - 1]? = some x) : M.find x s = none := by
  cases hf : M.find x s with
  | none => rfl
  | some r =>
    exfalso
    obtain ⟨u, hu, hk, htg, -⟩ := WM.find_at hM hf
    have hr := h.wraps r u hu (by rw [hk]; rfl)
    obtain ⟨j, hj, e⟩ := List.getElem_of_mem hr
    have hj' : l[j]? = some r := by rw [List.getElem?_eq_getElem hj, e]
    match j, hj, hj' with
    | 0, _, hj' =>
      rw [h.head] at hj'
      cases hj'
      rw [h.base] at hu
      cases hu
      cases hk
    | j + 1, hj, hj' =>
      obtain ⟨v, hv, hvt, -⟩ := h.chain j l[j] r (List.getElem?_eq_getElem (by omega)) hj'
      rw [hu] at hv
      cases hv
      rw [htg] at hvt
      have h1 := List.pairwise_iff_getElem.1 h.inc j (l.length - 1) (by omega) (by omega) (by omega)
      have h2 : l[l.length - 1] = x := by
        rw [List.getElem?_eq_getElem (by omega)] at htop
        exact Option.some.inj htop
      omega
end
theorem Tw.start : Tw ((WM.new [0]).add (lt 1 0 0 0 0 0 0 0 0 false)) [1] (fun _ => 0) 0 0 where
  base := rfl
  head := rfl
  inc := by simp
  range x hx := by
    simp at hx
    subst hx
    decide
  chain j x y hx hy := by simp at hy
  tl0 _ _ := rfl
  tl1 := rfl
  wraps r t ht hw := by
    have := at_mem ht
    rw [show ((WM.new [0]).add (lt 1 0 0 0 0 0 0 0 0 false)).things = [(1, lt 1 0 0 0 0 0 0 0 0 false)] from rfl] at this
    simp only [List.mem_cons, List.not_mem_nil, or_false, Prod.mk.injEq] at this
    obtain ⟨-, rfl⟩ := this
    cases hw
  tally r t ht hk := by
    have := at_mem ht
    rw [show ((WM.new [0]).add (lt 1 0 0 0 0 0 0 0 0 false)).things = [(1, lt 1 0 0 0 0 0 0 0 0 false)] from rfl] at this
    simp only [List.mem_cons, List.not_mem_nil, or_false, Prod.mk.injEq] at this
    obtain ⟨-, rfl⟩ := this
    cases hk
  taps r t ht hk := by
    have := at_mem ht
    rw [show ((WM.new [0]).add (lt 1 0 0 0 0 0 0 0 0 false)).things = [(1, lt 1 0 0 0 0 0 0 0 0 false)] from rfl] at this
    simp only [List.mem_cons, List.not_mem_nil, or_false, Prod.mk.injEq] at this
    obtain ⟨-, rfl⟩ := this
    cases hk
  lite r t ht := by
    have := at_mem ht
    rw [show ((WM.new [0]).add (lt 1 0 0 0 0 0 0 0 0 false)).things = [(1, lt 1 0 0 0 0 0 0 0 0 false)] from rfl] at this
    simp only [List.mem_cons, List.not_mem_nil, or_false, Prod.mk.injEq] at this
    obtain ⟨-, rfl⟩ := this
    exact ⟨_, _, _, _, _, _, _, _, _, _, rfl, plain0⟩
  mlen := rfl
  room := ⟨by decide, by decide⟩
  last := by decide
  llen := by decide
  first := .inl rfl
end Go.Proofs.YtmefjkggibbhoaaGreat
