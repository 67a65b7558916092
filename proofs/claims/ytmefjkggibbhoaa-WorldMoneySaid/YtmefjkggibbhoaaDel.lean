/- Plain laws on a world as data: many things go at once. -/
import Derived.Test.YtmefjkggibbhoaaSet
set_option linter.unusedSimpArgs false
namespace Go.Proofs.Ytmefjkggibbhoaa
open Go.RowKit Go.ChangeMaps Go.MapKept

theorem lookup_filter_key (p : Int → Bool) (l : List (Int × Th)) (q : Int) : (l.filter fun x => p x.1).lookup q = if p q then l.lookup q else none := by
  induction l with
  | nil => simp
  | cons x l ih =>
    obtain ⟨a, b⟩ := x
    rw [List.filter_cons]
    by_cases ha : p a = true
    · simp only [ha, ↓reduceIte, List.lookup_cons, ih]
      by_cases e : q = a
      · subst e; simp [ha]
      · simp [show (q == a) = false by simpa using e]
    · simp only [ha, ↓reduceIte, List.lookup_cons, ih, Bool.false_eq_true]
      by_cases e : q = a
      · subst e; simp [ha]
      · simp [show (q == a) = false by simpa using e]

/-- The things of l go. -/
def WM.delL (M : WM) (l : List Int) : WM := { M with things := M.things.filter fun x => decide (x.1 ∉ l) }
theorem WM.delL_nil (M : WM) : M.delL [] = M := by
  unfold WM.delL
  rw [List.filter_eq_self.2 fun x _ => by simp]
theorem WM.delL_snoc (M : WM) (l : List Int) (r : Int) : M.delL (l ++ [r]) = (M.delL l).del r := by
  unfold WM.delL WM.del
  simp only [List.filter_filter, WM.mk.injEq, true_and, and_true]
  congr 1
  funext x
  by_cases h1 : x.1 ∈ l <;> by_cases h2 : x.1 = r <;> simp [h1, h2]
theorem WM.delL_at (M : WM) (l : List Int) (q : Int) : (M.delL l).at q = if q ∈ l then none else M.at q := by
  have := lookup_filter_key (fun q => decide (q ∉ l)) M.things q
  show (M.things.filter fun x => decide (x.1 ∉ l)).lookup q = _
  rw [this]
  by_cases h : q ∈ l <;> simp [h, WM.at]
theorem WM.delL_at_some {M : WM} {l : List Int} {q : Int} {v : Th} (h : (M.delL l).at q = some v) : q ∉ l ∧ M.at q = some v := by
  rw [WM.delL_at] at h
  split at h
  · cases h
  · exact ⟨by assumption, h⟩
theorem WM.delL_congr (M : WM) {l l' : List Int} (h : ∀ x, x ∈ l ↔ x ∈ l') : M.delL l = M.delL l' := by
  unfold WM.delL
  simp only [h]

/-- Somebody who stays leans on one that goes. -/
def Lean' (M : WM) (l : List Int) : Prop := ∃ q t, M.at q = some t ∧ q ∉ l ∧ ((t.kind ≠ 13 ∧ t.tgt ∈ l) ∨ t.bi ∈ l)

theorem WM.delL_ok {M : WM} {l : List Int} (hM : M.ok) (h : ¬ Lean' M l) : (M.delL l).ok where
  sides := hM.sides
  cuts := hM.cuts
  made := hM.made
  tree := hM.tree
  keys := hM.keys.sublist List.filter_sublist
  range x hx := hM.range x (List.mem_filter.1 hx).1
  last := hM.last
  mades := hM.mades
  wf q v hv := hM.wf q v (WM.delL_at_some hv).2
  homes q v hv hk := hM.homes q v (WM.delL_at_some hv).2 hk
  wrap := by
    obtain ⟨rk, h1, h2⟩ := hM.wrap
    refine ⟨rk, h1, fun q v hv hw => ?_⟩
    obtain ⟨hq, hv⟩ := WM.delL_at_some hv
    obtain ⟨⟨x, hx⟩, h4⟩ := h2 q v hv hw
    have : v.tgt ∉ l := fun e => h ⟨q, v, hv, hq, .inl ⟨(by rintro e; rw [e] at hw; cases hw), e⟩⟩
    exact ⟨⟨x, by rw [WM.delL_at, if_neg this, hx]⟩, h4⟩
  gate q v hv hk := by
    obtain ⟨hq, hv⟩ := WM.delL_at_some hv
    obtain ⟨x, hx, h4⟩ := hM.gate q v hv hk
    exact ⟨x, by rw [WM.delL_at, if_neg (fun e => h ⟨q, v, hv, hq, .inr e⟩), hx], h4⟩
  purse q v hv hk := by
    obtain ⟨hq, hv⟩ := WM.delL_at_some hv
    obtain ⟨x, hx, h4⟩ := hM.purse q v hv hk
    exact ⟨x, by rw [WM.delL_at, if_neg (fun e => h ⟨q, v, hv, hq, .inl ⟨by rw [hk]; decide, e⟩⟩), hx], h4⟩
  facet q v q' v' hv hv' k k' e1 e2 := hM.facet q v q' v' (WM.delL_at_some hv).2 (WM.delL_at_some hv').2 k k' e1 e2

theorem find_filter_key (p : Int → Bool) (P : Int × Th → Bool) : ∀ (l : List (Int × Th)), (∀ x ∈ l, p x.1 = false → P x = false) → (l.filter fun x => p x.1).find? P = l.find? P
  | [], _ => rfl
  | x :: l, h => by
    have ih := find_filter_key p P l fun y hy => h y (by simp [hy])
    have hx := h x (by simp)
    rw [List.filter_cons, List.find?_cons]
    by_cases e : p x.1 = true
    · rw [if_pos e, List.find?_cons, ih]
    · rw [if_neg e, hx (by simpa using e)]
      exact ih
theorem WM.delL_find {M : WM} {l : List Int} (hM : M.ok) (hk : ∀ r t, M.at r = some t → t.kind ≠ 14) (a b : Int) : (M.delL l).find a b = M.find a b := by
  unfold WM.find
  show ((M.things.filter fun x => decide (x.1 ∉ l)).find? _).map _ = _
  have := find_filter_key (fun q => decide (q ∉ l)) (fun x => x.2.kind == 14 && x.2.tgt == a && x.2.set == b) M.things (fun x hx _ => by
    have := hk x.1 x.2 (hM.at_of_mem hx)
    simp [this])
  rw [this]
theorem filter_len {l : List (Int × Th)} (hk : l.Pairwise (fun x y => x.1 < y.1)) {r : Int} {t : Th} (hm : (r, t) ∈ l) : (l.filter fun x => decide (x.1 ≠ r)).length + 1 = l.length := by
  induction l with
  | nil => cases hm
  | cons x l ih =>
    obtain ⟨h1, h2⟩ := List.pairwise_cons.1 hk
    rw [List.filter_cons]
    rcases List.mem_cons.1 hm with e | e
    · have hx : x.1 = r := by rw [← e]
      have hall : l.filter (fun y => decide (y.1 ≠ r)) = l := List.filter_eq_self.2 fun y hy => by
        have := h1 y hy
        simp only [ne_eq, decide_not, Bool.not_eq_eq_eq_not, Bool.not_true, decide_eq_false_iff_not]
        omega
      simp only [hx, ne_eq, not_true_eq_false, decide_false, Bool.false_eq_true, ↓reduceIte]
      rw [hall]
      rfl
    · have hx : ¬ x.1 = r := by
        have := h1 _ e
        simp only at this
        omega
      simp only [ne_eq, hx, not_false_eq_true, decide_true, ↓reduceIte, List.length_cons]
      have := ih h2 e
      simp only [ne_eq] at this
      omega
theorem WM.delL_len {M : WM} (hM : M.ok) (l : List Int) (r : Int) : (M.delL (l ++ [r])).things.length = if ((M.delL l).at r).isSome then (M.delL l).things.length - 1 else (M.delL l).things.length := by
  rw [WM.delL_snoc]
  cases h : (M.delL l).at r with
  | none =>
    simp only [Option.isSome_none, Bool.false_eq_true, ↓reduceIte]
    show ((M.delL l).things.filter _).length = _
    rw [List.filter_eq_self.2]
    intro x hx
    have hk : (M.delL l).things.Pairwise (fun x y => x.1 < y.1) := hM.keys.sublist List.filter_sublist
    have h3 : (M.delL l).at x.1 = some x.2 := lookup_of_mem hk hx
    simp only [decide_not, Bool.not_eq_eq_eq_not, Bool.not_true, decide_eq_false_iff_not, ne_eq]
    intro e
    rw [e, h] at h3
    cases h3
  | some t =>
    simp only [Option.isSome_some, ↓reduceIte]
    have hk : (M.delL l).things.Pairwise (fun x y => x.1 < y.1) := hM.keys.sublist List.filter_sublist
    have := filter_len hk (at_mem h)
    show ((M.delL l).things.filter _).length = _
    omega

/-- What the going of r does to those that stay: a purse's money stands in its mint's Lost, a gate's switch is free. -/
def WM.gone1 (l : List Int) (M : WM) (r : Int) : WM :=
  match M.at r with
  | some t =>
    if t.kind = 9 then (if t.tgt ∈ l then M else match M.at t.tgt with | some m => M.set t.tgt { m with lost := min m.n (wrap64 (m.lost + t.n)) } | none => M)
    else if t.kind = 15 then (if t.bi ∈ l then M else match M.at t.bi with | some s => M.set t.bi { s with tgt := 0 } | none => M)
    else M
  | none => M
theorem WM.gone1_cases {M : WM} (hM : M.ok) (l : List Int) (r : Int) : M.gone1 l r = M ∨ ∃ q u t, SetOk M q u t ∧ q ∉ l ∧ M.gone1 l r = M.set q t := by
  unfold WM.gone1
  split
  · rename_i t ht
    split
    · split
      · exact .inl rfl
      · rename_i hl
        split
        · rename_i m hm
          refine .inr ⟨_, m, _, ?_, hl, rfl⟩
          exact ⟨hm, rfl, rfl, fun _ => rfl, (hM.wf _ _ hm).tgt, rfl, rfl⟩
        · exact .inl rfl
    · split
      · rename_i h15
        split
        · exact .inl rfl
        · rename_i hl
          split
          · rename_i s hs
            obtain ⟨u, hu, hk⟩ := hM.gate r t ht h15
            rw [hs] at hu
            cases hu
            refine .inr ⟨_, s, _, ?_, hl, rfl⟩
            exact ⟨hs, rfl, rfl, fun h => absurd hk h, rfl, rfl, rfl⟩
          · exact .inl rfl
      · exact .inl rfl
  · exact .inl rfl
theorem WM.gone1_ok {M : WM} (hM : M.ok) (l : List Int) (r : Int) : (M.gone1 l r).ok := by
  rcases WM.gone1_cases hM l r with h | ⟨q, u, t, h, -, e⟩
  · rw [h]; exact hM
  · rw [e]; exact WM.set_ok hM h
theorem lean_set {M : WM} {r : Int} {u t : Th} {l : List Int} (h : SetOk M r u t) : Lean' (M.set r t) l → Lean' M l := by
  rintro ⟨q, v, hv, hq, hc⟩
  rcases WM.set_at_some hv with ⟨rfl, rfl, -⟩ | ⟨-, hv⟩
  · refine ⟨q, u, h.was, hq, ?_⟩
    rcases hc with ⟨hk, ht⟩ | hb
    · left
      rw [← h.kind, ← h.tgt hk]
      exact ⟨hk, ht⟩
    · right
      rw [← h.bi]
      exact hb
  · exact ⟨q, v, hv, hq, hc⟩
theorem WM.gone1_lean {M : WM} (hM : M.ok) {l : List Int} {r : Int} (h : ¬ Lean' M l) : ¬ Lean' (M.gone1 l r) l := by
  rcases WM.gone1_cases hM l r with e | ⟨q, u, t, hs, -, e⟩
  · rw [e]; exact h
  · rw [e]; exact fun h' => h (lean_set hs h')
theorem WM.gone1_kind {M : WM} (hM : M.ok) {l : List Int} {r : Int} (h : ∀ q t, M.at q = some t → t.kind ≠ 14) : ∀ q t, (M.gone1 l r).at q = some t → t.kind ≠ 14 := by
  rcases WM.gone1_cases hM l r with e | ⟨q, u, t, hs, -, e⟩
  · rw [e]; exact h
  · rw [e]
    intro q' v hv
    rcases WM.set_at_some hv with ⟨rfl, rfl, -⟩ | ⟨-, hv⟩
    · rw [hs.kind]; exact h _ _ hs.was
    · exact h _ _ hv
/-- Those that go stay as they were till they go. -/
theorem WM.gone1_at {M : WM} (hM : M.ok) {l : List Int} {r q : Int} (hq : q ∈ l) : (M.gone1 l r).at q = M.at q := by
  rcases WM.gone1_cases hM l r with e | ⟨q', u, t, hs, hl, e⟩
  · rw [e]
  · rw [e, WM.set_at_ne]
    exact fun h => hl (h ▸ hq)
end Go.Proofs.Ytmefjkggibbhoaa
