/- Plain laws on a world as data: a thing more, a thing that turns. -/
import Derived.Test.YtifmifjbebpomaaGreatDoorRep
set_option linter.unusedSimpArgs false
namespace Go.Proofs.YtifmifjbebpomaaGreatDoor

theorem lookup_eq_some_mem {l : List (Int × Th)} {r : Int} {t : Th} (h : l.lookup r = some t) : (r, t) ∈ l := by
  induction l with
  | nil => cases h
  | cons x l ih =>
    obtain ⟨a, b⟩ := x
    rw [List.lookup_cons] at h
    by_cases e : r == a
    · rw [e] at h
      cases h
      have : r = a := by simpa using e
      subst this
      simp
    · rw [show (r == a) = false by simpa using e] at h
      exact List.mem_cons_of_mem _ (ih h)
theorem lookup_of_mem {l : List (Int × Th)} (hs : l.Pairwise (fun x y => x.1 < y.1)) {r : Int} {t : Th} (h : (r, t) ∈ l) : l.lookup r = some t := by
  induction l with
  | nil => cases h
  | cons x l ih =>
    obtain ⟨a, b⟩ := x
    obtain ⟨h1, h2⟩ := List.pairwise_cons.1 hs
    rw [List.lookup_cons]
    rcases List.mem_cons.1 h with e | e
    · cases e
      simp
    · have := h1 _ e
      have e2 : (r == a) = false := by simp; simp only at this; omega
      rw [e2]
      exact ih h2 e
theorem at_mem {M : WM} {r : Int} {t : Th} (h : M.at r = some t) : (r, t) ∈ M.things := lookup_eq_some_mem h
theorem WM.ok.at_of_mem {M : WM} (h : M.ok) {r : Int} {t : Th} (hm : (r, t) ∈ M.things) : M.at r = some t := lookup_of_mem h.keys hm
theorem WM.ok.at_range {M : WM} (h : M.ok) {r : Int} {t : Th} (hm : M.at r = some t) : 0 < r ∧ r ≤ M.last := h.range _ (at_mem hm)
theorem WM.ok.at_wf {M : WM} (h : M.ok) {r : Int} {t : Th} (hm : M.at r = some t) : (Lit.int .i64 r).wf = true := by
  have := h.at_range hm
  have := h.last
  exact WalkArith.wf_i64 (by omega)
theorem WM.ok.none_above {M : WM} (h : M.ok) {r : Int} (hr : M.last < r) : M.at r = none := by
  cases hm : M.at r with
  | none => rfl
  | some t => have := h.at_range hm; omega
theorem WM.ok.none_zero {M : WM} (h : M.ok) : M.at 0 = none := by
  cases hm : M.at 0 with
  | none => rfl
  | some t => have := h.at_range hm; omega

/-- One thing more. -/
def WM.add (M : WM) (t : Th) : WM :=
  { M with things := M.things ++ [(M.last + 1, t)], last := M.last + 1, made := if t.kind = 14 then M.made else M.made.set t.home.toNat (M.made.getD t.home.toNat 0 + 1) }

theorem lookup_append' (l : List (Int × Th)) (k : Int) (t : Th) (r : Int) : (l ++ [(k, t)]).lookup r = (l.lookup r).or (if r = k then some t else none) := by
  induction l with
  | nil =>
    by_cases e : r = k
    · subst e; simp
    · simp [e, List.lookup_cons, show (r == k) = false by simpa using e]
  | cons x l ih =>
    obtain ⟨a, b⟩ := x
    rw [List.cons_append, List.lookup_cons, List.lookup_cons]
    by_cases e : r == a
    · rw [e]; rfl
    · rw [show (r == a) = false by simpa using e]
      exact ih
theorem WM.add_at {M : WM} (h : M.ok) (t : Th) (r : Int) : (M.add t).at r = if r = M.last + 1 then some t else M.at r := by
  show (M.things ++ [(M.last + 1, t)]).lookup r = _
  rw [lookup_append']
  by_cases e : r = M.last + 1
  · subst e
    have := h.none_above (r := M.last + 1) (by omega)
    have e1 : M.things.lookup (M.last + 1) = none := this
    rw [e1]
    simp
  · simp [e, WM.at]
theorem WM.add_at_old {M : WM} (h : M.ok) (t : Th) {r : Int} {u : Th} (hr : M.at r = some u) : (M.add t).at r = some u := by
  rw [WM.add_at h, if_neg (by have := h.at_range hr; omega), hr]
theorem WM.add_at_new {M : WM} (h : M.ok) (t : Th) : (M.add t).at (M.last + 1) = some t := by rw [WM.add_at h, if_pos rfl]

theorem find_append_not {l : List (Int × Th)} {k : Int} {t : Th} {a b : Int} (hk : t.kind ≠ 14) : ((l ++ [(k, t)]).find? (fun x => x.2.kind == 14 && x.2.tgt == a && x.2.set == b)) = l.find? (fun x => x.2.kind == 14 && x.2.tgt == a && x.2.set == b) := by
  rw [List.find?_append]
  have : ([(k, t)] : List (Int × Th)).find? (fun x => x.2.kind == 14 && x.2.tgt == a && x.2.set == b) = none := by
    simp [hk]
  rw [this]
  simp
theorem WM.add_find_not {M : WM} {t : Th} (hk : t.kind ≠ 14) (a b : Int) : (M.add t).find a b = M.find a b := by
  show ((M.things ++ [(M.last + 1, t)]).find? _).map _ = _
  rw [find_append_not hk]
  rfl
theorem WM.add_find_facet {M : WM} {t : Th} (hk : t.kind = 14) (hn : M.find t.tgt t.set = none) (a b : Int) : (M.add t).find a b = if a = t.tgt ∧ b = t.set then some (M.last + 1) else M.find a b := by
  show ((M.things ++ [(M.last + 1, t)]).find? _).map _ = _
  rw [List.find?_append]
  by_cases e : a = t.tgt ∧ b = t.set
  · obtain ⟨rfl, rfl⟩ := e
    have h1 : M.things.find? (fun x => x.2.kind == 14 && x.2.tgt == t.tgt && x.2.set == t.set) = none := by
      simpa [WM.find] using hn
    rw [h1]
    simp [hk]
  · rw [if_neg e]
    have : ([(M.last + 1, t)] : List (Int × Th)).find? (fun x => x.2.kind == 14 && x.2.tgt == a && x.2.set == b) = none := by
      have : (t.tgt == a && t.set == b) = false := by
        cases h1 : t.tgt == a <;> cases h2 : t.set == b <;> simp_all
      simp [hk, this]
    rw [this]
    simp [WM.find]

theorem WM.find_at {M : WM} (h : M.ok) {a b r : Int} (hf : M.find a b = some r) : ∃ t, M.at r = some t ∧ t.kind = 14 ∧ t.tgt = a ∧ t.set = b := by
  unfold WM.find at hf
  rw [Option.map_eq_some_iff] at hf
  obtain ⟨x, hx, rfl⟩ := hf
  have hm := List.mem_of_find?_eq_some hx
  have hp := List.find?_some hx
  simp only [Bool.and_eq_true, beq_iff_eq] at hp
  exact ⟨x.2, h.at_of_mem hm, hp.1.1, hp.1.2, hp.2⟩
theorem WM.find_none {M : WM} {a b : Int} (hf : M.find a b = none) {r : Int} {t : Th} (ht : M.at r = some t) (hk : t.kind = 14) (h1 : t.tgt = a) (h2 : t.set = b) : False := by
  have : M.things.find? (fun x => x.2.kind == 14 && x.2.tgt == a && x.2.set == b) = none := by simpa [WM.find] using hf
  have := List.find?_eq_none.1 this _ (at_mem ht)
  simp [hk, h1, h2] at this

/-- What is asked of a thing that is added. -/
structure AddOk (M : WM) (t : Th) : Prop where
  wf : t.wf
  last : M.last + 1 ≤ 1099511627776
  home : t.kind ≠ 14 → 0 ≤ t.home ∧ t.home < M.made.length
  made : t.kind ≠ 14 → M.made.getD t.home.toNat 0 < 512
  wrap : wrapsB t.kind = true → ∃ u, M.at t.tgt = some u
  gate : t.kind = 15 → ∃ u, M.at t.bi = some u ∧ u.kind = 13
  purse : t.kind = 9 → ∃ u, M.at t.tgt = some u ∧ u.kind = 8
  facet : t.kind = 14 → M.find t.tgt t.set = none

theorem WM.add_ok {M : WM} (h : M.ok) {t : Th} (a : AddOk M t) : (M.add t).ok where
  sides := h.sides
  cuts := h.cuts
  made := by
    show (if t.kind = 14 then M.made else _).length = _
    split
    · exact h.made
    · rw [List.length_set]; exact h.made
  tree := h.tree
  keys := by
    show (M.things ++ [(M.last + 1, t)]).Pairwise _
    rw [List.pairwise_append]
    refine ⟨h.keys, by simp, fun x hx y hy => ?_⟩
    simp at hy
    subst hy
    have := h.range x hx
    simp only
    omega
  range x hx := by
    rcases List.mem_append.1 hx with hx | hx
    · have := h.range x hx
      show _ ∧ _ ≤ M.last + 1
      omega
    · simp at hx
      subst hx
      have := h.last
      show 0 < M.last + 1 ∧ M.last + 1 ≤ M.last + 1
      omega
  last := by
    have := h.last
    have := a.last
    show 0 ≤ M.last + 1 ∧ M.last + 1 ≤ _
    omega
  mades i x hx := by
    change (if t.kind = 14 then M.made else _)[i]? = some x at hx
    split at hx
    · exact h.mades i x hx
    · rename_i hk
      rw [List.getElem?_set] at hx
      split at hx
      · split at hx
        · cases hx
          have h1 := a.made hk
          have : M.made[t.home.toNat]? = some (M.made.getD t.home.toNat 0) := by rw [List.getD_eq_getElem?_getD, List.getElem?_eq_getElem (by omega)]; rfl
          have := h.mades _ _ this
          omega
        · cases hx
      · exact h.mades i x hx
  wf r u hu := by
    rw [WM.add_at h] at hu
    split at hu
    · cases hu; exact a.wf
    · exact h.wf r u hu
  homes r u hu hk := by
    have hl : (M.add t).made.length = M.made.length := by
      show (if t.kind = 14 then M.made else _).length = _
      split
      · rfl
      · rw [List.length_set]
    rw [hl]
    rw [WM.add_at h] at hu
    split at hu
    · cases hu; exact a.home hk
    · exact h.homes r u hu hk
  wrap := by
    obtain ⟨rk, h0, h1⟩ := h.wrap
    have hl := h.last
    refine ⟨fun r => if r = M.last + 1 then rk t.tgt + 1 else rk r, fun r => ?_, fun r u hu hw => ?_⟩
    · have e1 := h0 t.tgt
      have e2 := h0 r
      show (if r = M.last + 1 then rk t.tgt + 1 else rk r) ≤ (M.last + 1).toNat
      split <;> omega
    · rw [WM.add_at h] at hu
      split at hu
      · rename_i e
        cases hu
        obtain ⟨u, hu⟩ := a.wrap hw
        have := h.at_range hu
        refine ⟨⟨u, WM.add_at_old h _ hu⟩, ?_⟩
        show (if t.tgt = M.last + 1 then rk t.tgt + 1 else rk t.tgt) < if r = M.last + 1 then rk t.tgt + 1 else rk r
        rw [if_neg (by omega), if_pos e]
        omega
      · rename_i e
        obtain ⟨⟨v, hv⟩, h3⟩ := h1 r u hu hw
        have := h.at_range hv
        refine ⟨⟨v, WM.add_at_old h _ hv⟩, ?_⟩
        show (if u.tgt = M.last + 1 then rk t.tgt + 1 else rk u.tgt) < if r = M.last + 1 then rk t.tgt + 1 else rk r
        rw [if_neg (by omega), if_neg e]
        exact h3
  gate r u hu hk := by
    rw [WM.add_at h] at hu
    split at hu
    · cases hu
      obtain ⟨v, h1, h2⟩ := a.gate hk
      exact ⟨v, WM.add_at_old h _ h1, h2⟩
    · obtain ⟨v, h1, h2⟩ := h.gate r u hu hk
      exact ⟨v, WM.add_at_old h _ h1, h2⟩
  purse r u hu hk := by
    rw [WM.add_at h] at hu
    split at hu
    · cases hu
      obtain ⟨v, h1, h2⟩ := a.purse hk
      exact ⟨v, WM.add_at_old h _ h1, h2⟩
    · obtain ⟨v, h1, h2⟩ := h.purse r u hu hk
      exact ⟨v, WM.add_at_old h _ h1, h2⟩
  facet r u r' u' hu hu' k k' e1 e2 := by
    rw [WM.add_at h] at hu hu'
    split at hu <;> split at hu'
    · omega
    · cases hu
      exact (WM.find_none (a.facet k) hu' k' e1.symm e2.symm).elim
    · cases hu'
      exact (WM.find_none (a.facet k') hu k e1 e2).elim
    · exact h.facet r u r' u' hu hu' k k' e1 e2
end Go.Proofs.YtifmifjbebpomaaGreatDoor
