/- A part of the proof, several texts in one: SlB. -/
import Derived.Test.YtcoiccbmcjdheaaGreatmAM
import Derived.ArgAppend
/- Slices of values: parts of them, one more behind them. -/
namespace Go.Proofs.YtcoiccbmcjdheaaGreat
open Go.RowKit Go.ChangeMaps Go.MapKept

theorem SlAt.front {w : World} {F : Nat → Prop} {pa : Option Addr} {n c : Nat} {l : List Val} (h : SlAt w F (.slice pa n c) l) {k : Nat} (hk : k ≤ l.length) (c' : Nat) : SlAt w F (.slice pa k c') (l.take k) := by
  generalize hs : Value.slice pa n c = s at h
  cases h with
  | mk pa' c0 l raw h hr =>
    cases hs
    have e : (l.take k).length = k := by simp; omega
    have := SlAt.mk (w := w) (F := F) pa c' (l.take k) raw (fun i v hv => h i v (by rw [List.getElem?_take] at hv; split at hv; exact hv; cases hv)) (fun i v hv => hr i v (by rw [List.getElem?_take] at hv; split at hv; exact hv; cases hv))
    rwa [e] at this
theorem SlAt.back {w : World} {F : Nat → Prop} {pa : Option Addr} {n c : Nat} {l : List Val} (h : SlAt w F (.slice pa n c) l) {k : Nat} (hk : k ≤ l.length) (hc : l.length ≤ c) : SlAt w F (.slice (if c = k then pa else pa.map (·.add (k * 5))) (l.length - k) (c - k)) (l.drop k) := by
  generalize hs : Value.slice pa n c = s at h
  cases h with
  | mk pa' c0 l raw h hr =>
    cases hs
    have e : (l.drop k).length = l.length - k := by simp
    have := SlAt.mk (w := w) (F := F) (if c = k then pa else pa.map (·.add (k * 5))) (c - k) (l.drop k) (fun i => raw (k + i)) (fun i v hv => ?_) (fun i v hv => hr (k + i) v (by rw [List.getElem?_drop] at hv; exact hv))
    · rwa [e] at this
    · rw [List.getElem?_drop] at hv
      have hlt := (List.getElem?_eq_some_iff.1 hv).1
      obtain ⟨b, o, rfl, h2, h4, h5, h6, h7, h8⟩ := h (k + i) v hv
      have e1 : ∀ q, o + k * 5 + 5 * i + q = o + 5 * (k + i) + q := fun q => by omega
      have e0 : o + k * 5 + 5 * i = o + 5 * (k + i) := by omega
      refine ⟨b, o + k * 5, ?_, h2, by rw [e0]; exact h4, by rw [e1]; exact h5, by rw [e1]; exact h6, by rw [e1]; exact h7, by rw [e1]; exact h8⟩
      rw [if_neg (by omega), Option.map_some, Addr.add_lit]
/-- The cells of a slice, and what is in them. -/
theorem SlAt.cells {w : World} {F : Nat → Prop} {pa : Option Addr} {n c : Nat} {l : List Val} (h : SlAt w F (.slice pa n c) l) : n = l.length ∧ ∃ raw : Nat → Value, (∀ i v, l[i]? = some v → SlAt w F (raw i) v.l) ∧
    ∀ j u, (vflat l raw)[j]? = some u → ∃ b o, pa = some ⟨b, o, none⟩ ∧ w.cell? ⟨b, o + j, none⟩ = some u := by
  generalize hs : Value.slice pa n c = s at h
  cases h with
  | mk pa' c0 l raw h hr =>
    cases hs
    refine ⟨rfl, raw, hr, fun j u hj => ?_⟩
    obtain ⟨i, k, v, rfl, hv, hk⟩ := vflat_of hj
    obtain ⟨b, o, h1, h2, h4, h5, h6, h7, h8⟩ := h i v hv
    refine ⟨b, o, h1, ?_⟩
    have e2 : o + (i * 5 + k) = o + 5 * i + k := by omega
    rw [e2]
    have hj5 : k < 5 := by have := (Array.getElem?_eq_some_iff.1 hk).1; simpa [vcs] using this
    match k, hj5 with
    | 0, _ => cases hk; exact h4
    | 1, _ => cases hk; exact h5
    | 2, _ => cases hk; exact h6
    | 3, _ => cases hk; exact h7
    | 4, _ => cases hk; exact h8
theorem SlAt.of_row {w : World} {base : Nat} {F : Nat → Prop} {u : Value} {l : List Val} {raw : Nat → Value} (hrow : w.ownsRow base 34 5 u l.length (vflat l raw)) (hr : ∀ i v, l[i]? = some v → SlAt w F (raw i) v.l) :
    SlAt w (fun y => F y ∨ base ≤ y) u l := by
  obtain ⟨h1, ⟨rfl, h0⟩ | ⟨g, cap, cur, rfl, hg, hb, hc, hm, hcs, ht⟩⟩ := hrow
  · have : l = [] := List.length_eq_zero_iff.1 h0
    subst this
    exact SlAt.nil _ _ _ _
  · refine SlAt.mk _ _ _ raw (fun i v hv => ?_) (fun i v hv => (hr i v hv).mono fun _ h => .inl h)
    have key : ∀ k x, (vcs v (raw i))[k]? = some x → w.cell? ⟨g, 0 + 5 * i + k, none⟩ = some x := fun k x hx => by
      have h2 := vflat_at hv hx
      rw [← ht, List.getElem?_take] at h2
      split at h2
      · rw [cell_blk hb, show 0 + 5 * i + k = i * 5 + k by omega, ← Array.getElem?_toList]
        exact h2
      · cases h2
    exact ⟨g, 0, rfl, .inr hg, key 0 _ rfl, key 1 _ rfl, key 2 _ rfl, key 3 _ rfl, key 4 _ rfl⟩
theorem vflat_snoc (l : List Val) (raw : Nat → Value) (v : Val) (rv : Value) : vflat (l ++ [v]) (fun i => if i < l.length then raw i else rv) = vflat l raw ++ (vcs v rv).toList := by
  unfold vflat
  rw [List.zipIdx_append, List.flatMap_append]
  have h1 : (l.zipIdx.flatMap fun x => (vcs x.1 (if x.2 < l.length then raw x.2 else rv)).toList) = l.zipIdx.flatMap fun x => (vcs x.1 (raw x.2)).toList := by
    simp only [List.flatMap_def]
    congr 1
    refine List.map_congr_left fun x hx => ?_
    have := List.mem_zipIdx hx
    rw [if_pos (by omega)]
  rw [h1]
  simp

/-- One value more behind some: a row of its own. -/
theorem run_more {w : World} {FA FB : Nat → Prop} {pa : Option Addr} {n : Nat} {l : List Val} (h : SlAt w FA (.slice pa n n) l) {v : Val} {rv : Value} (hv : SlAt w FB rv v.l) (hl : l.length ≤ 1024) {b : Nat} (hb : w.heap[b]? = some (.cells (vcs v rv) 34 (0, 0))) (hnone : pa = none → n = 0) (ty : TypeId) :
    ∃ u w', (Builtin.append_ #[22, 22] ty #[.slice pa n n, .slice (some ⟨b, 0, none⟩) 1 1]).run Tryz.prog w = .ok u w' ∧ SlAt w' (fun y => FA y ∨ FB y ∨ w.heap.size ≤ y) u (l ++ [v]) ∧ Below w.heap.size w w' ∧ CapOk u := by
  obtain ⟨hn, raw, hr, hcell⟩ := h.cells
  subst hn
  obtain ⟨iv, hi, hz, h1, h2⟩ := info_parts infoVal
  have hform : ∀ i v, l[i]? = some v → ∃ a n c, raw i = .slice a n c := fun i v hv => by
    obtain ⟨p, c, e⟩ := (hr i v hv).form
    exact ⟨p, _, c, e⟩
  obtain ⟨pv, cv, rfl⟩ := hv.form
  have hnews : ∀ (j : Nat) (u : Value), (vcs v (.slice pv v.l.length cv)).toList[j]? = some u → w.cell? ((⟨b, 0, none⟩ : Addr).add j) = some u := fun j u hj => by
    rw [Addr.add_lit, Nat.zero_add, cell_blk hb]
    simpa using hj
  have hone : ∀ u ∈ (vcs v (.slice pv v.l.length cv)).toList, u.oneCell' = true := by
    intro u hu
    simp [vcs] at hu
    rcases hu with rfl | rfl | rfl | rfl | rfl <;> rfl
  have fin : ∀ (u : Value) (w' : World), w'.ownsRow w.heap.size 34 5 u (l.length + 1) (vflat l raw ++ (vcs v (.slice pv v.l.length cv)).toList) → Below w.heap.size w w' → SlAt w' (fun y => FA y ∨ FB y ∨ w.heap.size ≤ y) u (l ++ [v]) ∧ Below w.heap.size w w' ∧ CapOk u := fun u w' hrow hbel => by
    have hrow' : w'.ownsRow w.heap.size 34 5 u (l ++ [v]).length (vflat (l ++ [v]) (fun i => if i < l.length then raw i else .slice pv v.l.length cv)) := by
      rw [vflat_snoc]
      simpa using hrow
    refine ⟨(SlAt.of_row (F := fun y => FA y ∨ FB y) hrow' fun i x hx => ?_).mono fun y hy => by rcases hy with (hy | hy) | hy; exact .inl hy; exact .inr (.inl hy); exact .inr (.inr hy), hbel, ?_⟩
    · by_cases hil : i < l.length
      · rw [List.getElem?_append_left hil] at hx
        simp only [hil, if_true]
        exact ((hr i x hx).on hbel).mono fun _ h => .inl h
      · have hi2 := (List.getElem?_eq_some_iff.1 hx).1
        simp at hi2
        have : i = l.length := by omega
        subst this
        simp at hx
        subst hx
        simp only [Nat.lt_irrefl, if_false]
        exact (hv.on hbel).mono fun _ h => .inr h
    · obtain ⟨-, ⟨rfl, h0⟩ | ⟨g, cap, cur, rfl, hg, hb, hc, hm, hcs, ht⟩⟩ := hrow
      · omega
      · exact ⟨_, _, _, rfl, hc, fun e => by cases e⟩
  cases pa with
  | some a =>
    obtain ⟨v', w', hrun, r1, r2⟩ := run_append_arg_grows (P := Tryz.prog) w 22 ty 34 iv (.agg zV) 5 64 Tryz.underlying22 hi hz h1 h2 rfl (by decide) a l.length l.length (vflat l raw) (vflat_len _ _) (fun j u hj => by
      obtain ⟨b', o, e, hc⟩ := hcell j u hj
      cases e
      rw [Addr.add_lit]
      exact hc) ⟨b, 0, none⟩ 1 1 (vcs v (.slice pv v.l.length cv)).toList (by simp [vcs]) hnews (by omega) (by unfold maxLen; omega) (by omega)
    exact ⟨v', w', hrun, fin v' w' r1 (below_of_grownNone r2)⟩
  | none =>
    have h0 := hnone rfl
    have hl0 : l = [] := List.length_eq_zero_iff.1 h0
    subst hl0
    obtain ⟨v', w', hrun, r1, r2, -⟩ := run_append_own (P := Tryz.prog) w w.heap.size 22 ty 34 iv (.agg zV) 5 64 Tryz.underlying22 hi hz h1 h2 rfl (by decide) (.slice none 0 0) 0 [] (World.ownsRow_nil w _ _ _) ⟨b, 0, none⟩ 1 1 (vcs v (.slice pv v.l.length cv)).toList (by simp [vcs]) hnews hone (by unfold maxLen; omega) (by omega) (Nat.le_refl _)
    exact ⟨v', w', hrun, fin v' w' (by simpa [vflat] using r1) (below_of_grownNone r2)⟩
end Go.Proofs.YtcoiccbmcjdheaaGreat
