/- Sides as a tree with cuts: a way is open just where both ends have one root. -/
import Derived.Test.YtmefjkggibbhoaaWalkC
import Derived.Test.YtmefjkggibbhoaaWalkE
namespace Go.Proofs.Ytmefjkggibbhoaa

def rootF (M : WM) : Nat → Nat → Nat
  | 0, k => k
  | f + 1, k => if k = 0 ∨ M.cutAt k = true then k else rootF M f (M.par (k - 1)).toNat
def WM.root (M : WM) (k : Nat) : Nat := rootF M k k

theorem WM.ok.par_lt {M : WM} (h : M.ok) {k : Nat} (h0 : 0 < k) (hk : k < M.made.length) : 0 ≤ M.par (k - 1) ∧ (M.par (k - 1)).toNat < k := by
  have := h.par_le (n := k - 1) (by have := h.made; omega)
  omega

theorem rootF_fuel {M : WM} (h : M.ok) : ∀ (f k : Nat), k ≤ f → k < M.made.length → rootF M f k = rootF M k k
  | 0, k, hf, _ => by
    have : k = 0 := by omega
    subst this
    rfl
  | f + 1, k, hf, hk => by
    cases k with
    | zero => simp [rootF]
    | succ k =>
      have hp := h.par_lt (k := k + 1) (by omega) hk
      simp only [rootF]
      split
      · rfl
      · rw [rootF_fuel h f _ (by omega) (by omega), rootF_fuel h k _ (by omega) (by omega)]
termination_by f => f

theorem WM.ok.root_stop {M : WM} {k : Nat} (h : k = 0 ∨ M.cutAt k = true) : M.root k = k := by
  cases k with
  | zero => rfl
  | succ k => simp only [WM.root, rootF, if_pos h]
theorem WM.ok.root_up {M : WM} (h : M.ok) {k : Nat} (h0 : 0 < k) (hk : k < M.made.length) (hc : M.cutAt k = false) : M.root k = M.root (M.par (k - 1)).toNat := by
  obtain ⟨j, rfl⟩ : ∃ j, k = j + 1 := ⟨k - 1, by omega⟩
  have hp := h.par_lt h0 hk
  have hn : ¬ (j + 1 = 0 ∨ M.cutAt (j + 1) = true) := by simp [hc]
  simp only [WM.root]
  conv => lhs; rw [rootF]
  rw [if_neg hn, rootF_fuel h j _ (by omega) (by omega)]

theorem WM.ok.root_le {M : WM} (h : M.ok) : ∀ k, k < M.made.length → M.root k ≤ k := by
  intro k
  induction k using Nat.strongRecOn with
  | ind k ih =>
    intro hk
    by_cases hs : k = 0 ∨ M.cutAt k = true
    · rw [WM.ok.root_stop hs]; exact Nat.le_refl _
    · have h0 : 0 < k := by omega
      have hc : M.cutAt k = false := by
        cases hx : M.cutAt k with
        | true => exact absurd (.inr hx) hs
        | false => rfl
      have hp := h.par_lt h0 hk
      rw [h.root_up h0 hk hc]
      have := ih _ hp.2 (by omega)
      omega

theorem WM.ok.openF_root {M : WM} (h : M.ok) : ∀ (f : Nat) (a b : Int), 0 ≤ a → a < M.made.length → 0 ≤ b → b < M.made.length → a.toNat + b.toNat ≤ f → openF M f a b = decide (M.root a.toNat = M.root b.toNat)
  | 0, a, b, a0, _, b0, _, hf => by
    have ha : a = 0 := by omega
    have hb : b = 0 := by omega
    subst ha hb
    simp [openF]
  | f + 1, a, b, a0, a1, b0, b1, hf => by
    rw [openF]
    by_cases hab : a = b
    · subst hab
      simp
    · rw [if_neg hab]
      by_cases hlt : a < b
      · rw [if_pos hlt]
        have hb0 : 0 < b.toNat := by omega
        have hp := h.par_lt hb0 (by omega)
        have hra := h.root_le a.toNat (by omega)
        cases hc : M.cutAt b.toNat with
        | true =>
          rw [if_pos rfl, WM.ok.root_stop (.inr hc)]
          symm
          rw [decide_eq_false_iff_not]
          omega
        | false =>
          rw [if_neg (by simp), h.root_up hb0 (by omega) hc, WM.ok.openF_root h f _ _ hp.1 (by omega) a0 a1 (by omega)]
          exact decide_eq_decide.2 eq_comm
      · rw [if_neg hlt]
        have ha0 : 0 < a.toNat := by omega
        have hp := h.par_lt ha0 (by omega)
        have hrb := h.root_le b.toNat (by omega)
        cases hc : M.cutAt a.toNat with
        | true =>
          rw [if_pos rfl, WM.ok.root_stop (.inr hc)]
          symm
          rw [decide_eq_false_iff_not]
          omega
        | false =>
          rw [if_neg (by simp), h.root_up ha0 (by omega) hc, WM.ok.openF_root h f _ _ hp.1 (by omega) b0 b1 (by omega)]

/-- **Open, by roots.** -/
theorem WM.ok.openB_root {M : WM} (h : M.ok) (a b : Int) : M.openB a b = (sideB M a && sideB M b && decide (M.root a.toNat = M.root b.toNat)) := by
  unfold WM.openB
  cases ha : sideB M a with
  | false => rfl
  | true =>
    cases hb : sideB M b with
    | false => rfl
    | true =>
      obtain ⟨a0, a1⟩ := sideB_iff.1 ha
      obtain ⟨b0, b1⟩ := sideB_iff.1 hb
      rw [h.openF_root _ a b a0 a1 b0 b1 (Nat.le_refl _)]

/-- A side is its own root just where it is side 0 or its edge is cut. -/
theorem WM.ok.root_self {M : WM} (h : M.ok) {k : Nat} (hk : k < M.made.length) : M.root k = k ↔ (k = 0 ∨ M.cutAt k = true) := by
  refine ⟨fun e => ?_, WM.ok.root_stop⟩
  by_cases h0 : k = 0
  · exact .inl h0
  · cases hc : M.cutAt k with
    | true => exact .inr rfl
    | false =>
      exfalso
      have hp := h.par_lt (by omega) hk
      have hr := h.root_le _ (Nat.lt_trans hp.2 hk)
      rw [h.root_up (by omega) hk hc] at e
      omega

theorem WM.ok.root_root {M : WM} (h : M.ok) : ∀ k, k < M.made.length → M.root (M.root k) = M.root k := by
  intro k
  induction k using Nat.strongRecOn with
  | ind k ih =>
    intro hk
    by_cases hs : k = 0 ∨ M.cutAt k = true
    · rw [WM.ok.root_stop hs, WM.ok.root_stop hs]
    · have h0 : 0 < k := by omega
      have hc : M.cutAt k = false := by
        cases hx : M.cutAt k with
        | true => exact absurd (.inr hx) hs
        | false => rfl
      have hp := h.par_lt h0 hk
      rw [h.root_up h0 hk hc]
      exact ih _ hp.2 (by omega)

/-- No side ahead of k is open to k just where k is its own root. -/
theorem WM.ok.first_iff {M : WM} (h : M.ok) {k : Nat} (hk : k < M.made.length) : (∀ i, i < k → M.root i ≠ M.root k) ↔ M.root k = k := by
  constructor
  · intro hf
    have hl := h.root_le k hk
    rcases Nat.lt_or_eq_of_le hl with hlt | he
    · exact absurd (h.root_root k hk) (hf _ hlt)
    · exact he
  · intro e i hi he
    have hl := h.root_le i (by omega)
    rw [he, e] at hl
    omega

theorem WM.cutE_at {M : WM} (n k : Nat) (hn : n < M.cuts.length) : (M.cutE n).cutAt k = (M.cutAt k || decide (k = n)) := by
  simp only [WM.cutAt, WM.cutE, List.getD_eq_getElem?_getD, List.getElem?_set]
  by_cases h : n = k
  · subst h
    simp [hn]
  · have h' : ¬ k = n := fun e => h e.symm
    simp [h, h']
theorem WM.cutE_par {M : WM} (n k : Nat) : (M.cutE n).par k = M.par k := rfl
theorem WM.cutE_made {M : WM} (n : Nat) : (M.cutE n).made = M.made := rfl

/-- More cuts: what is one still was one. -/
theorem WM.ok.root_cut {M : WM} (h : M.ok) {n : Nat} (hn : n < M.cuts.length) (h' : (M.cutE n).ok) : ∀ k, k < M.made.length → M.root ((M.cutE n).root k) = M.root k := by
  intro k
  induction k using Nat.strongRecOn with
  | ind k ih =>
    intro hk
    by_cases hs : k = 0 ∨ (M.cutE n).cutAt k = true
    · rw [WM.ok.root_stop hs]
    · have h0 : 0 < k := by omega
      have hc : (M.cutE n).cutAt k = false := by
        cases hx : (M.cutE n).cutAt k with
        | true => exact absurd (.inr hx) hs
        | false => rfl
      have hc2 : M.cutAt k = false := by
        have := M.cutE_at n k hn
        rw [hc] at this
        cases hx : M.cutAt k with
        | true => rw [hx] at this; simp at this
        | false => rfl
      have hp := h.par_lt h0 hk
      rw [h'.root_up h0 hk hc, h.root_up h0 hk hc2, M.cutE_par]
      exact ih _ hp.2 (by omega)
theorem WM.ok.open_cut {M : WM} (h : M.ok) {n : Nat} (hn : n < M.cuts.length) (h' : (M.cutE n).ok) (a b : Int) (ho : (M.cutE n).openB a b = true) : M.openB a b = true := by
  rw [h'.openB_root] at ho
  rw [h.openB_root]
  simp only [Bool.and_eq_true, decide_eq_true_eq] at ho ⊢
  obtain ⟨⟨ha, hb⟩, he⟩ := ho
  have ha' : sideB M a = true := ha
  have hb' : sideB M b = true := hb
  refine ⟨⟨ha', hb'⟩, ?_⟩
  have a1 := sideB_iff.1 ha'
  have b1 := sideB_iff.1 hb'
  rw [← h.root_cut hn h' a.toNat (by omega), ← h.root_cut hn h' b.toNat (by omega), he]

/-- How many parts there are: side 0's, and one more for each edge that is cut. -/
def WM.isTop (M : WM) (k : Nat) : Bool := decide (k = 0) || M.cutAt k
def WM.tops (M : WM) (n : Nat) : Nat := ((List.range n).filter M.isTop).length

theorem WM.tops_succ (M : WM) (n : Nat) : M.tops (n + 1) = M.tops n + (if M.isTop n = true then 1 else 0) := by
  simp only [WM.tops, List.range_succ, List.filter_append, List.length_append]
  congr 1
  by_cases h : M.isTop n = true <;> simp [h]
theorem WM.tops_cut {M : WM} {n : Nat} (hn : n < M.cuts.length) (h0 : 0 < n) : ∀ m, (M.cutE n).tops m = M.tops m + (if n < m ∧ M.cutAt n = false then 1 else 0)
  | 0 => by simp [WM.tops]
  | m + 1 => by
    rw [WM.tops_succ, WM.tops_succ, WM.tops_cut hn h0 m]
    have e : (M.cutE n).isTop m = (M.isTop m || decide (m = n)) := by
      simp only [WM.isTop, WM.cutE_at n m hn, Bool.or_assoc]
    rw [e]
    by_cases hm : m = n
    · subst hm
      have h1 : ¬ m < m := Nat.lt_irrefl _
      cases hc : M.cutAt m <;> simp [WM.isTop, hc] <;> omega
    · have h2 : n < m + 1 ↔ n < m := by omega
      simp only [hm, decide_false, Bool.or_false, h2]
      omega
theorem WM.ok.tops_one {M : WM} (h : ∀ k, M.cutAt k = false) : ∀ m, 0 < m → M.tops m = 1
  | 1, _ => by simp [WM.tops, WM.isTop, List.range_succ]
  | m + 2, _ => by
    rw [WM.tops_succ, WM.ok.tops_one h (m + 1) (by omega)]
    simp [WM.isTop, h]
end Go.Proofs.Ytmefjkggibbhoaa
