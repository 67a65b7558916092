/- WorldMoney: plain laws on its worlds. -/
import Derived.Test.YtmefjkggibbhoaaNumA
import Derived.Test.YtmefjkggibbhoaaWhat
namespace Go.Proofs.Ytmefjkggibbhoaa
open Go.RowKit Go.ChangeMaps Go.MapKept
variable {w : World} {p : Nat} {M : WM} {F : Nat → Prop}

theorem single_of {ds : List Int} {r : Int} (h : ds.Nodup) (hm : ∀ x, x ∈ ds ↔ x ∈ [r]) : ds = [r] := by
  match ds, h with
  | [], _ => have := (hm r).2 (by simp); cases this
  | [x], _ => have := (hm x).1 (by simp); simp at this; rw [this]
  | x :: y :: l, h =>
    have h1 := (hm x).1 (by simp)
    have h2 := (hm y).1 (by simp)
    simp at h1 h2
    subst h1 h2
    simp at h

def sumTo (ks : List Int) (k : Nat) : Int := (ks.take k).sum
theorem sumTo_succ {ks : List Int} {k : Nat} {y : Int} (h : ks[k]? = some y) : sumTo ks (k + 1) = sumTo ks k + y := by
  unfold sumTo
  rw [List.take_add_one, h]
  simp
theorem sumTo_all (ks : List Int) : sumTo ks ks.length = ks.sum := by unfold sumTo; rw [List.take_length]
theorem sumTo_le {ks : List Int} {B : Int} (hB : 0 ≤ B) (h : ∀ x ∈ ks, 0 ≤ x ∧ x ≤ B) (k : Nat) : 0 ≤ sumTo ks k ∧ sumTo ks k ≤ k * B := by
  induction k with
  | zero => simp [sumTo]
  | succ k ih =>
    cases hk : ks[k]? with
    | none =>
      have : sumTo ks (k + 1) = sumTo ks k := by unfold sumTo; rw [List.take_add_one, hk]; simp
      rw [this]
      have : ((k + 1 : Nat) : Int) * B = k * B + B := by rw [Int.natCast_add, Int.add_mul]; simp
      omega
    | some y =>
      rw [sumTo_succ hk]
      have := h y (List.mem_of_getElem? hk)
      have : ((k + 1 : Nat) : Int) * B = k * B + B := by rw [Int.natCast_add, Int.add_mul]; simp
      omega
theorem sumTo_mono {ks : List Int} (h : ∀ x ∈ ks, 0 ≤ x) (k : Nat) : sumTo ks k ≤ ks.sum := by
  unfold sumTo
  have h1 : ks.sum = (ks.take k).sum + (ks.drop k).sum := by rw [← List.sum_append, List.take_append_drop]
  have h2 : 0 ≤ (ks.drop k).sum := by
    have : ∀ l : List Int, (∀ x ∈ l, 0 ≤ x) → 0 ≤ l.sum := by
      intro l
      induction l with
      | nil => simp
      | cons x l ih =>
        intro hl
        have := hl x (by simp)
        have := ih fun y hy => hl y (by simp [hy])
        simp
        omega
    exact this _ fun x hx => h x (List.mem_of_mem_drop hx)
  omega

/-- A world of one side: a mint and k purses of its, some of which are gone. -/
structure MonW (M : WM) (all lost : Int) (k : Nat) : Prop where
  made : M.made.length = 1
  last : M.last = (k : Int) + 1
  room : M.made.getD 0 0 ≤ k + 1
  mint : M.at 1 = some (lt 8 0 0 0 all lost 0 0 0 false)
  purses : ∀ r t, r ≠ 1 → M.at r = some t → ∃ n, t = lt 9 0 0 0 n 0 1 0 0 false

theorem MonW.facet {all lost : Int} {k : Nat} (h : MonW M all lost k) : ∀ r t, M.at r = some t → t.kind ≠ 14 := fun r t ht => by
  by_cases e : r = 1
  · subst e
    rw [h.mint] at ht
    cases ht
    simp
  · obtain ⟨n, rfl⟩ := h.purses r t e ht
    simp
theorem MonW.light {all lost : Int} {k : Nat} (h : MonW M all lost k) : ∀ r t, M.at r = some t → Light t := fun r t ht => by
  by_cases e : r = 1
  · subst e
    rw [h.mint] at ht
    cases ht
    exact ⟨_, _, _, _, _, _, _, _, _, _, rfl, plain0⟩
  · obtain ⟨n, rfl⟩ := h.purses r t e ht
    exact ⟨_, _, _, _, _, _, _, _, _, _, rfl, plain0⟩
theorem MonW.start (all : Int) : MonW ((WM.new []).add (lt 8 0 0 0 all 0 0 0 0 false)) all 0 0 where
  made := rfl
  last := rfl
  room := by show (1 : Int) ≤ _; simp
  mint := rfl
  purses r t hr ht := by
    have hM : (WM.new []).ok := WM.new_ok ⟨by decide, fun i p h => by simp at h⟩
    rw [WM.add_at hM] at ht
    split at ht
    · rename_i e
      exact absurd e hr
    · simp [WM.new, WM.at] at ht
theorem MonW.add {all lost : Int} {k : Nat} (hM : M.ok) (h : MonW M all lost k) (n : Int) : MonW (M.add (lt 9 0 0 0 n 0 1 0 0 false)) all lost (k + 1) where
  made := (made_len M _).trans h.made
  last := by
    have := h.last
    show M.last + 1 = _
    omega
  room := by
    show (M.made.set 0 (M.made.getD 0 0 + 1)).getD 0 0 ≤ _
    have h1 := h.room
    have h2 := h.made
    rw [List.getD_eq_getElem?_getD, List.getElem?_set, if_pos rfl, if_pos (by omega)]
    simp only [Option.getD_some]
    omega
  mint := by rw [WM.add_at_old hM _ h.mint]
  purses r t hr ht := by
    rw [WM.add_at hM] at ht
    split at ht
    · cases ht
      exact ⟨n, rfl⟩
    · exact h.purses r t hr ht
/-- A purse goes. -/
theorem MonW.gone {all lost : Int} {k : Nat} (h : MonW M all lost k) {r n : Int} (hr : r ≠ 1) (ht : M.at r = some (lt 9 0 0 0 n 0 1 0 0 false)) (h0 : 0 ≤ lost) (hn : 0 ≤ n) (hl : lost + n ≤ all) (ha : all ≤ 9007199254740992) :
    MonW ((WM.gone1 [r] M r).delL [r]) all (lost + n) k := by
  have hg : WM.gone1 [r] M r = M.set 1 (lt 8 0 0 0 all (lost + n) 0 0 0 false) := by
    have hw : wrap64 (lost + n) = lost + n := by unfold wrap64; omega
    have hmin : min all (lost + n) = lost + n := by omega
    simp [WM.gone1, ht, h.mint, hw, hmin, Ne.symm hr]
  rw [hg]
  exact {
    made := h.made
    last := h.last
    room := h.room
    mint := by rw [WM.delL_at, if_neg (by simpa using Ne.symm hr)]; exact WM.set_at_self _ h.mint
    purses := fun q t hq ht => by
      have := (WM.delL_at_some ht).2
      rw [WM.set_at_ne M _ hq] at this
      exact h.purses q t hq this }
theorem MonW.lean {all lost : Int} {k : Nat} (h : MonW M all lost k) {r : Int} (hr : r ≠ 1) (hr0 : 0 < r) : ¬ Lean' M [r] := by
  rintro ⟨q, t, hq, -, hc⟩
  by_cases e : q = 1
  · subst e
    rw [h.mint] at hq
    cases hq
    simp at hc
    omega
  · obtain ⟨n, rfl⟩ := h.purses q t e hq
    simp at hc
    omega
/-- What Drop of a purse leaves. -/
theorem MonW.dropped {all lost : Int} {k : Nat} (h : MonW M all lost k) (hW : IsW w p M F) {r n : Int} (hr : r ≠ 1) (ht : M.at r = some (lt 9 0 0 0 n 0 1 0 0 false)) {e : Ending} {w' : World} (hp : DropPost w p M F [r] e w') :
    e = .returned (.int .i64 0) ∧ IsW w' p ((WM.gone1 [r] M r).delL [r]) F ∧ Keeps F w w' := by
  rcases hp with ⟨-, -, q, hq, hn⟩ | ⟨-, ⟨-, -, hl⟩ | ⟨he, -, ds, hnd, hds, hw, hk⟩⟩
  · simp at hq
    subst hq
    rw [ht] at hn
    cases hn
  · exact absurd hl (h.lean hr (hW.ok.at_range ht).1)
  · have := single_of hnd hds
    subst this
    exact ⟨he, hw, hk⟩
/-- Drop of the mint. -/
theorem MonW.last_drop {all lost : Int} {k : Nat} (h : MonW M all lost k) (hW : IsW w p M F) {e : Ending} {w' : World} (hp : DropPost w p M F [1] e w') :
    ∃ (c : Int) (M' : WM), e = .returned (.int .i64 c) ∧ (c == 72) = decide ((1 : Int) < (M'.things.length : Int)) ∧ IsW w' p M' F ∧ Keeps F w w' := by
  have hok := hW.ok
  have hlen : Lean' M [1] ↔ 1 < M.things.length := by
    have hk := hok.keys
    constructor
    · rintro ⟨q, t, hq, hne, -⟩
      have h1 := at_mem hq
      have h2 := at_mem h.mint
      match hth : M.things, h1, h2 with
      | [], h1, _ => cases h1
      | [x], h1, h2 =>
        simp at h1 h2
        rw [← h2] at h1
        simp at h1 hne
        exact absurd h1.1 hne
      | x :: y :: l, _, _ => simp
    · intro hl
      match hth : M.things, hl with
      | x :: y :: l, _ =>
        have hx : M.at x.1 = some x.2 := hok.at_of_mem (by rw [hth]; simp)
        have hy : M.at y.1 = some y.2 := hok.at_of_mem (by rw [hth]; simp)
        rw [hth] at hk
        have hxy := (List.pairwise_cons.1 hk).1 y (by simp)
        have key : ∀ q t, q ≠ 1 → M.at q = some t → Lean' M [1] := fun q t hq ht => by
          obtain ⟨n, rfl⟩ := h.purses q t hq ht
          exact ⟨q, _, ht, by simpa using hq, .inl ⟨by simp, by simp⟩⟩
        by_cases e : x.1 = 1
        · exact key y.1 y.2 (by omega) hy
        · exact key x.1 x.2 e hx
  rcases hp with ⟨-, -, q, hq, hn⟩ | ⟨-, ⟨he, hb, hl⟩ | ⟨he, hl, ds, -, hds, hw, hk⟩⟩
  · simp at hq
    subst hq
    rw [h.mint] at hn
    cases hn
  · refine ⟨72, M, he, ?_, hW.below hb, Keeps.of_below hb⟩
    have := hlen.1 hl
    simp; omega
  · refine ⟨0, _, he, ?_, hw, hk⟩
    rw [fold_same ds M (fun q hq u hu => by
      have : q = 1 := by simpa using (hds q).1 hq
      subst this
      rw [h.mint] at hu
      cases hu
      simp)]
    have h1 : ¬ 1 < M.things.length := fun e => hl (hlen.2 e)
    have h2 : (M.delL [1]).things.length ≤ M.things.length := List.length_filter_le _ _
    simp; omega
end Go.Proofs.Ytmefjkggibbhoaa
