/- A region that draws its order, by what stays true of it: whatever comes up keeps it. -/
import Derived.Orders
import Derived.Test.YtifmifjbebpomaaGreatDoorBase
namespace Go.Proofs.YtifmifjbebpomaaGreatDoor
open Go.RowKit

theorem count_set_true {l : List Bool} {i : Nat} (hi : i < l.length) (h : l[i] = false) : (l.set i true).count false + 1 = l.count false := by
  induction l generalizing i with
  | nil => simp at hi
  | cons x l ih =>
    cases i with
    | zero =>
      simp only [List.getElem_cons_zero] at h
      subst h
      simp
    | succ i =>
      have := ih (i := i) (by simpa using hi) (by simpa using h)
      cases x <;> simp <;> omega

section
variable {P : Program} {ops : Array Oper} {Q : Exit → Act → World → Prop}

theorem ready_of_none (L : Array Bool) (hL : L.size = ops.size) (hord : ∀ (i : Nat) (o : Oper), ops[i]? = some o → ∀ e ∈ o.after, e.on < i)
    (hr : Region.ready .any ops L = []) : ∀ i, i < ops.size → L.getD i true = true := by
  intro i
  induction i using Nat.strongRecOn with
  | ind i ih =>
    intro hi
    cases hLi : L.getD i true with
    | true => rfl
    | false =>
      exfalso
      have : i ∈ Region.ready .any ops L := by
        unfold Region.ready
        rw [List.mem_filter]
        refine ⟨List.mem_range.2 hi, ?_⟩
        rw [hLi, Array.getElem?_eq_getElem hi]
        simp only [Bool.not_false, Bool.true_and, Option.map_some, Option.getD_some]
        rw [Array.all_eq_true_iff_forall_mem]
        intro e he
        have h1 := hord i _ (Array.getElem?_eq_getElem hi) e he
        have h2 := ih e.on h1 (by omega)
        have h3 : L.getD e.on false = true := by
          have : e.on < L.size := by omega
          simpa [Array.getD, this] using h2
        simp [h3]
      rw [hr] at this
      cases this

theorem wpAny_inv (Inv : Array Bool → Act → World → Prop) (hord : ∀ (i : Nat) (o : Oper), ops[i]? = some o → ∀ e ∈ o.after, e.on < i)
    (step : ∀ L a w i o, Inv L a w → ops[i]? = some o → L.getD i true = false → (∀ e ∈ o.after, Region.binds .any e = true → L.getD e.on false = true) →
      if Region.wanted o (yielded ops a.tmps) then o.wp P a w (Inv (L.setIfInBounds i true)) Q else Inv (L.setIfInBounds i true) (a.put o.dst undef) w)
    (done : ∀ L a w, Inv L a w → (∀ i, i < ops.size → L.getD i true = true) → Q .normal a w) :
    ∀ (fuel : Nat) (L : Array Bool) (a : Act) (w : World), L.size = ops.size → L.toList.count false ≤ fuel → Inv L a w → wpAny P .any ops Q fuel L a w
  | 0, L, a, w, hL, hc, hI => by
    have hall : ∀ i, i < ops.size → L.getD i true = true := by
      intro i hi
      have h0 : L.toList.count false = 0 := by omega
      rw [List.count_eq_zero] at h0
      cases h : L.getD i true with
      | true => rfl
      | false =>
        exfalso
        apply h0
        have hi' : i < L.size := by omega
        have : L[i] = false := by simpa [Array.getD, hi'] using h
        rw [← this]
        simp
    refine ⟨?_, done L a w hI hall⟩
    unfold Region.ready
    rw [List.filter_eq_nil_iff]
    intro i hi
    rw [hall i (List.mem_range.1 hi)]
    simp
  | fuel + 1, L, a, w, hL, hc, hI => by
    refine ⟨fun h => done L a w hI (ready_of_none L hL hord h), fun i hi => ?_⟩
    unfold Region.ready at hi
    rw [List.mem_filter] at hi
    obtain ⟨h1, h2⟩ := hi
    have h1 := List.mem_range.1 h1
    rw [Bool.and_eq_true, Array.getElem?_eq_getElem h1, Option.map_some, Option.getD_some, Array.all_eq_true_iff_forall_mem] at h2
    obtain ⟨h3, h4⟩ := h2
    have h3 : L.getD i true = false := by simpa using h3
    have hs := step L a w i _ hI (Array.getElem?_eq_getElem h1) h3 (fun e he hb => by
      have := h4 e he
      simpa [hb] using this)
    have hi' : i < L.size := by omega
    have hLi : L.toList[i]'(by simpa using hi') = false := by
      have : L[i] = false := by simpa [Array.getD, hi'] using h3
      simpa using this
    have hcnt := count_set_true (l := L.toList) (by simpa using hi') hLi
    have next : ∀ a w, Inv (L.setIfInBounds i true) a w → wpAny P .any ops Q fuel (L.setIfInBounds i true) a w := fun a w h =>
      wpAny_inv Inv hord step done fuel _ a w (by simpa using hL) (by rw [Array.toList_setIfInBounds]; omega) h
    unfold wpOp
    rw [Array.getElem?_eq_getElem h1]
    simp only
    split at hs
    · rename_i hw
      rw [if_pos hw]
      exact .inl (Oper.wp_mono next hs)
    · rename_i hw
      rw [if_neg hw]
      exact next _ _ hs

/-- The whole region. -/
theorem wp_region_inv {id : Nat} {a : Act} {w : World} (hm : P.follows .mixedOrders = true) (Inv : Array Bool → Act → World → Prop) (hord : ∀ (i : Nat) (o : Oper), ops[i]? = some o → ∀ e ∈ o.after, e.on < i)
    (h0 : Inv (Array.replicate ops.size false) a w.drew)
    (step : ∀ L a w i o, Inv L a w → ops[i]? = some o → L.getD i true = false → (∀ e ∈ o.after, Region.binds .any e = true → L.getD e.on false = true) →
      if Region.wanted o (yielded ops a.tmps) then o.wp P a w (Inv (L.setIfInBounds i true)) Q else Inv (L.setIfInBounds i true) (a.put o.dst undef) w)
    (done : ∀ L a w, Inv L a w → (∀ i, i < ops.size → L.getD i true = true) → Q .normal a w) : (Code.region id ops true).wp P Q a w :=
  wp_region_any hm (wpAny_inv Inv hord step done ops.size _ a _ (by simp) (by simp) h0)
end
end Go.Proofs.YtifmifjbebpomaaGreatDoor
