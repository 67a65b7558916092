/- A region that draws its order: a head that only reads, then one operation that all else waits for or is waited for by, then a tail that only reads: one walk, in the text's order. -/
import Derived.StillTail
import Derived.StillTactics
import Derived.Test.YtmefjkggibbhoaaAny
namespace Go.Proofs.Ytmefjkggibbhoaa
open Go.RowKit

section
variable {P : Program} {ops : Array Oper} {Q : Exit → Act → World → Prop} {n : Nat} {w : World}

/-- Behind the pivot. -/
def Piv (P : Program) (ops : Array Oper) (Q : Exit → Act → World → Prop) (tail : List Oper) : Exit → Act → World → Prop
  | .normal, a, w => wpStill P ops w (fun a' => Q .normal a' w) tail a
  | x, a, w => Q x a w
theorem piv_lets {tail : List Oper} (h : LetsOut (Piv P ops Q tail)) : LetsOut Q := by
  obtain ⟨a, w, h⟩ := h
  exact ⟨a, w, h⟩
theorem piv_wp {tail : List Oper} {o : Oper} {a : Act} {K : Act → World → Prop} (hh : o.wp P a w K (Piv P ops Q tail)) : o.wp P a w K Q := by
  unfold Oper.wp at *
  generalize (execOp a.eval o).run P w = r at *
  cases r with
  | ok m w' =>
    cases m <;> simp only [Oper.upon] at hh ⊢ <;>
      first
        | exact hh
        | exact Calls.mono hh (fun e w'' he => by cases e <;> first | exact he | exact piv_lets he)
  | halt x w' => cases x <;> simp only [Oper.upon] at hh ⊢ <;> exact hh

/-- What is asked of the region's edges. -/
structure Pivots (ops ops' : Array Oper) (n : Nat) : Prop where
  lt : n < ops.size
  sz : ops'.size = n
  same : ∀ i, i < n → ops'[i]? = ops[i]?
  edge : ∀ i o, i < n → ops[i]? = some o → ∀ e ∈ o.after, e.on < i
  guard : ∀ i o g b, i < n → ops[i]? = some o → o.guard = some (g, b) → g < i
  sink : ∀ i, i < n → ∃ j, i < j ∧ j ≤ n ∧ Region.waitsFor .any ops j i = true
  tail : ∀ t, n < t → t < ops.size → ∃ j, n ≤ j ∧ j < t ∧ Region.waitsFor .any ops t j = true

theorem Pivots.far {ops' : Array Oper} (p : Pivots ops ops' n) {L : Array Bool} (inv : HeadInv .any ops n L) : ∀ (d i : Nat), n - i = d → i < n → L.getD i true = false → ∀ t, n ≤ t → t ∉ Region.ready .any ops L := by
  intro d
  induction d using Nat.strongRecOn with
  | _ d ih =>
    intro i hd hi hun t ht hr
    obtain ⟨-, ot, hot, hall⟩ := mem_ready.1 hr
    have htl : t < ops.size := (Array.getElem?_eq_some_iff.1 hot).1
    have bad : ∀ j, L.getD j true = false → Region.waitsFor .any ops t j = true → False := fun j hj hw => by
      obtain ⟨o', ho', e, he, hb, hon⟩ := Region.waitsFor_spec hw
      rw [hot] at ho'
      cases ho'
      have := hall e he hb
      rw [hon, getD_both hj] at this
      cases this
    rcases Nat.lt_or_ge n t with h | h
    · obtain ⟨j, h1, h2, h3⟩ := p.tail t h htl
      exact bad j (inv.tail j h1 (by omega)) h3
    · obtain ⟨j, h1, h2, h3⟩ := p.sink i hi
      rcases Nat.lt_or_ge j n with h4 | h4
      · cases hl : L.getD j false with
        | true =>
          obtain ⟨o', ho', e, he, hb, hon⟩ := Region.waitsFor_spec h3
          have := inv.closed j o' ho' hl e he hb
          rw [hon, getD_both hun] at this
          cases this
        | false => exact ih (n - j) (by omega) j rfl h4 (getD_in (by rw [inv.size]; have := p.lt; omega) hl) t ht hr
      · have : j = t := by omega
        subst this
        exact bad i hun h3

theorem getD_dflt {L : Array Bool} {i : Nat} (h : i < L.size) (c d : Bool) : L.getD i c = L.getD i d := by simp [Array.getD, h]

theorem Pivots.head {ops' : Array Oper} (p : Pivots ops ops' n) {G : Act → Prop} {g : Nat}
    (hG : ∀ (L : Array Bool) (a : Act), HeadInv .any ops n L → (∀ i, i < n → L.getD i true = true) → G a → wpAny P .any ops Q g L a w) :
    ∀ (f : Nat) (L L' : Array Bool) (a : Act), HeadInv .any ops n L → L'.size = n → (∀ i, i < n → L.getD i true = L'.getD i true) → L'.toList.count false = f →
      wpAnyS P .any ops' w G f L' a → wpAny P .any ops Q (f + g) L a w
  | 0, L, L', a, inv, hs, hL, hc, h => by
    rw [Nat.zero_add]
    refine hG L a inv (fun i hi => ?_) h.2
    rw [hL i hi]
    exact ready_of_none L' (by rw [hs, p.sz]) (fun i o ho e he => by
      have hi : i < n := by have := (Array.getElem?_eq_some_iff.1 ho).1; rw [p.sz] at this; exact this
      exact p.edge i o hi (by rw [← p.same i hi]; exact ho) e he) h.1 i (by rw [p.sz]; exact hi)
  | f + 1, L, L', a, inv, hs, hL, hc, h => by
    have hsz := inv.size
    have hlt := p.lt
    have old : ∀ i, i < n → L'.getD i false = L.getD i false := fun i hi => by
      rw [getD_dflt (L := L') (by omega) false true, ← hL i hi, getD_dflt (by omega) true false]
    have up : ∀ i, i < n → (i ∈ Region.ready .any ops' L' ↔ i ∈ Region.ready .any ops L) := fun i hi => by
      rw [mem_ready, mem_ready, p.same i hi, hL i hi]
      constructor
      · rintro ⟨h1, o, ho, h2⟩
        exact ⟨h1, o, ho, fun e he hb => by rw [← old _ (by have := p.edge i o hi ho e he; omega)]; exact h2 e he hb⟩
      · rintro ⟨h1, o, ho, h2⟩
        exact ⟨h1, o, ho, fun e he hb => by rw [old _ (by have := p.edge i o hi ho e he; omega)]; exact h2 e he hb⟩
    obtain ⟨i0, hi0, hun0⟩ : ∃ i, i < n ∧ L'.getD i true = false := by
      have : false ∈ L'.toList := List.count_pos_iff.1 (by omega)
      obtain ⟨i, hi, he⟩ := List.getElem_of_mem this
      have hi' : i < L'.size := by simpa using hi
      exact ⟨i, by omega, by simp [Array.getD, hi']; simpa using he⟩
    have far := p.far inv _ i0 rfl hi0 (by rw [hL i0 hi0]; exact hun0)
    rw [show f + 1 + g = (f + g) + 1 by omega]
    refine ⟨fun h0 => ?_, fun i hi => ?_⟩
    · exfalso
      have hr : Region.ready .any ops' L' = [] := by
        rw [List.eq_nil_iff_forall_not_mem]
        intro i hi
        have hin : i < n := by
          obtain ⟨-, o, ho, -⟩ := mem_ready.1 hi
          have := (Array.getElem?_eq_some_iff.1 ho).1
          rw [p.sz] at this
          exact this
        have := (up i hin).1 hi
        rw [h0] at this
        cases this
      have := ready_of_none L' (by rw [hs, p.sz]) (fun i o ho e he => by
        have hi : i < n := by have := (Array.getElem?_eq_some_iff.1 ho).1; rw [p.sz] at this; exact this
        exact p.edge i o hi (by rw [← p.same i hi]; exact ho) e he) hr i0 (by rw [p.sz]; exact hi0)
      rw [this] at hun0
      cases hun0
    · have hin : i < n := by
        rcases Nat.lt_or_ge i n with h1 | h1
        · exact h1
        · exact absurd hi (far i h1)
      have hi' := (up i hin).2 hi
      have hst := h.2 i hi'
      have hun : L'.getD i true = false := (mem_ready.1 hi').1
      have hLi : i < L'.size := by omega
      have hcnt := count_set_true (l := L'.toList) (i := i) (by simpa using hLi) (by simpa [Array.getD, hLi] using hun)
      have hst' : stOp P ops w i (wpAnyS P .any ops' w G f (L'.setIfInBounds i true)) a := by
        unfold stOp at hst ⊢
        rw [p.same i hin] at hst
        cases ho : ops[i]? with
        | none => rw [ho] at hst; exact hst
        | some o =>
          rw [ho] at hst
          simp only at hst ⊢
          have hw : Region.wanted o (yielded ops' a.tmps) = Region.wanted o (yielded ops a.tmps) := by
            cases hg : o.guard with
            | none => simp [Region.wanted, hg]
            | some gb =>
              obtain ⟨q, b⟩ := gb
              have := p.guard i o q b hin ho hg
              simp [Region.wanted, hg, yielded, p.same q (by omega)]
          rw [← hw]
          exact hst
      refine wpOp_of_stOp (fun a' h' => p.head hG f _ (L'.setIfInBounds i true) a' (inv.set hi hin) (by simpa using hs) (fun j hj => ?_) (by rw [Array.toList_setIfInBounds]; omega) h') hst'
      by_cases hji : j = i
      · subst hji
        have h1 : j < L.size := by omega
        have h2 : j < L'.size := by omega
        simp [Array.getD, h1, h2]
      · rw [getD_set_ne true (Ne.symm hji), getD_set_ne true (Ne.symm hji)]
        exact hL j hj

/-- The edges, by a Boolean. -/
def pivotB (ops : Array Oper) (n : Nat) : Bool :=
  decide (n < ops.size) && Region.noSelect ops && Region.noSelect (ops.extract 0 n) && Region.sinkB .any ops n &&
  ((List.range n).all fun i => (ops[i]?).all fun o => (o.after.all fun e => decide (e.on < i)) && o.guard.all fun g => decide (g.1 < i)) &&
  ((List.range ops.size).all fun t => decide (t ≤ n) || (List.range t).any fun j => decide (n ≤ j) && Region.waitsFor .any ops t j) &&
  Region.lexFrom .any (ops.extract 0 n) n 0 (Array.replicate n false) &&
  decide (Region.ready .any ops (Array.replicate n true ++ Array.replicate (ops.size - n) false) = [n]) &&
  Region.lexFrom .any ops (ops.size - n - 1) (n + 1) ((Array.replicate n true ++ Array.replicate (ops.size - n) false).setIfInBounds n true)

theorem pivots_of (h : pivotB ops n = true) : Pivots ops (ops.extract 0 n) n := by
  simp only [pivotB, Bool.and_eq_true, decide_eq_true_eq] at h
  obtain ⟨⟨⟨⟨⟨⟨⟨⟨h1, -⟩, -⟩, h2⟩, h3⟩, h4⟩, -⟩, -⟩, -⟩ := h
  have h3' : ∀ i o, i < n → ops[i]? = some o → (∀ e ∈ o.after, e.on < i) ∧ ∀ g b, o.guard = some (g, b) → g < i := fun i o hi ho => by
    have := List.all_eq_true.1 h3 i (List.mem_range.2 hi)
    rw [ho] at this
    simp only [Option.all_some, Bool.and_eq_true, Array.all_eq_true_iff_forall_mem, decide_eq_true_eq] at this
    exact ⟨this.1, fun g b hg => by have := this.2; rw [hg] at this; simpa using this⟩
  exact {
    lt := h1
    sz := by simp; omega
    same := fun i hi => by rw [Array.getElem?_extract]; simp; omega
    edge := fun i o hi ho => (h3' i o hi ho).1
    guard := fun i o g b hi ho hg => (h3' i o hi ho).2 g b hg
    sink := fun i hi => by
      have := List.all_eq_true.1 h2 i (List.mem_range.2 hi)
      obtain ⟨j, hj, hj2⟩ := List.any_eq_true.1 this
      simp only [Bool.and_eq_true, decide_eq_true_eq] at hj2
      exact ⟨j, hj2.1, by have := List.mem_range.1 hj; omega, hj2.2⟩
    tail := fun t h5 h6 => by
      have := List.all_eq_true.1 h4 t (List.mem_range.2 h6)
      simp only [Bool.or_eq_true, decide_eq_true_eq] at this
      rcases this with h | h
      · omega
      · obtain ⟨j, hj, hj2⟩ := List.any_eq_true.1 h
        simp only [Bool.and_eq_true, decide_eq_true_eq] at hj2
        exact ⟨j, hj2.1, List.mem_range.1 hj, hj2.2⟩ }

theorem still_ops {ops' : Array Oper} {G : Act → Prop} : ∀ (l : List Oper) (a : Act), (∀ o ∈ l, ∀ (t : Array Value), Region.wanted o (yielded ops' t) = Region.wanted o (yielded ops t)) → wpStill P ops w G l a → wpStill P ops' w G l a
  | [], a, _, h => h
  | o :: l, a, hw, h => by
    unfold wpStill at h ⊢
    rw [hw o (by simp) a.tmps]
    split
    · rename_i hx
      rw [if_pos hx] at h
      exact Oper.still_mono (fun a' h' => still_ops l a' (fun o' ho' => hw o' (by simp [ho'])) h') h
    · rename_i hx
      rw [if_neg hx] at h
      exact still_ops l _ (fun o' ho' => hw o' (by simp [ho'])) h

theorem wp_region_pivot {id : Nat} {a : Act} {w : World} {l : List Oper} (n : Nat) (hm : P.follows .mixedOrders = true) (hB : pivotB l.toArray n = true)
    (h : wpStill P l.toArray w.drew (fun a' => wpList P l.toArray (Piv P l.toArray Q (l.drop (n + 1))) ((l.drop n).take 1) a' w.drew) (l.take n) a) : (Code.region id l.toArray true).wp P Q a w := by
  have p := pivots_of hB
  simp only [pivotB, Bool.and_eq_true, decide_eq_true_eq] at hB
  obtain ⟨⟨⟨⟨⟨⟨⟨⟨h1, hsel⟩, hsel'⟩, -⟩, -⟩, -⟩, hlex⟩, hrd⟩, hlex2⟩ := hB
  have h1' : n < l.length := by simpa using h1
  have hops : (l.toArray.extract 0 n) = (l.take n).toArray := by simp
  have hlen : (l.take n).length = n := by simp; omega
  refine wp_region_any hm ?_
  obtain ⟨o, ho⟩ : ∃ o, l[n]? = some o := ⟨_, List.getElem?_eq_getElem h1'⟩
  have hd1 : (l.drop n).take 1 = [o] := by
    rw [List.drop_eq_getElem_cons h1', List.take_succ_cons, List.take_zero]
    rw [List.getElem?_eq_getElem h1'] at ho
    simpa using ho
  have hG : ∀ (L : Array Bool) (a : Act), HeadInv .any l.toArray n L → (∀ i, i < n → L.getD i true = true) →
      wpList P l.toArray (Piv P l.toArray Q (l.drop (n + 1))) ((l.drop n).take 1) a w.drew → wpAny P .any l.toArray Q (l.toArray.size - n) L a w.drew := by
    intro L a inv hL hh
    have hLe : L = Array.replicate n true ++ Array.replicate (l.toArray.size - n) false := by
      apply Array.ext
      · rw [inv.size]; simp; omega
      · intro i hi1 hi2
        by_cases hin : i < n
        · have := hL i hin
          simp only [Array.getD, hi1, ↓reduceDIte, Array.getInternal_eq_getElem] at this
          rw [this, Array.getElem_append_left (by simpa using hin)]
          simp
        · have := inv.tail i (by omega) (by rw [← inv.size]; exact hi1)
          simp only [Array.getD, hi1, ↓reduceDIte, Array.getInternal_eq_getElem] at this
          rw [this, Array.getElem_append_right (by simp; omega)]
          simp
    rw [show l.toArray.size - n = (l.toArray.size - n - 1) + 1 by omega, hLe]
    refine ⟨fun h0 => (by rw [hrd] at h0; cases h0), fun i hi => ?_⟩
    rw [hrd] at hi
    have hin : i = n := by simpa using hi
    subst hin
    rw [hd1] at hh
    have tailw : ∀ a' w', wpStill P l.toArray w' (fun a'' => Q .normal a'' w') (l.drop (i + 1)) a' → wpAny P .any l.toArray Q (l.toArray.size - i - 1) ((Array.replicate i true ++ Array.replicate (l.toArray.size - i) false).setIfInBounds i true) a' w' := fun a' w' h' => by
      have hdl : (l.drop (i + 1)).length = l.toArray.size - i - 1 := by simp; omega
      have := wpAnyS_lex (md := .any) hsel (l.drop (i + 1)) (i + 1) ((Array.replicate i true ++ Array.replicate (l.toArray.size - i) false).setIfInBounds i true) a' (fun j => by simp [List.getElem?_drop]) (by rw [hdl]; exact hlex2) h'
      rw [hdl] at this
      exact wpAny_of_still (Q := fun a'' => Q .normal a'' w') (fun _ h => h) _ _ _ this
    unfold wpOp
    rw [show l.toArray[i]? = some o by simpa using ho]
    simp only
    unfold wpList at hh
    split at hh
    · rename_i hx
      rw [if_pos hx]
      rcases hh with hh | ⟨h5, h6⟩
      · exact .inl (Oper.wp_mono (fun a' w' h' => tailw a' w' h') (piv_wp hh))
      · exact .inr ⟨h5, piv_lets h6⟩
    · rename_i hx
      rw [if_neg hx]
      exact tailw _ _ hh
  have hS : wpAnyS P .any (l.toArray.extract 0 n) w.drew (fun a' => wpList P l.toArray (Piv P l.toArray Q (l.drop (n + 1))) ((l.drop n).take 1) a' w.drew) n (Array.replicate n false) a := by
    have hst := still_ops (ops := l.toArray) (ops' := l.toArray.extract 0 n) (l.take n) a (fun o ho t => by
      obtain ⟨i, hi, he⟩ := List.getElem_of_mem ho
      have hin : i < n := by omega
      have hoi : l.toArray[i]? = some o := by
        rw [List.getElem_take] at he
        rw [List.getElem?_toArray, List.getElem?_eq_getElem (by omega), he]
      cases hg : o.guard with
      | none => simp [Region.wanted, hg]
      | some gb =>
        obtain ⟨q, b⟩ := gb
        have := p.guard i o q b hin hoi hg
        simp only [Region.wanted, hg, yielded, p.same q (by omega)]) h
    have := wpAnyS_lex (md := .any) (P := P) (w := w.drew) hsel' (l.take n) 0 (Array.replicate n false) a (fun j => by rw [hops]; simp) (by rw [hlen]; exact hlex) hst
    rwa [hlen] at this
  have inv0 : HeadInv .any l.toArray n (Array.replicate l.toArray.size false) :=
    ⟨by simp, fun j oj _ hl => (by rw [getD_replicate_false] at hl; cases hl), fun t _ ht => getD_in (by simpa using ht) (getD_replicate_false _ _)⟩
  have := p.head hG n _ (Array.replicate n false) a inv0 (by simp) (fun i hi => by
    have h2 : i < l.toArray.size := by omega
    simp [Array.getD, hi]
    simpa using h2) (by simp) hS
  rw [show n + (l.toArray.size - n) = l.toArray.size by omega] at this
  exact this
end
end Go.Proofs.Ytmefjkggibbhoaa
