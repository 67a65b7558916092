/- A region that draws its order, whose operations make memory: what is known of each operation's value stays known as the memory grows. -/
import Derived.StillTail
import Derived.Test.YtifmifjbebpomaaGreatDoorAny
namespace Go.Proofs.YtifmifjbebpomaaGreatDoor
open Go.RowKit

/-- The value that an operation has left. -/
def valOf (o : Oper) (a : Act) : Value := match o.dst with | some d => a.tmps.getD d undef | none => undef
/-- The block that a value names. -/
def blkOf : Value → Option Nat
  | .map b => b
  | .slice (some a) _ _ => some a.block
  | .pointer (some a) => some a.block
  | _ => none
/-- What an operation is given: what is known of those that it waits for; the slots that the region does not write. -/
structure Given (l : List Oper) (Φ : Nat → Value → World → Prop) (cre : Nat → Bool) (a0 : Act) (o : Oper) (a : Act) (w : World) : Prop where
  dep : ∀ e ∈ o.after, Region.binds .any e = true → ∀ oj, l[e.on]? = some oj → Φ e.on (valOf oj a) w
  fr : ∀ t, (∀ oj ∈ l, oj.dst ≠ some t) → a.tmps.getD t undef = a0.tmps.getD t undef
  sz : a.tmps.size = a0.tmps.size
  ne : ∀ e ∈ o.after, ∀ f ∈ o.after, Region.binds .any e = true → Region.binds .any f = true → e.on ≠ f.on → ∀ oi oj, l[e.on]? = some oi → l[f.on]? = some oj → cre e.on = true → cre f.on = true → blkOf (valOf oi a) ≠ blkOf (valOf oj a)
/-- The region's form. -/
def growB (l : List Oper) (n : Nat) : Bool :=
  (l.zipIdx.all fun x => x.1.guard.isNone && (x.1.after.all fun e => decide (e.on < x.2)) && (match x.1.dst with | some d => decide (d < n) | none => true)) &&
  (l.zipIdx.all fun x => l.zipIdx.all fun y => decide (x.2 = y.2) || x.1.dst.isNone || decide (x.1.dst ≠ y.1.dst))

structure GInv (l : List Oper) (R : World → World → Prop) (Φ : Nat → Value → World → Prop) (cre : Nat → Bool) (C : World → Prop) (a0 : Act) (L : Array Bool) (a : Act) (w : World) : Prop where
  lsz : L.size = l.length
  c : C w
  sz : a.tmps.size = a0.tmps.size
  df : a.defers = a0.defers
  fr : ∀ t, (∀ oj ∈ l, oj.dst ≠ some t) → a.tmps.getD t undef = a0.tmps.getD t undef
  phi : ∀ (i : Nat) (o : Oper), l[i]? = some o → L.getD i false = true → Φ i (valOf o a) w
  blk : ∀ (i : Nat) (o : Oper), l[i]? = some o → L.getD i false = true → cre i = true → ∃ b, blkOf (valOf o a) = some b ∧ b < w.heap.size
  ne : ∀ (i j : Nat) (oi oj : Oper), i ≠ j → l[i]? = some oi → l[j]? = some oj → L.getD i false = true → L.getD j false = true → cre i = true → cre j = true → blkOf (valOf oi a) ≠ blkOf (valOf oj a)

theorem put_getD (a : Act) (d : Nat) (v : Value) (t : Nat) (h : t ≠ d) : (a.put (some d) v).tmps.getD t undef = a.tmps.getD t undef := by
  have : ¬ d = t := fun e => h e.symm
  simp only [Act.put, Array.getD_eq_getD_getElem?, Array.getElem?_setIfInBounds, if_neg this]
theorem put_getD_same (a : Act) (d : Nat) (v : Value) (h : d < a.tmps.size) : (a.put (some d) v).tmps.getD d undef = v := by
  simp [Act.put, Array.getD_eq_getD_getElem?, h]

theorem wp_region_grow {P : Program} {Q : Exit → Act → World → Prop} {id : Nat} {l : List Oper} {a0 : Act} {w0 : World} (hm : P.follows .mixedOrders = true) (hB : growB l a0.tmps.size = true)
    (R : World → World → Prop) (Φ : Nat → Value → World → Prop) (cre : Nat → Bool) (C : World → Prop)
    (hΦ : ∀ j v w w', R w w' → Φ j v w → Φ j v w') (hRs : ∀ w w', R w w' → w.heap.size ≤ w'.heap.size) (hC0 : C w0.drew) (hC : ∀ w w', C w → R w w' → C w')
    (step : ∀ (i : Nat) (o : Oper) (a : Act) (w : World), l[i]? = some o → C w → Given l Φ cre a0 o a w →
      o.wp P a w (fun a' w' => ∃ v, a' = a.put o.dst v ∧ R w w' ∧ Φ i (o.dst.elim undef fun _ => v) w' ∧ (cre i = true → o.dst.isSome = true ∧ ∃ b, blkOf v = some b ∧ w.heap.size ≤ b ∧ b < w'.heap.size)) Q)
    (done : ∀ a w, C w → a.defers = a0.defers → a.tmps.size = a0.tmps.size → (∀ t, (∀ oj ∈ l, oj.dst ≠ some t) → a.tmps.getD t undef = a0.tmps.getD t undef) → (∀ (i : Nat) (o : Oper), l[i]? = some o → Φ i (valOf o a) w) →
      (∀ (i j : Nat) (oi oj : Oper), i ≠ j → l[i]? = some oi → l[j]? = some oj → cre i = true → cre j = true → blkOf (valOf oi a) ≠ blkOf (valOf oj a)) → Q .normal a w) :
    (Code.region id l.toArray true).wp P Q a0 w0 := by
  simp only [growB, Bool.and_eq_true] at hB
  obtain ⟨hB1, hB2⟩ := hB
  have at1 : ∀ (i : Nat) (o : Oper), l[i]? = some o → o.guard = none ∧ (∀ e ∈ o.after, e.on < i) ∧ ∀ d, o.dst = some d → d < a0.tmps.size := fun i o ho => by
    have := List.all_eq_true.1 hB1 (o, i) (List.mem_zipIdx_iff_getElem?.2 ho)
    simp only [Bool.and_eq_true, Option.isNone_iff_eq_none, Array.all_eq_true_iff_forall_mem, decide_eq_true_eq] at this
    obtain ⟨⟨h1, h2⟩, h3⟩ := this
    exact ⟨h1, h2, fun d hd => by rw [hd] at h3; simpa using h3⟩
  have at2 : ∀ (i j : Nat) (oi oj : Oper), i ≠ j → l[i]? = some oi → l[j]? = some oj → ∀ d, oi.dst = some d → oj.dst ≠ some d := fun i j oi oj hne hi hj d hd => by
    have h1 := List.all_eq_true.1 hB2 (oi, i) (List.mem_zipIdx_iff_getElem?.2 hi)
    have h2 := List.all_eq_true.1 h1 (oj, j) (List.mem_zipIdx_iff_getElem?.2 hj)
    simp only [Bool.or_eq_true, decide_eq_true_eq, Option.isNone_iff_eq_none] at h2
    rcases h2 with (h2 | h2) | h2
    · exact absurd h2 hne
    · rw [hd] at h2; cases h2
    · rw [hd] at h2; exact fun e => h2 e.symm
  refine wp_region_inv hm (GInv l R Φ cre C a0) (fun i o ho => (at1 i o (by simpa using ho)).2.1) ?_ ?_ ?_
  · exact {
      lsz := by simp
      c := hC0
      sz := rfl
      df := rfl
      fr := fun t _ => rfl
      phi := fun i o _ h => by rw [getD_replicate_false] at h; cases h
      blk := fun i o _ h => by rw [getD_replicate_false] at h; cases h
      ne := fun i j oi oj _ _ _ h => by rw [getD_replicate_false] at h; cases h }
  · intro L a w i o hI ho hL hdep
    have ho' : l[i]? = some o := by simpa using ho
    obtain ⟨hg, -, hd⟩ := at1 i o ho'
    have hwant : Region.wanted o (yielded l.toArray a.tmps) = true := by simp [Region.wanted, hg]
    rw [if_pos hwant]
    have hil : i < L.size := by rw [hI.lsz]; exact (List.getElem?_eq_some_iff.1 ho').1
    refine Oper.wp_mono ?_ (step i o a w ho' hI.c ⟨fun e he hb oj hj => hI.phi _ _ hj (hdep e he hb), hI.fr, hI.sz, fun e he f hf hbe hbf hne oi oj hi hj hci hcj => hI.ne _ _ _ _ hne hi hj (hdep e he hbe) (hdep f hf hbf) hci hcj⟩)
    rintro a' w' ⟨v, rfl, hR, hv, hcr⟩
    have vother : ∀ (j : Nat) (oj : Oper), j ≠ i → l[j]? = some oj → valOf oj (a.put o.dst v) = valOf oj a := fun j oj hj hoj => by
      cases hdo : o.dst with
      | none => rfl
      | some d =>
        unfold valOf
        cases hdj : oj.dst with
        | none => rfl
        | some t =>
          have := at2 i j o oj (Ne.symm hj) ho' hoj d hdo
          exact put_getD a d v t (fun e => this (by rw [hdj, e]))
    have vself : valOf o (a.put o.dst v) = o.dst.elim undef fun _ => v := by
      unfold valOf
      cases hdo : o.dst with
      | none => rfl
      | some d => exact put_getD_same a d v (by rw [hI.sz]; exact hd d hdo)
    have lold : ∀ j, j ≠ i → (L.setIfInBounds i true).getD j false = true → L.getD j false = true := fun j hj h => by
      rwa [getD_set_ne false (Ne.symm hj)] at h
    exact {
      lsz := by simpa using hI.lsz
      c := hC _ _ hI.c hR
      sz := by
        rw [← hI.sz]
        cases o.dst with
        | none => rfl
        | some d => simp [Act.put]
      df := by
        rw [← hI.df]
        cases o.dst <;> rfl
      fr := fun t ht => by
        rw [← hI.fr t ht]
        cases hdo : o.dst with
        | none => rfl
        | some d => exact put_getD a d v t (fun e => ht o (List.mem_of_getElem? ho') (by rw [hdo, e]))
      phi := fun j oj hj hl => by
        by_cases e : j = i
        · subst e
          rw [ho'] at hj
          cases hj
          rw [vself]
          exact hv
        · rw [vother j oj e hj]
          exact hΦ _ _ _ _ hR (hI.phi j oj hj (lold j e hl))
      blk := fun j oj hj hl hc => by
        by_cases e : j = i
        · subst e
          rw [ho'] at hj
          cases hj
          obtain ⟨h1, b, h2, h3, h4⟩ := hcr hc
          rw [vself]
          obtain ⟨d, hd'⟩ := Option.isSome_iff_exists.1 h1
          rw [hd']
          exact ⟨b, h2, h4⟩
        · rw [vother j oj e hj]
          obtain ⟨b, h2, h3⟩ := hI.blk j oj hj (lold j e hl) hc
          exact ⟨b, h2, Nat.lt_of_lt_of_le h3 (hRs _ _ hR)⟩
      ne := fun j k oj ok hne hj hk hlj hlk hcj hck => by
        have key : ∀ (j : Nat) (oj : Oper), j ≠ i → l[j]? = some oj → L.getD j false = true → cre j = true → cre i = true → blkOf (valOf oj a) ≠ blkOf (valOf o (a.put o.dst v)) := fun j oj hj hoj hlj hcj hci => by
          obtain ⟨b, h2, h3⟩ := hI.blk j oj hoj hlj hcj
          obtain ⟨h1, b', h2', h3', h4'⟩ := hcr hci
          obtain ⟨d, hd'⟩ := Option.isSome_iff_exists.1 h1
          rw [vself, hd', h2]
          show some b ≠ blkOf v
          rw [h2']
          simp
          omega
        by_cases e : j = i
        · subst e
          rw [ho'] at hj
          cases hj
          rw [vother k ok (Ne.symm hne) hk]
          exact (key k ok (Ne.symm hne) hk (lold k (Ne.symm hne) hlk) hck hcj).symm
        · by_cases e' : k = i
          · subst e'
            rw [ho'] at hk
            cases hk
            rw [vother j oj e hj]
            exact key j oj e hj (lold j e hlj) hcj hck
          · rw [vother j oj e hj, vother k ok e' hk]
            exact hI.ne j k oj ok hne hj hk (lold j e hlj) (lold k e' hlk) hcj hck }
  · intro L a w hI hall
    have hl : ∀ (i : Nat) (o : Oper), l[i]? = some o → L.getD i false = true := fun i o ho => by
      have hi := (List.getElem?_eq_some_iff.1 ho).1
      have h1 := hall i (by simpa using hi)
      have : i < L.size := by rw [hI.lsz]; exact hi
      simpa [Array.getD, this] using h1
    exact done a w hI.c hI.df hI.sz hI.fr (fun i o ho => hI.phi i o ho (hl i o ho)) (fun i j oi oj hne hi hj => hI.ne i j oi oj hne hi hj (hl i oi hi) (hl j oj hj))
end Go.Proofs.YtifmifjbebpomaaGreatDoor
