/- A part of the proof, several texts in one: Turn, PlT. -/
import Derived.Test.YthaliljaglldjaaGreatmAG
import Derived.Test.YthaliljaglldjaaGreatmAW
import Derived.StillTailTactics
/- A region that draws its order: operations that only read, some of them tied to nothing; ONE call that turns memory; a tail in one forced order that waits for all of them. -/
namespace Go.Proofs.YthaliljaglldjaaGreat
open Go.RowKit
def turnB (l : List Oper) (z : Oper) (d n : Nat) (fr : List Nat) : Bool :=
  z.guard.isNone && (z.after.all fun e => decide (e.on < l.length)) && decide (d < n) && (l.all fun o => o.dst.isSome && decide (o.dst ≠ some d)) &&
  (List.range l.length).all fun i => fr.contains i || (z.after.any fun e => e.on == i && Region.binds .any e) || l.zipIdx.any fun x => decide (i < x.2) && !fr.contains x.2 && x.1.after.any fun e => e.on == i && Region.binds .any e
theorem turn_all {l : List Oper} {z : Oper} {d n : Nat} {fr : List Nat} (h : turnB l z d n fr = true) {A : Array Bool} (hz : ∀ e ∈ z.after, Region.binds .any e = true → A.getD e.on false = true)
    (hc : ∀ (i : Nat) (o : Oper), l[i]? = some o → A.getD i false = true → ∀ e ∈ o.after, Region.binds .any e = true → A.getD e.on false = true) : ∀ (k i : Nat), l.length - i ≤ k → i < l.length → fr.contains i = false → A.getD i false = true := by
  simp only [turnB, Bool.and_eq_true] at h
  have h5 := List.all_eq_true.1 h.2
  intro k
  induction k with
  | zero => intro i h1 h2; omega
  | succ k ih =>
    intro i h1 h2 h3
    have := h5 i (List.mem_range.2 h2)
    rw [h3] at this
    simp only [Bool.false_or, Bool.or_eq_true] at this
    rcases this with h4 | h4
    · obtain ⟨j, hj, h6⟩ := Array.any_eq_true.1 h4
      simp only [Bool.and_eq_true, beq_iff_eq] at h6
      have := hz _ (Array.getElem_mem hj) h6.2
      rwa [h6.1] at this
    · obtain ⟨⟨o, j⟩, hj, h6⟩ := List.any_eq_true.1 h4
      simp only [Bool.and_eq_true, decide_eq_true_eq, Bool.not_eq_true'] at h6
      obtain ⟨⟨h7, h8⟩, h9⟩ := h6
      have hj' := List.mem_zipIdx_iff_getElem?.1 hj
      simp only at hj' h7 h8 h9
      have hjl := (List.getElem?_eq_some_iff.1 hj').1
      have hl := ih j (by omega) hjl h8
      obtain ⟨q, hq, h6⟩ := Array.any_eq_true.1 h9
      simp only [Bool.and_eq_true, beq_iff_eq] at h6
      have := hc j o hj' hl _ (Array.getElem_mem hq) h6.2
      rwa [h6.1] at this
theorem wp_region_turn {P : Program} {Q : Exit → Act → World → Prop} {id : Nat} {l : List Oper} {z t0 : Oper} {t : List Oper} {a0 : Act} {w0 : World} {d : Nat} (fr : List Nat) (Val : Nat → Value) (Post : Value → World → Prop) (hm : P.follows .mixedOrders = true)
    (hB : growB l a0.tmps.size = true) (hzd : z.dst = some d) (hT : turnB l z d a0.tmps.size fr = true) (ht : (chainB (l.length + 1) 0 (t0 :: t) && lastB (l ++ [z]) t0 && (t0 :: t).all fun o => o.guard.isNone) = true)
    (read : ∀ (i : Nat) (o : Oper) (a : Act) (w : World), l[i]? = some o → (w = w0.drew ∨ fr.contains i = true) → (∀ e ∈ o.after, Region.binds .any e = true → ∀ oj, l[e.on]? = some oj → valOf oj a = Val e.on) →
      (∀ s, (∀ oj ∈ l ++ [z], oj.dst ≠ some s) → a.tmps.getD s undef = a0.tmps.getD s undef) → (execOp a.eval o).run P w = .ok (.value (Val i)) w)
    (call : ∀ (a : Act), (∀ e ∈ z.after, Region.binds .any e = true → ∀ oj, l[e.on]? = some oj → valOf oj a = Val e.on) →
      (∀ s, (∀ oj ∈ l ++ [z], oj.dst ≠ some s) → a.tmps.getD s undef = a0.tmps.getD s undef) → z.wp P a w0.drew (fun a' w' => ∃ v, a' = a.put z.dst v ∧ Post v w') Q)
    (done : ∀ (a : Act) (w : World) (v : Value), Post v w → a.defers = a0.defers → a.tmps.size = a0.tmps.size → (∀ s, (∀ oj ∈ l ++ [z], oj.dst ≠ some s) → a.tmps.getD s undef = a0.tmps.getD s undef) →
      (∀ (i : Nat) (o : Oper), l[i]? = some o → valOf o a = Val i) → a.tmps.getD d undef = v → wpTail P Q (t0 :: t) a w) :
    (Code.region id (l ++ (z :: t0 :: t)).toArray true).wp P Q a0 w0 := by
  obtain ⟨at1, at2⟩ := grow_at hB
  simp only [Bool.and_eq_true] at ht
  obtain ⟨⟨ht, hlast⟩, htg⟩ := ht
  have htg : ∀ (j : Nat) (o : Oper), (t0 :: t)[j]? = some o → o.guard = none := fun j o ho => by simpa using List.all_eq_true.1 htg o (List.mem_of_getElem? ho)
  have hT' := hT
  simp only [turnB, Bool.and_eq_true, decide_eq_true_eq] at hT'
  obtain ⟨⟨⟨⟨hz1, hz2⟩, hdn⟩, hds⟩, -⟩ := hT'
  have hz1 : z.guard = none := by simpa using hz1
  have hz2 : ∀ e ∈ z.after, e.on < l.length := fun e he => by
    rw [Array.all_eq_true_iff_forall_mem] at hz2
    exact of_decide_eq_true (hz2 e he)
  have hds : ∀ o ∈ l, o.dst.isSome = true ∧ o.dst ≠ some d := fun o ho => by
    have := List.all_eq_true.1 hds o ho
    simpa using this
  have hat : ∀ (i : Nat) (o : Oper), (l ++ (z :: t0 :: t)).toArray[i]? = some o → (l[i]? = some o ∧ i < l.length) ∨ (i = l.length ∧ o = z) ∨ (∃ j, i = l.length + 1 + j ∧ (t0 :: t)[j]? = some o ∧ j < (t0 :: t).length) := fun i o ho => by
    rw [List.getElem?_toArray, List.getElem?_append] at ho
    split at ho
    · exact .inl ⟨ho, by assumption⟩
    · right
      rename_i h
      rcases Nat.eq_or_lt_of_le (Nat.le_of_not_lt h) with h1 | h1
      · left
        subst h1
        simp at ho
        exact ⟨rfl, ho.symm⟩
      · right
        obtain ⟨j, hj⟩ : ∃ j, i - l.length = j + 1 := ⟨i - l.length - 1, by omega⟩
        rw [hj] at ho
        exact ⟨j, by omega, by simpa using ho, by simpa using (List.getElem?_eq_some_iff.1 ho).1⟩
  have hlen : (l ++ (z :: t0 :: t)).toArray.size = l.length + 1 + (t0 :: t).length := by simp; omega
  have hfrz : ∀ {a : Act} {v : Value}, (∀ s, (∀ oj ∈ l, oj.dst ≠ some s) → a.tmps.getD s undef = (a0.put z.dst v).tmps.getD s undef) → ∀ s, (∀ oj ∈ l ++ [z], oj.dst ≠ some s) → a.tmps.getD s undef = a0.tmps.getD s undef := fun {a v} h s hs => by
    rw [h s fun oj ho => hs oj (by simp [ho]), hzd]
    exact put_getD _ _ _ _ (fun e => hs z (by simp) (by rw [hzd, e]))
  refine wp_region_inv hm (fun A a w => A.size = l.length + 1 + (t0 :: t).length ∧
    (∀ (i : Nat) (o : Oper), (l ++ [z])[i]? = some o → A.getD i false = true → ∀ e ∈ o.after, Region.binds .any e = true → A.getD e.on false = true) ∧
    ((∃ j, 1 ≤ j ∧ j ≤ (t0 :: t).length ∧ (∀ i, i < l.length + 1 + j → A.getD i false = true) ∧ (∀ i, l.length + 1 + j ≤ i → A.getD i false = false) ∧ wpTail P Q ((t0 :: t).drop j) a w) ∨
     ((∀ i, l.length ≤ i → A.getD i false = false) ∧ ∃ B : Array Bool, (∀ i, i < l.length → B.getD i false = A.getD i false) ∧ GInv l (fun w w' => w' = w) (fun j v _ => v = Val j) (fun _ => false) (fun w => w = w0.drew) a0 B a w) ∨
     (A.getD l.length false = true ∧ (∀ i, l.length + 1 ≤ i → A.getD i false = false) ∧ (∀ i, i < l.length → fr.contains i = false → A.getD i false = true) ∧ ∃ v w1, Post v w1 ∧ ∃ B : Array Bool, (∀ i, i < l.length → B.getD i false = A.getD i false) ∧
       GInv l (fun w w' => w' = w) (fun j v _ => v = Val j) (fun _ => false) (fun w => w = w1) (a0.put z.dst v) B a w))) ?_ ?_ ?_ ?_
  · intro i o ho e he
    rcases hat i o ho with ⟨ho, -⟩ | ⟨rfl, rfl⟩ | ⟨j, rfl, ho, -⟩
    · exact (at1 i o ho).2.1 e he
    · exact hz2 e he
    · have := (chainB_at ht ho).1 e he
      omega
  · refine ⟨by simp; omega, fun i o _ h => (by rw [getD_replicate_false] at h; cases h), .inr (.inl ⟨fun i _ => getD_replicate_false _ _, Array.replicate l.length false, fun i _ => by rw [getD_replicate_false, getD_replicate_false], ?_⟩)⟩
    exact {
      lsz := by simp
      c := rfl
      sz := rfl
      df := rfl
      fr := fun t _ => rfl
      phi := fun i o _ h => by rw [getD_replicate_false] at h; cases h
      blk := fun i o _ h => by rw [getD_replicate_false] at h; cases h
      ne := fun i j oi oj _ _ _ h => by rw [getD_replicate_false] at h; cases h }
  · rintro A a w i o ⟨hA, hcl, hI⟩ ho hAi hdep
    have hwant : ∀ ops, Region.wanted o (yielded ops a.tmps) = true := fun ops => by
      have : o.guard = none := by
        rcases hat i o ho with ⟨ho, -⟩ | ⟨rfl, rfl⟩ | ⟨j, rfl, ho, -⟩
        · exact (at1 i o ho).1
        · exact hz1
        · exact htg j o ho
      simp [Region.wanted, this]
    rw [if_pos (hwant _)]
    have hiA : i < A.size := by
      rcases hat i o ho with ⟨-, hi⟩ | ⟨rfl, -⟩ | ⟨j, rfl, -, hj⟩ <;> omega
    have hAf : A.getD i false = false := by
      simp only [Array.getD, hiA, dif_pos] at hAi ⊢
      exact hAi
    have hcl' : ∀ (k : Nat) (q : Oper), (l ++ [z])[k]? = some q → (A.setIfInBounds i true).getD k false = true → ∀ e ∈ q.after, Region.binds .any e = true → (A.setIfInBounds i true).getD e.on false = true := fun k q hk hl e he hb => by
      have key : A.getD e.on false = true := by
        by_cases e1 : k = i
        · subst e1
          have hoq : o = q := by
            rcases hat k o ho with ⟨ho', hkl⟩ | ⟨rfl, rfl⟩ | ⟨j, rfl, -, -⟩
            · rw [List.getElem?_append_left hkl, ho'] at hk
              exact Option.some.inj hk
            · simpa using hk
            · have := (List.getElem?_eq_some_iff.1 hk).1
              simp at this
              omega
          subst hoq
          exact hdep e he hb
        · rw [getD_set_ne false (Ne.symm e1)] at hl
          exact hcl k q hk hl e he hb
      by_cases e2 : i = e.on
      · rw [← e2]
        exact getD_set_same' hiA
      · rw [getD_set_ne false e2]
        exact key
    have hcll : ∀ (k : Nat) (q : Oper), l[k]? = some q → A.getD k false = true → ∀ e ∈ q.after, Region.binds .any e = true → A.getD e.on false = true := fun k q hk => hcl k q (by rw [List.getElem?_append_left (List.getElem?_eq_some_iff.1 hk).1]; exact hk)
    have hfirst : ∀ {o' : Oper}, o' = t0 → (∀ e ∈ o'.after, Region.binds .any e = true → A.getD e.on false = true) → ∀ i, i < l.length + 1 → A.getD i false = true := fun {o'} e hd i hi => by
      subst e
      exact lastB_all hlast hd hcl i (by simpa using hi)
    have tail0 : ∀ {a w}, (∀ i, i < l.length + 1 → A.getD i false = true) → (∀ i, l.length + 1 ≤ i → A.getD i false = false) → i = l.length + 1 → wpTail P Q (t0 :: t) a w → o = t0 → o.wp P a w (fun a' w' => (A.setIfInBounds i true).size = l.length + 1 + (t0 :: t).length ∧
        (∀ (i_1 : Nat) (o : Oper), (l ++ [z])[i_1]? = some o → (A.setIfInBounds i true).getD i_1 false = true → ∀ e ∈ o.after, Region.binds .any e = true → (A.setIfInBounds i true).getD e.on false = true) ∧
        (∃ j, 1 ≤ j ∧ j ≤ (t0 :: t).length ∧ (∀ i_1, i_1 < l.length + 1 + j → (A.setIfInBounds i true).getD i_1 false = true) ∧ (∀ i_1, l.length + 1 + j ≤ i_1 → (A.setIfInBounds i true).getD i_1 false = false) ∧ wpTail P Q ((t0 :: t).drop j) a' w')) Q := by
      intro a w hon hoff hi hq ho
      subst ho
      refine Oper.wp_mono ?_ hq
      intro a' w' hq'
      refine ⟨by simpa using hA, hcl', 1, Nat.le_refl _, by simp, fun x hx => ?_, fun x hx => ?_, hq'⟩
      · by_cases e : x = i
        · subst e
          exact getD_set_same' hiA
        · rw [getD_set_ne false (by omega)]
          exact hon x (by omega)
      · rw [getD_set_ne false (by omega)]
        exact hoff x (by omega)
    rcases hI with ⟨k, hk1, hk2, hon, hoff, hq⟩ | ⟨hoff, B, hBA, hI⟩ | ⟨hzon, hoff, hnf, v, w1, hP, B, hBA, hI⟩
    · rcases hat i o ho with ⟨-, hi⟩ | ⟨rfl, -⟩ | ⟨j, rfl, hj, hjl⟩
      · rw [hon i (by omega)] at hAf
        cases hAf
      · rw [hon _ (by omega)] at hAf
        cases hAf
      · have hjk : j = k := by
          rcases Nat.lt_trichotomy j k with h | h | h
          · rw [hon (l.length + 1 + j) (by omega)] at hAf
            cases hAf
          · exact h
          · exfalso
            obtain ⟨e, he, h1, h2⟩ := (chainB_at ht hj).2 (by omega)
            have h3 := hdep e he h2
            rw [h1, hoff _ (by omega)] at h3
            cases h3
        subst hjk
        have hdrop : (t0 :: t).drop j = o :: (t0 :: t).drop (j + 1) := by
          rw [List.drop_eq_getElem_cons hjl, (List.getElem?_eq_some_iff.1 hj).2]
        rw [hdrop] at hq
        refine Oper.wp_mono ?_ hq
        intro a' w' hq'
        refine ⟨by simpa using hA, hcl', .inl ⟨j + 1, by omega, by omega, fun i hi => ?_, fun i hi => ?_, hq'⟩⟩
        · by_cases e : i = l.length + 1 + j
          · subst e
            exact getD_set_same' hiA
          · rw [getD_set_ne false (by omega)]
            exact hon i (by omega)
        · rw [getD_set_ne false (by omega)]
          exact hoff i (by omega)
    · rcases hat i o ho with ⟨ho', hi⟩ | ⟨rfl, rfl⟩ | ⟨j, rfl, hj, hjl⟩
      · refine Oper.wp_mono ?_ (grow_step hB (fun w w' => w' = w) (fun j v _ => v = Val j) (fun _ => false) (fun w => w = w0.drew) (fun _ _ _ _ _ h => h) (fun w w' h => by rw [h]; exact Nat.le_refl _) (fun w w' h h' => h'.trans h) (fun hC hG => ?_) hI ho' fun e he hb => ?_)
        · rintro a' w' hI'
          refine ⟨by simpa using hA, hcl', .inr (.inl ⟨fun x hx => ?_, _, fun x hx => ?_, hI'⟩)⟩
          · rw [getD_set_ne false (by omega)]
            exact hoff x hx
          · by_cases e : i = x
            · subst e
              rw [getD_set_same' hiA, getD_set_same' (by rw [hI.lsz]; exact hi)]
            · rw [getD_set_ne false e, getD_set_ne false e]
              exact hBA x hx
        · have hr := read i o a w ho' (.inl hC) hG.dep (fun s hs => hG.fr s fun oj hoj => hs oj (by simp [hoj]))
          unfold Oper.wp
          rw [hr]
          obtain ⟨d', hd'⟩ := Option.isSome_iff_exists.1 (hds o (List.mem_of_getElem? ho')).1
          exact ⟨Val i, rfl, rfl, by rw [hd']; rfl, fun h => by cases h⟩
        · rw [hBA _ (Nat.lt_trans ((at1 i o ho').2.1 e he) hi)]
          exact hdep e he hb
      · have hnf := turn_all hT hdep hcll l.length
        have hc := call a (fun e he hb oj hoj => by
          have := hI.phi e.on oj hoj (by rw [hBA _ (hz2 e he)]; exact hdep e he hb)
          exact this) (fun s hs => hI.fr s fun oj hoj => hs oj (by simp [hoj]))
        rw [hI.c]
        refine Oper.wp_mono ?_ hc
        rintro a' w' ⟨v, rfl, hP⟩
        refine ⟨by simpa using hA, hcl', .inr (.inr ⟨getD_set_same' hiA, fun x hx => ?_, fun x hx hf => ?_, v, w', hP, B, fun x hx => ?_, ?_⟩)⟩
        · rw [getD_set_ne false (by omega)]
          exact hoff x (by omega)
        · rw [getD_set_ne false (by omega)]
          exact hnf x (by omega) hx hf
        · rw [getD_set_ne false (by omega)]
          exact hBA x hx
        · have vkeep : ∀ (j : Nat) (oj : Oper), l[j]? = some oj → valOf oj (a.put o.dst v) = valOf oj a := fun j oj hoj => by
            rw [hzd]
            unfold valOf
            cases hdj : oj.dst with
            | none => rfl
            | some s => exact put_getD a d v s (fun e => (hds oj (List.mem_of_getElem? hoj)).2 (by rw [hdj, e]))
          exact {
            lsz := hI.lsz
            c := rfl
            sz := by
              rw [hzd]
              simpa [Act.put] using hI.sz
            df := by
              rw [hzd]
              exact hI.df
            fr := fun s hs => by
              rw [hzd]
              by_cases e : s = d
              · subst e
                rw [put_getD_same a s v (by rw [hI.sz]; exact hdn), put_getD_same a0 s v hdn]
              · rw [put_getD a d v s e, put_getD a0 d v s e]
                exact hI.fr s hs
            phi := fun j oj hoj hl => by
              rw [vkeep j oj hoj]
              exact hI.phi j oj hoj hl
            blk := fun j oj _ _ h => by cases h
            ne := fun j k oj ok _ _ _ _ _ h => by cases h }
      · exfalso
        by_cases h0 : j = 0
        · subst h0
          have := hfirst (by simpa using hj.symm) hdep l.length (Nat.lt_succ_self _)
          rw [hoff _ (Nat.le_refl _)] at this
          cases this
        · obtain ⟨e, he, h1, h2⟩ := (chainB_at ht hj).2 (by omega)
          have h3 := hdep e he h2
          rw [hoff _ (by omega)] at h3
          cases h3
    · rcases hat i o ho with ⟨ho', hi⟩ | ⟨rfl, -⟩ | ⟨j, rfl, hj, hjl⟩
      · have hfi : fr.contains i = true := by
          cases h : fr.contains i with
          | true => rfl
          | false =>
            rw [hnf i hi h] at hAf
            cases hAf
        refine Oper.wp_mono ?_ (grow_step (a0 := a0.put z.dst v) (by rw [hzd]; simpa [Act.put] using hB) (fun w w' => w' = w) (fun j v _ => v = Val j) (fun _ => false) (fun w => w = w1) (fun _ _ _ _ _ h => h) (fun w w' h => by rw [h]; exact Nat.le_refl _) (fun w w' h h' => h'.trans h) (fun hC hG => ?_) hI ho' fun e he hb => ?_)
        · rintro a' w' hI'
          refine ⟨by simpa using hA, hcl', .inr (.inr ⟨?_, fun x hx => ?_, fun x hx hf => ?_, v, w1, hP, _, fun x hx => ?_, hI'⟩)⟩
          · rw [getD_set_ne false (by omega)]
            exact hzon
          · rw [getD_set_ne false (by omega)]
            exact hoff x hx
          · by_cases e : i = x
            · subst e
              exact getD_set_same' hiA
            · rw [getD_set_ne false e]
              exact hnf x hx hf
          · by_cases e : i = x
            · subst e
              rw [getD_set_same' hiA, getD_set_same' (by rw [hI.lsz]; exact hi)]
            · rw [getD_set_ne false e, getD_set_ne false e]
              exact hBA x hx
        · have hr := read i o a w ho' (.inr hfi) hG.dep (hfrz hG.fr)
          unfold Oper.wp
          rw [hr]
          obtain ⟨d', hd'⟩ := Option.isSome_iff_exists.1 (hds o (List.mem_of_getElem? ho')).1
          exact ⟨Val i, rfl, rfl, by rw [hd']; rfl, fun h => by cases h⟩
        · rw [hBA _ (Nat.lt_trans ((at1 i o ho').2.1 e he) hi)]
          exact hdep e he hb
      · rw [hzon] at hAf
        cases hAf
      · have hj0 : j = 0 := by
          rcases Nat.eq_zero_or_pos j with h | h
          · exact h
          · exfalso
            obtain ⟨e, he, h1, h2⟩ := (chainB_at ht hj).2 (by omega)
            have h3 := hdep e he h2
            rw [h1, hoff _ (by omega)] at h3
            cases h3
        subst hj0
        have hz : o = t0 := by simpa using hj.symm
        have hall : ∀ i, i < l.length + 1 → A.getD i false = true := hfirst hz hdep
        have hdo := done a w v (by rw [hI.c]; exact hP) (hI.df.trans (by rw [hzd]; rfl)) (hI.sz.trans (by rw [hzd]; simp [Act.put])) (hfrz hI.fr)
          (fun i q hq => hI.phi i q hq (by rw [hBA i (List.getElem?_eq_some_iff.1 hq).1]; exact hall i (by have := (List.getElem?_eq_some_iff.1 hq).1; omega)))
          (by rw [hI.fr d fun oj hoj => (hds oj hoj).2, hzd]; exact put_getD_same a0 d v hdn)
        refine Oper.wp_mono ?_ (tail0 hall hoff rfl hdo hz)
        rintro a' w' ⟨h1, h2, h3⟩
        exact ⟨h1, h2, .inl h3⟩
  · rintro A a w ⟨hA, -, hI⟩ hall
    rw [hlen] at hall
    have bad : ∀ i, i < A.size → A.getD i false = false → False := fun i hi h => by
      have h1 := hall i (by omega)
      simp only [Array.getD, hi, dif_pos] at h1 h
      rw [h1] at h
      cases h
    rcases hI with ⟨k, hk1, hk2, hon, hoff, hq⟩ | ⟨hoff, -⟩ | ⟨-, hoff, -⟩
    · have hk : k = (t0 :: t).length := by
        rcases Nat.lt_or_ge k (t0 :: t).length with h | h
        · exact (bad (l.length + 1 + k) (by omega) (hoff _ (Nat.le_refl _))).elim
        · omega
      subst hk
      simpa [wpTail] using hq
    · exact (bad l.length (by simp at hA; omega) (hoff _ (Nat.le_refl _))).elim
    · exact (bad (l.length + 1) (by simp at hA; omega) (hoff _ (Nat.le_refl _))).elim
theorem wp_region_turnK {P : Program} {Q : Exit → Act → World → Prop} {id : Nat} {L : List Oper} {z t0 : Oper} {t : List Oper} {a0 : Act} {w0 : World} {d : Nat} (k : Nat) (fr : List Nat) (Val : Nat → Value) (Post : Value → World → Prop) (hm : P.follows .mixedOrders = true)
    (hk : L.drop k = z :: t0 :: t) (hB : growB (L.take k) a0.tmps.size = true) (hzd : z.dst = some d) (hT : turnB (L.take k) z d a0.tmps.size fr = true) (ht : (chainB ((L.take k).length + 1) 0 (t0 :: t) && lastB (L.take k ++ [z]) t0 && (t0 :: t).all fun o => o.guard.isNone) = true)
    (read : ∀ (i : Nat) (o : Oper) (a : Act) (w : World), (L.take k)[i]? = some o → (w = w0.drew ∨ fr.contains i = true) → (∀ e ∈ o.after, Region.binds .any e = true → ∀ oj, (L.take k)[e.on]? = some oj → valOf oj a = Val e.on) →
      (∀ s, (∀ oj ∈ L.take k ++ [z], oj.dst ≠ some s) → a.tmps.getD s undef = a0.tmps.getD s undef) → (execOp a.eval o).run P w = .ok (.value (Val i)) w)
    (call : ∀ (a : Act), (∀ e ∈ z.after, Region.binds .any e = true → ∀ oj, (L.take k)[e.on]? = some oj → valOf oj a = Val e.on) →
      (∀ s, (∀ oj ∈ L.take k ++ [z], oj.dst ≠ some s) → a.tmps.getD s undef = a0.tmps.getD s undef) → z.wp P a w0.drew (fun a' w' => ∃ v, a' = a.put z.dst v ∧ Post v w') Q)
    (done : ∀ (a : Act) (w : World) (v : Value), Post v w → a.defers = a0.defers → a.tmps.size = a0.tmps.size → (∀ s, (∀ oj ∈ L.take k ++ [z], oj.dst ≠ some s) → a.tmps.getD s undef = a0.tmps.getD s undef) →
      (∀ (i : Nat) (o : Oper), (L.take k)[i]? = some o → valOf o a = Val i) → a.tmps.getD d undef = v → wpTail P Q (t0 :: t) a w) :
    (Code.region id L.toArray true).wp P Q a0 w0 := by
  have hL : L.take k ++ (z :: t0 :: t) = L := by rw [← hk, List.take_append_drop]
  revert hB hT ht read call done hL
  generalize L.take k = l
  intro hB hT ht read call done hL
  clear hk
  subst hL
  exact wp_region_turn fr Val Post hm hB hzd hT ht read call done
end Go.Proofs.YthaliljaglldjaaGreat
/- plain: a tally is given a number, is read. -/
namespace Go.Proofs.YthaliljaglldjaaGreat
open Go.RowKit Go.ChangeMaps Go.MapKept
variable {w : World} {p : Nat} {M : WM} {F : Nat → Prop}
theorem ldW_mid {w : World} {b o : Nat} {c : Array Value} {e : TypeId} {fr : Nat × Nat} (hb : w.heap[b]? = some (.cells c e fr)) {cs : List Value} (hc : ∀ j x, cs[j]? = some x → c[o + j]? = some x) (hs : cs.length = 16) : (ldW (.pointer (some ⟨b, o, none⟩))).run Tryz.prog w = .ok (.value (.agg cs.toArray)) w := by
  have := run_loadAt_mid w b o 46 cs _ (fun j x hj => by rw [cell_blk hb]; exact hc j x hj) Tryz.underlying46 rfl (by rw [hs]; exact sizeWhat)
  simp only [ldW, Sem.run_bind, this, Result.andThen, Sem.run_pure]
theorem baseC_at {p : Nat} {r : Int} {t : Th} {j : Nat} {x : Value} (h : (thc t).toList[j]? = some x) : (baseC p r t)[2 + j]? = some x := by
  have hj : j < 16 := (List.getElem?_eq_some_iff.1 h).1
  match j, hj, h with
  | 0, _, h => exact h
  | 1, _, h => exact h
  | 2, _, h => exact h
  | 3, _, h => exact h
  | 4, _, h => exact h
  | 5, _, h => exact h
  | 6, _, h => exact h
  | 7, _, h => exact h
  | 8, _, h => exact h
  | 9, _, h => exact h
  | 10, _, h => exact h
  | 11, _, h => exact h
  | 12, _, h => exact h
  | 13, _, h => exact h
  | 14, _, h => exact h
  | 15, _, h => exact h
def LaidB (w : World) (p : Nat) (M : WM) (F : Nat → Prop) (r : Int) (x : Th) (b : Nat) (w' : World) : Prop :=
  ∃ vl' vals' F', (x.v.l = [] → vl' = .slice none 0 0) ∧ IsW w' p (M.set r { x with vl := vl', vals := vals' }) F' ∧ Keeps (fun y => F y ∨ y = b) w w' ∧ ∀ y, F' y → F y ∨ w.heap.size ≤ y
end Go.Proofs.YthaliljaglldjaaGreat
