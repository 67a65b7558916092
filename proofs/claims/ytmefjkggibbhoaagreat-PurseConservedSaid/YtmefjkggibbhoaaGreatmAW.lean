/- A part of the proof, several texts in one: SameD, GrowT. -/
import Derived.Test.YtmefjkggibbhoaaGreatmAV
import Derived.Test.YtmefjkggibbhoaaGreatmAR
import Derived.Test.YtmefjkggibbhoaaGreatmAE
/- slices.EqualFunc of two lists of entries that are the same. -/
namespace Go.Proofs.YtmefjkggibbhoaaGreat
open Go.RowKit Go.ChangeMaps Go.MapKept

/-- An entry's cells. -/
def ent (x : Int × Th) : List Value := .int .i64 x.1 :: (thc x.2).toList
theorem ent_len (x : Int × Th) : (ent x).length = 17 := rfl
/-- The entries lie at a. -/
def EntAt (w : World) (a : Option Addr) (xs : List (Int × Th)) : Prop := ∀ (k : Nat) (x : Int × Th), xs[k]? = some x → ∃ g, a = some ⟨g, 0, none⟩ ∧ ∀ w', Below w.heap.size w w' → w'.rangeAt g (k * 17) (ent x)
def stE (a x : Value) : Sem Next := do Instr.storeAt 118 a x; pure .skip
@[go_sem ↓] theorem execOp_stE (ρ : Operand → Value) (d : Option Tmp) (a x : Operand) (ty : TypeId) (pos : String) (af : Array Edge) (g : Option (Nat × Bool)) :
    execOp ρ { dst := d, op := .store 118 a x, type := ty, pos := pos, after := af, guard := g } = stE (ρ a) (ρ x) := rfl
theorem storeEntry_blk {w : World} {b : Nat} {c c' : Array Value} (hg : w.heap[b]? = some (.cells c 118 (0, 0))) (hs : c.size = 17) (hs' : c'.size = 17) (h1 : c'.all (·.oneCell') = true) :
    (stE (.pointer (some ⟨b, 0, none⟩)) (.agg c')).run Tryz.prog w = .ok .skip (w.setRow b c') := by
  have := run_storeAt_blk (P := Tryz.prog) hg (by rw [hs']; exact sizeEntry) (by rw [hs, hs']) h1
  simp only [stE, Sem.run_bind, this, Result.andThen, Sem.run_pure]
def zeroE : Array Value := #[.int .i64 0, .int .u8 0, .int .i64 0, .int .u8 0, .int .i64 0, .string ⟨#[]⟩, .slice none 0 0, .int .i64 0, .slice none 0 0, .int .i64 0, .int .i64 0, .int .i64 0, .int .i64 0, .int .u8 0, .bool false, .slice none 0 0, .slice none 0 0]
theorem boxed_entry (w1 : World) (xs : Array Value) (hs : xs.size = 17) (h1 : xs.all (·.oneCell') = true) :
    ∃ w2, (stE (.pointer (some ⟨w1.heap.size, 0, none⟩)) (.agg xs)).run Tryz.prog (w1.alloc (.cells #[.int .i64 0, .int .u8 0, .int .i64 0, .int .u8 0, .int .i64 0, .string ⟨#[]⟩, .slice none 0 0, .int .i64 0, .slice none 0 0, .int .i64 0, .int .i64 0, .int .i64 0, .int .i64 0, .int .u8 0, .bool false, .slice none 0 0, .slice none 0 0] 118)) = .ok .skip w2 ∧
      Below w1.heap.size w1 w2 ∧ w2.heap[w1.heap.size]? = some (.cells xs 118 (0, 0)) ∧ w2.heap.size = w1.heap.size + 1 :=
  ⟨_, storeEntry_blk (blk_new w1 _) rfl hs h1, Below.setRow ((Below.refl _ _).alloc (Nat.le_refl _) _) (Nat.le_refl _) _, heap_setRow_at (blk_new w1 _), by simp⟩

set_option maxHeartbeats 4000000 in
set_option maxRecDepth 100000 in
theorem eqfEntry_W (w : World) (pa pb : Option Addr) (n c1 c2 : Nat) (xs : List (Int × Th)) (ha : EntAt w pa xs) (hb : EntAt w pb xs) (hl : ∀ x ∈ xs, Lite x.2) (hn : n = xs.length) (hmax : (n : Int) ≤ 1099511627776) :
    Calls Tryz.prog 56 #[.slice pa n c1, .slice pb n c2, .func (.func 57) #[] #[]] w fun e w' => e = .returned (.bool true) ∧ Below w.heap.size w w' := by
  have HA := (show Hid (EntAt w pa xs) from ha)
  have HB := (show Hid (EntAt w pb xs) from hb)
  have HL := (show Hid (∀ x ∈ xs, Lite x.2) from hl)
  have HN := (show Hid (n = xs.length) from hn)
  clear ha hb hn hl
  go_enter Tryz.func56, Tryz.ntmps56
  go_wp2_with fail
  go_loopw [17] (fun vi wr => ∃ k : Nat, vi = .int .i64 k ∧ k ≤ n ∧ Hid (Below w.heap.size w wr)) (fun vi _ => n - (intOf vi).toNat)
  case atStart => exact ⟨0, rfl, by omega, Below.refl _ _⟩
  case round =>
    obtain ⟨k, rfl, hk, HW⟩ := hrel
    by_cases hkn : k < n
    · have hkz : (k : Int) < (n : Int) := by omega
      obtain ⟨⟨r, t⟩, hx⟩ : ∃ x, xs[k]? = some x := ⟨_, List.getElem?_eq_getElem (by have := HN.out; omega)⟩
      obtain ⟨k', h', vk, vn, n', l', tg, bi, s, fu, rfl, hp⟩ := HL.out _ (List.mem_of_getElem? hx)
      obtain ⟨g1, rfl, h1⟩ := HA.out k _ hx
      obtain ⟨g2, rfl, h2⟩ := HB.out k _ hx
      have l1 := loadEntry_mid (h1 wr HW.out) rfl
      obtain ⟨w2, hs2, hb2, hg2, -⟩ := boxed_entry wr (ent (r, lt k' h' vk vn n' l' tg bi s fu)).toArray rfl (by simp [ent, thc, lt, go_sem])
      have HW2 : Hid (Below w.heap.size w w2) := HW.out.trans (hb2.mono HW.out.size)
      have l2 := loadEntry_mid (h2 w2 HW2.out) rfl
      obtain ⟨w3, hs3, hb3, hg3, -⟩ := boxed_entry w2 (ent (r, lt k' h' vk vn n' l' tg bi s fu)).toArray rfl (by simp [ent, thc, lt, go_sem])
      have HW3 : Hid (Below w.heap.size w w3) := HW2.out.trans (hb3.mono HW2.out.size)
      have l3 := loadEntry_mid (rangeAt_blk (o := 0) (cs := ent (r, lt k' h' vk vn n' l' tg bi s fu)) (below_blk hb3 hg2) rfl) rfl
      have l4 := loadEntry_mid (rangeAt_blk (o := 0) (cs := ent (r, lt k' h' vk vn n' l' tg bi s fu)) hg3 rfl) rfl
      have Hp := (show Hid _ from hp)
      clear hx h1 h2 hp hb2 hg2 hb3 hg3
      go_wp2_with fail
      refine (WSame1_W w3 r k' h' vk vn n' l' tg bi s fu Hp.out).mono ?_
      rintro e w4 ⟨rfl, hb4⟩
      have HW4 : Hid (Below w.heap.size w w4) := HW3.out.trans (hb4.mono HW3.out.size)
      clear hb4 HW HW2 HW3 l1 l2 l3 l4 hs2 hs3
      go_wp2_with fail
      go_roundw
      case rel => exact ⟨k + 1, by go_num, by omega, HW4⟩
      case measure =>
        simp [intOf]
        omega
    · have hkz : ¬ (k : Int) < (n : Int) := by omega
      go_wp2_with fail
      go_ret
      exact ⟨rfl, HW.out⟩
end Go.Proofs.YtmefjkggibbhoaaGreat
/- A region that draws its order, whose operations make memory and whose last one stores: the law of XGrow with a last operation that may turn whatever it likes. -/
namespace Go.Proofs.YtmefjkggibbhoaaGreat
open Go.RowKit

theorem grow_at {l : List Oper} {n : Nat} (hB : growB l n = true) : (∀ (i : Nat) (o : Oper), l[i]? = some o → o.guard = none ∧ (∀ e ∈ o.after, e.on < i) ∧ ∀ d, o.dst = some d → d < n) ∧
    (∀ (i j : Nat) (oi oj : Oper), i ≠ j → l[i]? = some oi → l[j]? = some oj → ∀ d, oi.dst = some d → oj.dst ≠ some d) := by
  simp only [growB, Bool.and_eq_true] at hB
  obtain ⟨hB1, hB2⟩ := hB
  have at1 : ∀ (i : Nat) (o : Oper), l[i]? = some o → o.guard = none ∧ (∀ e ∈ o.after, e.on < i) ∧ ∀ d, o.dst = some d → d < n := fun i o ho => by
    have := List.all_eq_true.1 hB1 (o, i) (List.mem_zipIdx_iff_getElem?.2 ho)
    simp only [Bool.and_eq_true, Option.isNone_iff_eq_none, Array.all_eq_true_iff_forall_mem, decide_eq_true_eq] at this
    obtain ⟨⟨h1, h2⟩, h3⟩ := this
    exact ⟨h1, h2, fun d hd => by rw [hd] at h3; simpa using h3⟩
  have at2 : ∀ (i j : Nat) (oi oj : Oper), i ≠ j → l[i]? = some oi → l[j]? = some oj → ∀ d, oi.dst = some d → oj.dst ≠ some d := fun i j oi oj hne hi hj d hd => by
    have h1 := List.all_eq_true.1 hB2 (oi, i) (List.mem_zipIdx_iff_getElem?.2 hi)
    have h2 := List.all_eq_true.1 h1 (oj, j) (List.mem_zipIdx_iff_getElem?.2 hj)
    simp only [Bool.or_eq_true, decide_eq_true_eq, Option.isNone_iff_eq_none] at h2
    rcases h2 with (h2 | h2) | h2
    · exact absurd h2 hne
    · rw [hd] at h2; cases h2
    · rw [hd] at h2; exact fun e => h2 e.symm
  exact ⟨at1, at2⟩
theorem grow_step {P : Program} {Q : Exit → Act → World → Prop} {l : List Oper} {a0 : Act} (hB : growB l a0.tmps.size = true)
    (R : World → World → Prop) (Φ : Nat → Value → World → Prop) (cre : Nat → Bool) (C : World → Prop)
    (hΦ : ∀ j v w w', R w w' → Φ j v w → Φ j v w') (hRs : ∀ w w', R w w' → w.heap.size ≤ w'.heap.size) (hC : ∀ w w', C w → R w w' → C w')
    {i : Nat} {o : Oper} {a : Act} {w : World} {L : Array Bool}
    (step : C w → Given l Φ cre a0 o a w →
      o.wp P a w (fun a' w' => ∃ v, a' = a.put o.dst v ∧ R w w' ∧ Φ i (o.dst.elim undef fun _ => v) w' ∧ (cre i = true → o.dst.isSome = true ∧ ∃ b, blkOf v = some b ∧ w.heap.size ≤ b ∧ b < w'.heap.size)) Q)
    (hI : GInv l R Φ cre C a0 L a w) (ho : l[i]? = some o) (hdep : ∀ e ∈ o.after, Region.binds .any e = true → L.getD e.on false = true) :
    o.wp P a w (GInv l R Φ cre C a0 (L.setIfInBounds i true)) Q := by
  obtain ⟨at1, at2⟩ := grow_at hB
  have ho' := ho
  obtain ⟨-, -, hd⟩ := at1 i o ho'
  have hil : i < L.size := by rw [hI.lsz]; exact (List.getElem?_eq_some_iff.1 ho').1
  refine Oper.wp_mono ?_ (step hI.c ⟨fun e he hb oj hj => hI.phi _ _ hj (hdep e he hb), hI.fr, hI.sz, fun e he f hf hbe hbf hne oi oj hi hj hci hcj => hI.ne _ _ _ _ hne hi hj (hdep e he hbe) (hdep f hf hbf) hci hcj⟩)
  rintro a' w' ⟨v, rfl, hR, hv, hcr⟩
  have vother : ∀ (j : Nat) (oj : Oper), j ≠ i → l[j]? = some oj → valOf oj (a.put o.dst v) = valOf oj a := fun j oj hj hoj => by
    cases hdo : o.dst with
    | none => rfl
    | some d =>
      unfold valOf
      cases hdj : oj.dst with
      | none => rfl
      | some t =>
        have := at2 i j o oj (Ne.symm hj) ho' hoj d hdo
        exact put_getD a d v t (fun e => this (by rw [hdj, e]))
  have vself : valOf o (a.put o.dst v) = o.dst.elim undef fun _ => v := by
    unfold valOf
    cases hdo : o.dst with
    | none => rfl
    | some d => exact put_getD_same a d v (by rw [hI.sz]; exact hd d hdo)
  have lold : ∀ j, j ≠ i → (L.setIfInBounds i true).getD j false = true → L.getD j false = true := fun j hj h => by
    rwa [getD_set_ne false (Ne.symm hj)] at h
  exact {
    lsz := by simpa using hI.lsz
    c := hC _ _ hI.c hR
    sz := by
      rw [← hI.sz]
      cases o.dst with
      | none => rfl
      | some d => simp [Act.put]
    df := by
      rw [← hI.df]
      cases o.dst <;> rfl
    fr := fun t ht => by
      rw [← hI.fr t ht]
      cases hdo : o.dst with
      | none => rfl
      | some d => exact put_getD a d v t (fun e => ht o (List.mem_of_getElem? ho') (by rw [hdo, e]))
    phi := fun j oj hj hl => by
      by_cases e : j = i
      · subst e
        rw [ho'] at hj
        cases hj
        rw [vself]
        exact hv
      · rw [vother j oj e hj]
        exact hΦ _ _ _ _ hR (hI.phi j oj hj (lold j e hl))
    blk := fun j oj hj hl hc => by
      by_cases e : j = i
      · subst e
        rw [ho'] at hj
        cases hj
        obtain ⟨h1, b, h2, h3, h4⟩ := hcr hc
        rw [vself]
        obtain ⟨d, hd'⟩ := Option.isSome_iff_exists.1 h1
        rw [hd']
        exact ⟨b, h2, h4⟩
      · rw [vother j oj e hj]
        obtain ⟨b, h2, h3⟩ := hI.blk j oj hj (lold j e hl) hc
        exact ⟨b, h2, Nat.lt_of_lt_of_le h3 (hRs _ _ hR)⟩
    ne := fun j k oj ok hne hj hk hlj hlk hcj hck => by
      have key : ∀ (j : Nat) (oj : Oper), j ≠ i → l[j]? = some oj → L.getD j false = true → cre j = true → cre i = true → blkOf (valOf oj a) ≠ blkOf (valOf o (a.put o.dst v)) := fun j oj hj hoj hlj hcj hci => by
        obtain ⟨b, h2, h3⟩ := hI.blk j oj hoj hlj hcj
        obtain ⟨h1, b', h2', h3', h4'⟩ := hcr hci
        obtain ⟨d, hd'⟩ := Option.isSome_iff_exists.1 h1
        rw [vself, hd', h2]
        show some b ≠ blkOf v
        rw [h2']
        simp
        omega
      by_cases e : j = i
      · subst e
        rw [ho'] at hj
        cases hj
        rw [vother k ok (Ne.symm hne) hk]
        exact (key k ok (Ne.symm hne) hk (lold k (Ne.symm hne) hlk) hck hcj).symm
      · by_cases e' : k = i
        · subst e'
          rw [ho'] at hk
          cases hk
          rw [vother j oj e hj]
          exact key j oj e hj (lold j e hlj) hcj hck
        · rw [vother j oj e hj, vother k ok e' hk]
          exact hI.ne j k oj ok hne hj hk (lold j e hlj) (lold k e' hlk) hcj hck }

/-- The law. L: the region's operations; all but the last one make memory; the last one waits for all others. -/
theorem wp_region_growT {P : Program} {Q : Exit → Act → World → Prop} {id : Nat} {L : List Oper} {a0 : Act} {w0 : World} (hm : P.follows .mixedOrders = true) (z : Oper) (hz : L.getLast? = some z) (hB : growB L.dropLast a0.tmps.size = true)
    (hzb : (z.guard.isNone && (z.after.all fun e => decide (e.on < L.dropLast.length)) && (List.range L.dropLast.length).all fun i => z.after.any fun e => e.on == i && Region.binds .any e) = true)
    (R : World → World → Prop) (Φ : Nat → Value → World → Prop) (cre : Nat → Bool) (C : World → Prop)
    (hΦ : ∀ j v w w', R w w' → Φ j v w → Φ j v w') (hRs : ∀ w w', R w w' → w.heap.size ≤ w'.heap.size) (hC0 : C w0.drew) (hC : ∀ w w', C w → R w w' → C w')
    (step : ∀ (i : Nat) (o : Oper) (a : Act) (w : World), L.dropLast[i]? = some o → C w → Given L.dropLast Φ cre a0 o a w →
      o.wp P a w (fun a' w' => ∃ v, a' = a.put o.dst v ∧ R w w' ∧ Φ i (o.dst.elim undef fun _ => v) w' ∧ (cre i = true → o.dst.isSome = true ∧ ∃ b, blkOf v = some b ∧ w.heap.size ≤ b ∧ b < w'.heap.size)) Q)
    (done : ∀ a w, C w → a.defers = a0.defers → a.tmps.size = a0.tmps.size → (∀ t, (∀ oj ∈ L.dropLast, oj.dst ≠ some t) → a.tmps.getD t undef = a0.tmps.getD t undef) → (∀ (i : Nat) (o : Oper), L.dropLast[i]? = some o → Φ i (valOf o a) w) →
      (∀ (i j : Nat) (oi oj : Oper), i ≠ j → L.dropLast[i]? = some oi → L.dropLast[j]? = some oj → cre i = true → cre j = true → blkOf (valOf oi a) ≠ blkOf (valOf oj a)) → z.wp P a w (fun a' w' => Q .normal a' w') Q) :
    (Code.region id L.toArray true).wp P Q a0 w0 := by
  obtain ⟨at1, at2⟩ := grow_at hB
  have hL : L = L.dropLast ++ [z] := by
    have hne : L ≠ [] := fun e => by rw [e] at hz; cases hz
    have h1 := List.dropLast_concat_getLast hne
    have h2 : L.getLast hne = z := by
      have := List.getLast?_eq_some_getLast hne
      rw [hz] at this
      exact (Option.some.inj this).symm
    rw [h2] at h1
    exact h1.symm
  simp only [Bool.and_eq_true] at hzb
  obtain ⟨⟨hz1, hz2⟩, hz3⟩ := hzb
  revert at1 at2 hB step done hz2 hz3
  generalize L.dropLast = l at hL ⊢
  subst hL
  intro hB step done at1 at2 hz3 hz2
  have hz2 : ∀ e ∈ z.after, e.on < l.length := fun e he => by
    rw [Array.all_eq_true_iff_forall_mem] at hz2
    exact of_decide_eq_true (hz2 e he)
  have hz3 : ∀ i, i < l.length → ∃ e ∈ z.after, e.on = i ∧ Region.binds .any e = true := fun i hi => by
    have := List.all_eq_true.1 hz3 i (List.mem_range.2 hi)
    obtain ⟨j, hj, h⟩ := Array.any_eq_true.1 this
    simp only [Bool.and_eq_true, beq_iff_eq] at h
    exact ⟨_, Array.getElem_mem hj, h.1, h.2⟩
  have hat : ∀ (i : Nat) (o : Oper), (l ++ [z]).toArray[i]? = some o → (l[i]? = some o ∧ i < l.length) ∨ (i = l.length ∧ o = z) := fun i o ho => by
    rw [List.getElem?_toArray, List.getElem?_append] at ho
    split at ho
    · exact .inl ⟨ho, by assumption⟩
    · right
      rename_i h
      have h1 := (List.getElem?_eq_some_iff.1 ho).1
      simp at h1
      have h2 : i - l.length = 0 := by omega
      rw [h2] at ho
      simp at ho
      exact ⟨by omega, ho.symm⟩
  have hpop : ∀ (A : Array Bool) (i : Nat), A.size = l.length + 1 → i < l.length → A.pop.getD i false = A.getD i false := fun A i hA hi => by
    have h1 : i < A.size := by omega
    have h2 : i < A.pop.size := by simp; omega
    rw [Array.getD_eq_getD_getElem?, Array.getD_eq_getD_getElem?, Array.getElem?_eq_getElem h1, Array.getElem?_eq_getElem h2, Array.getElem_pop]
  refine wp_region_inv hm (fun A a w => A.size = l.length + 1 ∧ ((A.getD l.length false = true ∧ Q .normal a w ∧ ∀ i, i < l.length → A.getD i false = true) ∨ (A.getD l.length false = false ∧ GInv l R Φ cre C a0 A.pop a w))) ?_ ?_ ?_ ?_
  · intro i o ho e he
    rcases hat i o ho with ⟨ho, -⟩ | ⟨rfl, rfl⟩
    · exact (at1 i o ho).2.1 e he
    · exact hz2 e he
  · refine ⟨by simp, .inr ⟨getD_replicate_false _ _, ?_⟩⟩
    exact {
      lsz := by simp
      c := hC0
      sz := rfl
      df := rfl
      fr := fun t _ => rfl
      phi := fun i o ho h => by
        have hi := (List.getElem?_eq_some_iff.1 ho).1
        rw [hpop _ _ (by simp) hi, getD_replicate_false] at h
        cases h
      blk := fun i o ho h => by
        have hi := (List.getElem?_eq_some_iff.1 ho).1
        rw [hpop _ _ (by simp) hi, getD_replicate_false] at h
        cases h
      ne := fun i j oi oj _ ho _ h => by
        have hi := (List.getElem?_eq_some_iff.1 ho).1
        rw [hpop _ _ (by simp) hi, getD_replicate_false] at h
        cases h }
  · rintro A a w i o ⟨hA, hI⟩ ho hAi hdep
    have hwant : ∀ ops, Region.wanted o (yielded ops a.tmps) = true := fun ops => by
      have : o.guard = none := by
        rcases hat i o ho with ⟨ho, -⟩ | ⟨rfl, rfl⟩
        · exact (at1 i o ho).1
        · simpa using hz1
      simp [Region.wanted, this]
    rw [if_pos (hwant _)]
    rcases hI with ⟨hz, hq, hall⟩ | ⟨hz, hI⟩
    · exfalso
      have h1 : A.getD i false = true := by
        rcases hat i o ho with ⟨-, hi⟩ | ⟨rfl, -⟩
        · exact hall i hi
        · exact hz
      have hi : i < A.size := by
        rcases hat i o ho with ⟨-, hi⟩ | ⟨rfl, -⟩ <;> omega
      simp only [Array.getD, hi, dif_pos] at h1 hAi
      rw [h1] at hAi
      cases hAi
    · rcases hat i o ho with ⟨ho', hi⟩ | ⟨rfl, rfl⟩
      · refine Oper.wp_mono ?_ (grow_step hB R Φ cre C hΦ hRs hC (step i o a w ho') hI ho' fun e he hb => ?_)
        · rintro a' w' hI'
          refine ⟨by simpa using hA, .inr ⟨?_, ?_⟩⟩
          · rw [getD_set_ne false (by omega)]
            exact hz
          · have : (A.setIfInBounds i true).pop = A.pop.setIfInBounds i true := by
              apply Array.ext_getElem?
              intro j
              by_cases hij : i = j
              · subst hij
                simp [hA, hi]
              · simp [Array.getElem?_pop, hij]
            rw [this]
            exact hI'
        · rw [hpop _ _ hA (Nat.lt_trans ((at1 i o ho').2.1 e he) hi)]
          exact hdep e he hb
      · have hall : ∀ i, i < l.length → A.getD i false = true := fun i hi => by
          obtain ⟨e, he, h1, h2⟩ := hz3 i hi
          have := hdep e he h2
          rwa [h1] at this
        refine Oper.wp_mono ?_ (done a w hI.c hI.df hI.sz hI.fr (fun i o ho => hI.phi i o ho ?_) (fun i j oi oj hne hi hj => hI.ne i j oi oj hne hi hj ?_ ?_))
        · rintro a' w' hq
          refine ⟨by simpa using hA, .inl ⟨?_, hq, fun i hi => ?_⟩⟩
          · simp [Array.getD_eq_getD_getElem?, hA]
          · rw [getD_set_ne false (by omega)]
            exact hall i hi
        · have h1 := (List.getElem?_eq_some_iff.1 ho).1
          rw [hpop _ _ hA h1]
          exact hall i h1
        · have h1 := (List.getElem?_eq_some_iff.1 hi).1
          rw [hpop _ _ hA h1]
          exact hall i h1
        · have h1 := (List.getElem?_eq_some_iff.1 hj).1
          rw [hpop _ _ hA h1]
          exact hall j h1
  · rintro A a w ⟨hA, ⟨-, hq, -⟩ | ⟨hz, -⟩⟩ hall
    · exact hq
    · exfalso
      have := hall l.length (by simp)
      simp only [Array.getD, hA, Nat.lt_succ_self, dif_pos] at this hz
      rw [this] at hz
      cases hz
end Go.Proofs.YtmefjkggibbhoaaGreat
