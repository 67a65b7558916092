/- A part of the proof, several texts in one: Rules, Any, Grow, Find. -/
import Derived.Test.YtmefjkggibbhoaaGreatmAD
import Derived.StillTailTactics
import Derived.Orders
import Derived.Test.YtmefjkggibbhoaaGreatmAA
import Derived.StillTail
import Derived.Deep.DeepCutAuto
import Derived.Deep.CutBlock
/- purse.find: a thing of a kind. -/
namespace Go.Proofs.YtmefjkggibbhoaaGreat
open Go.RowKit Go.ChangeMaps Go.MapKept
open Go.Maps (Keyed)
variable {w : World} {p : Nat} {M : WM} {F : Nat → Prop}

theorem keyedKind : Keyed Tryz.prog 44 := Maps.int_keyed Tryz.underlying44
theorem key_kind {r : Int} (h : (Lit.int .u8 r).wf = true) : keyOf Tryz.prog 44 (.int .u8 r) = some (.int .u8 r) := Maps.keyOf_int_mk Tryz.underlying44 h

set_option maxRecDepth 8000 in
theorem rulesB_W (w : World) (k want : Int) (b : Nat) (hb : w.cell? ⟨b, 0, none⟩ = some (.int .u8 want)) :
    Calls Tryz.prog 108 #[.int .u8 k, .pointer (some ⟨b, 0, none⟩)] w fun e w' => e = .returned (.int .i64 (if k = want then 0 else 100)) ∧ w = w' := by
  by_cases h : k = want
  · subst h
    rw [if_pos rfl]
    go_enter Tryz.func108, Tryz.ntmps108
    go_wp2
    go_ret
    exact ⟨rfl, rfl⟩
  · rw [if_neg h]
    have hk : (k != want) = true := by simpa using h
    clear h
    go_enter Tryz.func108, Tryz.ntmps108
    go_wp2
    go_ret
    exact ⟨rfl, rfl⟩
set_option maxRecDepth 8000 in
theorem rulesA_W (w : World) (want : Int) : Calls Tryz.prog 107 #[.int .u8 want] w fun e w' => e = .returned (.func (.func 108) #[] #[.pointer (some ⟨w.heap.size, 0, none⟩)]) ∧ w' = w.alloc (.cells #[.int .u8 want] 44) := by
  go_enter Tryz.func107, Tryz.ntmps107
  go_wp2
  go_ret
  exact ⟨rfl, rfl⟩

def ruleV (b : Nat) : Value := .func (.func 108) #[] #[.pointer (some ⟨b, 0, none⟩)]
/-- The rules by their keys. -/
def ruleF (b8 b9 : Option Nat) (key : Value) : Option Value :=
  match key with
  | .int .u8 k => if k = 8 then b8.map ruleV else if k = 9 then b9.map ruleV else none
  | _ => none
/-- What rules hands back: a map with a rule for mints and one for purses. -/
def RulesAt (w : World) (b : Nat) (b8 b9 : Nat) : Prop :=
  w.cell? ⟨b8, 0, none⟩ = some (.int .u8 8) ∧ w.cell? ⟨b9, 0, none⟩ = some (.int .u8 9) ∧ ∃ n, HasMap Tryz.prog 44 w b (ruleF (some b8) (some b9)) n
theorem zeroRule (w : World) : (zeroValue 148).run Tryz.prog w = .ok .nilFunc w := by kernel_rfl
theorem RulesAt.below {b b8 b9 : Nat} {w w' : World} (h : RulesAt w b b8 b9) (hb : Below w.heap.size w w') : RulesAt w' b b8 b9 := by
  obtain ⟨h1, h2, n, h3⟩ := h
  exact ⟨(hb.cell (p := ⟨b8, 0, none⟩) (World.block_lt_of_cell? _ _ h1)).trans h1, (hb.cell (p := ⟨b9, 0, none⟩) (World.block_lt_of_cell? _ _ h2)).trans h2, n, h3.of_block (hb.block _ h3.lt)⟩
theorem RulesAt.look {b b8 b9 : Nat} {w : World} (h : RulesAt w b b8 b9) : (Instr.lookup 149 (.map (some b)) (.int .u8 8) false).run Tryz.prog w = .ok (ruleV b8) w ∧ (Instr.lookup 149 (.map (some b)) (.int .u8 9) false).run Tryz.prog w = .ok (ruleV b9) w := by
  obtain ⟨h1, h2, n, h3⟩ := h
  exact ⟨by rw [h3.look keyedKind Tryz.underlying149 (zeroRule w) (key_kind (r := 8) rfl)]; rfl, by rw [h3.look keyedKind Tryz.underlying149 (zeroRule w) (key_kind (r := 9) rfl)]; rfl⟩

def RulesPost (w : World) (e : Ending) (w' : World) : Prop := ∃ b b8 b9, e = .returned (.map (some b)) ∧ RulesAt w' b b8 b9 ∧ Below w.heap.size w w' ∧ w.heap.size ≤ b ∧ w.heap.size ≤ b8 ∧ w.heap.size ≤ b9

set_option maxRecDepth 8000 in
theorem rules_W (w : World) : Calls Tryz.prog 81 #[] w (RulesPost w) := by
  have hmm := @run_makeMap Tryz.prog
  have hm0 : HasMap Tryz.prog 44 ((w.alloc (.map #[] 0)).alloc (.cells #[.int .u8 8] 44)) w.heap.size (ruleF none none) 0 :=
    ((HasMap.made w Tryz.prog 44).of_block ((blk2_old w _ _).trans (blk_new w _).symm)).congr (fun key _ _ => by unfold ruleF; split <;> simp)
  obtain ⟨w2, hrun, hm2, ht2⟩ := hm0.store keyedKind Tryz.underlying149 (by decide) (key_kind (r := 8) rfl) (ruleV (w.heap.size + 1)) (g := ruleF (some (w.heap.size + 1)) none) rfl (fun x hx => by
    unfold ruleF
    split
    · rename_i k
      have : k ≠ 8 := fun e => hx (by rw [e])
      simp [this]
    · rfl)
  have hT2 := Turned.of ht2
  have hs2 : w2.heap.size = w.heap.size + 2 := by rw [hT2.1]; simp
  have hb2 : Below w.heap.size w w2 := (((Below.refl _ w).alloc (Nat.le_refl _) _).alloc (by simp) _).trans (Keeps.below hT2.2 (by simp; omega) (fun x hx => by omega))
  have h82 : w2.cell? ⟨w.heap.size + 1, 0, none⟩ = some (.int .u8 8) := by
    have := (hT2.block (c := w.heap.size + 1) (by omega)).trans (blk2_new w _ _)
    rw [cell_blk this]
    rfl
  have hm3 : HasMap Tryz.prog 44 (w2.alloc (.cells #[.int .u8 9] 44)) w.heap.size (ruleF (some (w.heap.size + 1)) none) _ := hm2.of_block (Below.heap_alloc w2 _ _ hm2.lt)
  obtain ⟨w4, hrun4, hm4, ht4⟩ := hm3.store keyedKind Tryz.underlying149 (by decide) (key_kind (r := 9) rfl) (ruleV w2.heap.size) (g := ruleF (some (w.heap.size + 1)) (some w2.heap.size)) rfl (fun x hx => by
    unfold ruleF
    split
    · rename_i k
      have : k ≠ 9 := fun e => hx (by rw [e])
      simp [this]
    · rfl)
  have hT4 := Turned.of ht4
  have h84 : w4.cell? ⟨w.heap.size + 1, 0, none⟩ = some (.int .u8 8) := by
    rw [World.cell?_of_block (hT4.block (c := w.heap.size + 1) (by omega))]
    exact cell_al h82 _
  have h94 : w4.cell? ⟨w2.heap.size, 0, none⟩ = some (.int .u8 9) := by
    rw [World.cell?_of_block (hT4.block (c := w2.heap.size) (by omega)), cell_blk (blk_new _ _)]
    rfl
  have hb4 : Below w.heap.size w w4 := (hb2.trans ((Below.refl _ w2).alloc (by omega) _)).trans (Keeps.below hT4.2 (by simp; omega) (fun x hx => by omega))
  have HF : Hid (RulesPost w (.returned (.map (some w.heap.size))) w4) := ⟨_, _, _, rfl, ⟨h84, h94, _, hm4⟩, hb4, Nat.le_refl _, by omega, by omega⟩
  unfold ruleV at hrun hrun4
  clear hm0 hm2 ht2 hT2 hs2 hb2 h82 hm3 hm4 ht4 hT4 h84 h94 hb4
  go_enter Tryz.func81, Tryz.ntmps81
  go_wp2_with fail
  refine (rulesA_W _ 8).mono ?_
  rintro e _ ⟨rfl, rfl⟩
  go_wp2_with fail
  refine (rulesA_W _ 9).mono ?_
  rintro e _ ⟨rfl, rfl⟩
  go_wp2_with fail
  go_ret
  exact HF.out
end Go.Proofs.YtmefjkggibbhoaaGreat
/- A region that draws its order, by what stays true of it: whatever comes up keeps it. -/
namespace Go.Proofs.YtmefjkggibbhoaaGreat
open Go.RowKit

theorem count_set_true {l : List Bool} {i : Nat} (hi : i < l.length) (h : l[i] = false) : (l.set i true).count false + 1 = l.count false := by
  induction l generalizing i with
  | nil => simp at hi
  | cons x l ih =>
    cases i with
    | zero =>
      simp only [List.getElem_cons_zero] at h
      subst h
      simp
    | succ i =>
      have := ih (i := i) (by simpa using hi) (by simpa using h)
      cases x <;> simp <;> omega

section
variable {P : Program} {ops : Array Oper} {Q : Exit → Act → World → Prop}

theorem ready_of_none (L : Array Bool) (hL : L.size = ops.size) (hord : ∀ (i : Nat) (o : Oper), ops[i]? = some o → ∀ e ∈ o.after, e.on < i)
    (hr : Region.ready .any ops L = []) : ∀ i, i < ops.size → L.getD i true = true := by
  intro i
  induction i using Nat.strongRecOn with
  | ind i ih =>
    intro hi
    cases hLi : L.getD i true with
    | true => rfl
    | false =>
      exfalso
      have : i ∈ Region.ready .any ops L := by
        unfold Region.ready
        rw [List.mem_filter]
        refine ⟨List.mem_range.2 hi, ?_⟩
        rw [hLi, Array.getElem?_eq_getElem hi]
        simp only [Bool.not_false, Bool.true_and, Option.map_some, Option.getD_some]
        rw [Array.all_eq_true_iff_forall_mem]
        intro e he
        have h1 := hord i _ (Array.getElem?_eq_getElem hi) e he
        have h2 := ih e.on h1 (by omega)
        have h3 : L.getD e.on false = true := by
          have : e.on < L.size := by omega
          simpa [Array.getD, this] using h2
        simp [h3]
      rw [hr] at this
      cases this

theorem wpAny_inv (Inv : Array Bool → Act → World → Prop) (hord : ∀ (i : Nat) (o : Oper), ops[i]? = some o → ∀ e ∈ o.after, e.on < i)
    (step : ∀ L a w i o, Inv L a w → ops[i]? = some o → L.getD i true = false → (∀ e ∈ o.after, Region.binds .any e = true → L.getD e.on false = true) →
      if Region.wanted o (yielded ops a.tmps) then o.wp P a w (Inv (L.setIfInBounds i true)) Q else Inv (L.setIfInBounds i true) (a.put o.dst undef) w)
    (done : ∀ L a w, Inv L a w → (∀ i, i < ops.size → L.getD i true = true) → Q .normal a w) :
    ∀ (fuel : Nat) (L : Array Bool) (a : Act) (w : World), L.size = ops.size → L.toList.count false ≤ fuel → Inv L a w → wpAny P .any ops Q fuel L a w
  | 0, L, a, w, hL, hc, hI => by
    have hall : ∀ i, i < ops.size → L.getD i true = true := by
      intro i hi
      have h0 : L.toList.count false = 0 := by omega
      rw [List.count_eq_zero] at h0
      cases h : L.getD i true with
      | true => rfl
      | false =>
        exfalso
        apply h0
        have hi' : i < L.size := by omega
        have : L[i] = false := by simpa [Array.getD, hi'] using h
        rw [← this]
        simp
    refine ⟨?_, done L a w hI hall⟩
    unfold Region.ready
    rw [List.filter_eq_nil_iff]
    intro i hi
    rw [hall i (List.mem_range.1 hi)]
    simp
  | fuel + 1, L, a, w, hL, hc, hI => by
    refine ⟨fun h => done L a w hI (ready_of_none L hL hord h), fun i hi => ?_⟩
    unfold Region.ready at hi
    rw [List.mem_filter] at hi
    obtain ⟨h1, h2⟩ := hi
    have h1 := List.mem_range.1 h1
    rw [Bool.and_eq_true, Array.getElem?_eq_getElem h1, Option.map_some, Option.getD_some, Array.all_eq_true_iff_forall_mem] at h2
    obtain ⟨h3, h4⟩ := h2
    have h3 : L.getD i true = false := by simpa using h3
    have hs := step L a w i _ hI (Array.getElem?_eq_getElem h1) h3 (fun e he hb => by
      have := h4 e he
      simpa [hb] using this)
    have hi' : i < L.size := by omega
    have hLi : L.toList[i]'(by simpa using hi') = false := by
      have : L[i] = false := by simpa [Array.getD, hi'] using h3
      simpa using this
    have hcnt := count_set_true (l := L.toList) (by simpa using hi') hLi
    have next : ∀ a w, Inv (L.setIfInBounds i true) a w → wpAny P .any ops Q fuel (L.setIfInBounds i true) a w := fun a w h =>
      wpAny_inv Inv hord step done fuel _ a w (by simpa using hL) (by rw [Array.toList_setIfInBounds]; omega) h
    unfold wpOp
    rw [Array.getElem?_eq_getElem h1]
    simp only
    split at hs
    · rename_i hw
      rw [if_pos hw]
      exact .inl (Oper.wp_mono next hs)
    · rename_i hw
      rw [if_neg hw]
      exact next _ _ hs

/-- The whole region. -/
theorem wp_region_inv {id : Nat} {a : Act} {w : World} (hm : P.follows .mixedOrders = true) (Inv : Array Bool → Act → World → Prop) (hord : ∀ (i : Nat) (o : Oper), ops[i]? = some o → ∀ e ∈ o.after, e.on < i)
    (h0 : Inv (Array.replicate ops.size false) a w.drew)
    (step : ∀ L a w i o, Inv L a w → ops[i]? = some o → L.getD i true = false → (∀ e ∈ o.after, Region.binds .any e = true → L.getD e.on false = true) →
      if Region.wanted o (yielded ops a.tmps) then o.wp P a w (Inv (L.setIfInBounds i true)) Q else Inv (L.setIfInBounds i true) (a.put o.dst undef) w)
    (done : ∀ L a w, Inv L a w → (∀ i, i < ops.size → L.getD i true = true) → Q .normal a w) : (Code.region id ops true).wp P Q a w :=
  wp_region_any hm (wpAny_inv Inv hord step done ops.size _ a _ (by simp) (by simp) h0)
end
end Go.Proofs.YtmefjkggibbhoaaGreat
/- A region that draws its order, whose operations make memory: what is known of each operation's value stays known as the memory grows. -/
namespace Go.Proofs.YtmefjkggibbhoaaGreat
open Go.RowKit

/-- The value that an operation has left. -/
def valOf (o : Oper) (a : Act) : Value := match o.dst with | some d => a.tmps.getD d undef | none => undef
/-- The block that a value names. -/
def blkOf : Value → Option Nat
  | .map b => b
  | .slice (some a) _ _ => some a.block
  | .pointer (some a) => some a.block
  | _ => none
/-- What an operation is given: what is known of those that it waits for; the slots that the region does not write. -/
structure Given (l : List Oper) (Φ : Nat → Value → World → Prop) (cre : Nat → Bool) (a0 : Act) (o : Oper) (a : Act) (w : World) : Prop where
  dep : ∀ e ∈ o.after, Region.binds .any e = true → ∀ oj, l[e.on]? = some oj → Φ e.on (valOf oj a) w
  fr : ∀ t, (∀ oj ∈ l, oj.dst ≠ some t) → a.tmps.getD t undef = a0.tmps.getD t undef
  sz : a.tmps.size = a0.tmps.size
  ne : ∀ e ∈ o.after, ∀ f ∈ o.after, Region.binds .any e = true → Region.binds .any f = true → e.on ≠ f.on → ∀ oi oj, l[e.on]? = some oi → l[f.on]? = some oj → cre e.on = true → cre f.on = true → blkOf (valOf oi a) ≠ blkOf (valOf oj a)
/-- The region's form. -/
def growB (l : List Oper) (n : Nat) : Bool :=
  (l.zipIdx.all fun x => x.1.guard.isNone && (x.1.after.all fun e => decide (e.on < x.2)) && (match x.1.dst with | some d => decide (d < n) | none => true)) &&
  (l.zipIdx.all fun x => l.zipIdx.all fun y => decide (x.2 = y.2) || x.1.dst.isNone || decide (x.1.dst ≠ y.1.dst))

structure GInv (l : List Oper) (R : World → World → Prop) (Φ : Nat → Value → World → Prop) (cre : Nat → Bool) (C : World → Prop) (a0 : Act) (L : Array Bool) (a : Act) (w : World) : Prop where
  lsz : L.size = l.length
  c : C w
  sz : a.tmps.size = a0.tmps.size
  df : a.defers = a0.defers
  fr : ∀ t, (∀ oj ∈ l, oj.dst ≠ some t) → a.tmps.getD t undef = a0.tmps.getD t undef
  phi : ∀ (i : Nat) (o : Oper), l[i]? = some o → L.getD i false = true → Φ i (valOf o a) w
  blk : ∀ (i : Nat) (o : Oper), l[i]? = some o → L.getD i false = true → cre i = true → ∃ b, blkOf (valOf o a) = some b ∧ b < w.heap.size
  ne : ∀ (i j : Nat) (oi oj : Oper), i ≠ j → l[i]? = some oi → l[j]? = some oj → L.getD i false = true → L.getD j false = true → cre i = true → cre j = true → blkOf (valOf oi a) ≠ blkOf (valOf oj a)

theorem put_getD (a : Act) (d : Nat) (v : Value) (t : Nat) (h : t ≠ d) : (a.put (some d) v).tmps.getD t undef = a.tmps.getD t undef := by
  have : ¬ d = t := fun e => h e.symm
  simp only [Act.put, Array.getD_eq_getD_getElem?, Array.getElem?_setIfInBounds, if_neg this]
theorem put_getD_same (a : Act) (d : Nat) (v : Value) (h : d < a.tmps.size) : (a.put (some d) v).tmps.getD d undef = v := by
  simp [Act.put, Array.getD_eq_getD_getElem?, h]

theorem wp_region_grow {P : Program} {Q : Exit → Act → World → Prop} {id : Nat} {l : List Oper} {a0 : Act} {w0 : World} (hm : P.follows .mixedOrders = true) (hB : growB l a0.tmps.size = true)
    (R : World → World → Prop) (Φ : Nat → Value → World → Prop) (cre : Nat → Bool) (C : World → Prop)
    (hΦ : ∀ j v w w', R w w' → Φ j v w → Φ j v w') (hRs : ∀ w w', R w w' → w.heap.size ≤ w'.heap.size) (hC0 : C w0.drew) (hC : ∀ w w', C w → R w w' → C w')
    (step : ∀ (i : Nat) (o : Oper) (a : Act) (w : World), l[i]? = some o → C w → Given l Φ cre a0 o a w →
      o.wp P a w (fun a' w' => ∃ v, a' = a.put o.dst v ∧ R w w' ∧ Φ i (o.dst.elim undef fun _ => v) w' ∧ (cre i = true → o.dst.isSome = true ∧ ∃ b, blkOf v = some b ∧ w.heap.size ≤ b ∧ b < w'.heap.size)) Q)
    (done : ∀ a w, C w → a.defers = a0.defers → a.tmps.size = a0.tmps.size → (∀ t, (∀ oj ∈ l, oj.dst ≠ some t) → a.tmps.getD t undef = a0.tmps.getD t undef) → (∀ (i : Nat) (o : Oper), l[i]? = some o → Φ i (valOf o a) w) →
      (∀ (i j : Nat) (oi oj : Oper), i ≠ j → l[i]? = some oi → l[j]? = some oj → cre i = true → cre j = true → blkOf (valOf oi a) ≠ blkOf (valOf oj a)) → Q .normal a w) :
    (Code.region id l.toArray true).wp P Q a0 w0 := by
  simp only [growB, Bool.and_eq_true] at hB
  obtain ⟨hB1, hB2⟩ := hB
  have at1 : ∀ (i : Nat) (o : Oper), l[i]? = some o → o.guard = none ∧ (∀ e ∈ o.after, e.on < i) ∧ ∀ d, o.dst = some d → d < a0.tmps.size := fun i o ho => by
    have := List.all_eq_true.1 hB1 (o, i) (List.mem_zipIdx_iff_getElem?.2 ho)
    simp only [Bool.and_eq_true, Option.isNone_iff_eq_none, Array.all_eq_true_iff_forall_mem, decide_eq_true_eq] at this
    obtain ⟨⟨h1, h2⟩, h3⟩ := this
    exact ⟨h1, h2, fun d hd => by rw [hd] at h3; simpa using h3⟩
  have at2 : ∀ (i j : Nat) (oi oj : Oper), i ≠ j → l[i]? = some oi → l[j]? = some oj → ∀ d, oi.dst = some d → oj.dst ≠ some d := fun i j oi oj hne hi hj d hd => by
    have h1 := List.all_eq_true.1 hB2 (oi, i) (List.mem_zipIdx_iff_getElem?.2 hi)
    have h2 := List.all_eq_true.1 h1 (oj, j) (List.mem_zipIdx_iff_getElem?.2 hj)
    simp only [Bool.or_eq_true, decide_eq_true_eq, Option.isNone_iff_eq_none] at h2
    rcases h2 with (h2 | h2) | h2
    · exact absurd h2 hne
    · rw [hd] at h2; cases h2
    · rw [hd] at h2; exact fun e => h2 e.symm
  refine wp_region_inv hm (GInv l R Φ cre C a0) (fun i o ho => (at1 i o (by simpa using ho)).2.1) ?_ ?_ ?_
  · exact {
      lsz := by simp
      c := hC0
      sz := rfl
      df := rfl
      fr := fun t _ => rfl
      phi := fun i o _ h => by rw [getD_replicate_false] at h; cases h
      blk := fun i o _ h => by rw [getD_replicate_false] at h; cases h
      ne := fun i j oi oj _ _ _ h => by rw [getD_replicate_false] at h; cases h }
  · intro L a w i o hI ho hL hdep
    have ho' : l[i]? = some o := by simpa using ho
    obtain ⟨hg, -, hd⟩ := at1 i o ho'
    have hwant : Region.wanted o (yielded l.toArray a.tmps) = true := by simp [Region.wanted, hg]
    rw [if_pos hwant]
    have hil : i < L.size := by rw [hI.lsz]; exact (List.getElem?_eq_some_iff.1 ho').1
    refine Oper.wp_mono ?_ (step i o a w ho' hI.c ⟨fun e he hb oj hj => hI.phi _ _ hj (hdep e he hb), hI.fr, hI.sz, fun e he f hf hbe hbf hne oi oj hi hj hci hcj => hI.ne _ _ _ _ hne hi hj (hdep e he hbe) (hdep f hf hbf) hci hcj⟩)
    rintro a' w' ⟨v, rfl, hR, hv, hcr⟩
    have vother : ∀ (j : Nat) (oj : Oper), j ≠ i → l[j]? = some oj → valOf oj (a.put o.dst v) = valOf oj a := fun j oj hj hoj => by
      cases hdo : o.dst with
      | none => rfl
      | some d =>
        unfold valOf
        cases hdj : oj.dst with
        | none => rfl
        | some t =>
          have := at2 i j o oj (Ne.symm hj) ho' hoj d hdo
          exact put_getD a d v t (fun e => this (by rw [hdj, e]))
    have vself : valOf o (a.put o.dst v) = o.dst.elim undef fun _ => v := by
      unfold valOf
      cases hdo : o.dst with
      | none => rfl
      | some d => exact put_getD_same a d v (by rw [hI.sz]; exact hd d hdo)
    have lold : ∀ j, j ≠ i → (L.setIfInBounds i true).getD j false = true → L.getD j false = true := fun j hj h => by
      rwa [getD_set_ne false (Ne.symm hj)] at h
    exact {
      lsz := by simpa using hI.lsz
      c := hC _ _ hI.c hR
      sz := by
        rw [← hI.sz]
        cases o.dst with
        | none => rfl
        | some d => simp [Act.put]
      df := by
        rw [← hI.df]
        cases o.dst <;> rfl
      fr := fun t ht => by
        rw [← hI.fr t ht]
        cases hdo : o.dst with
        | none => rfl
        | some d => exact put_getD a d v t (fun e => ht o (List.mem_of_getElem? ho') (by rw [hdo, e]))
      phi := fun j oj hj hl => by
        by_cases e : j = i
        · subst e
          rw [ho'] at hj
          cases hj
          rw [vself]
          exact hv
        · rw [vother j oj e hj]
          exact hΦ _ _ _ _ hR (hI.phi j oj hj (lold j e hl))
      blk := fun j oj hj hl hc => by
        by_cases e : j = i
        · subst e
          rw [ho'] at hj
          cases hj
          obtain ⟨h1, b, h2, h3, h4⟩ := hcr hc
          rw [vself]
          obtain ⟨d, hd'⟩ := Option.isSome_iff_exists.1 h1
          rw [hd']
          exact ⟨b, h2, h4⟩
        · rw [vother j oj e hj]
          obtain ⟨b, h2, h3⟩ := hI.blk j oj hj (lold j e hl) hc
          exact ⟨b, h2, Nat.lt_of_lt_of_le h3 (hRs _ _ hR)⟩
      ne := fun j k oj ok hne hj hk hlj hlk hcj hck => by
        have key : ∀ (j : Nat) (oj : Oper), j ≠ i → l[j]? = some oj → L.getD j false = true → cre j = true → cre i = true → blkOf (valOf oj a) ≠ blkOf (valOf o (a.put o.dst v)) := fun j oj hj hoj hlj hcj hci => by
          obtain ⟨b, h2, h3⟩ := hI.blk j oj hoj hlj hcj
          obtain ⟨h1, b', h2', h3', h4'⟩ := hcr hci
          obtain ⟨d, hd'⟩ := Option.isSome_iff_exists.1 h1
          rw [vself, hd', h2]
          show some b ≠ blkOf v
          rw [h2']
          simp
          omega
        by_cases e : j = i
        · subst e
          rw [ho'] at hj
          cases hj
          rw [vother k ok (Ne.symm hne) hk]
          exact (key k ok (Ne.symm hne) hk (lold k (Ne.symm hne) hlk) hck hcj).symm
        · by_cases e' : k = i
          · subst e'
            rw [ho'] at hk
            cases hk
            rw [vother j oj e hj]
            exact key j oj e hj (lold j e hlj) hcj hck
          · rw [vother j oj e hj, vother k ok e' hk]
            exact hI.ne j k oj ok hne hj hk (lold j e hlj) (lold k e' hlk) hcj hck }
  · intro L a w hI hall
    have hl : ∀ (i : Nat) (o : Oper), l[i]? = some o → L.getD i false = true := fun i o ho => by
      have hi := (List.getElem?_eq_some_iff.1 ho).1
      have h1 := hall i (by simpa using hi)
      have : i < L.size := by rw [hI.lsz]; exact hi
      simpa [Array.getD, this] using h1
    exact done a w hI.c hI.df hI.sz hI.fr (fun i o ho => hI.phi i o ho (hl i o ho)) (fun i j oi oj hne hi hj => hI.ne i j oi oj hne hi hj (hl i oi hi) (hl j oj hj))
end Go.Proofs.YtmefjkggibbhoaaGreat
/- purse.find of a light thing: a What, and whether its kind is the one that is asked for. -/
namespace Go.Proofs.YtmefjkggibbhoaaGreat
open Go.RowKit Go.ChangeMaps Go.MapKept
variable {w : World} {p : Nat} {M : WM} {F : Nat → Prop}

/-- As the memory grows: block g alone may come to hold xs. -/
structure RG (g : Nat) (xs : Array Value) (w w' : World) : Prop where
  os : w'.os = w.os
  tape : w'.tape = w.tape
  output : w'.output = w.output
  size : w.heap.size ≤ w'.heap.size
  block : ∀ b, b < w.heap.size → b ≠ g → w'.heap[b]? = w.heap[b]?
  at_ : w'.heap[g]? = w.heap[g]? ∨ w'.heap[g]? = some (.cells xs 53 (0, 0))
theorem RG.of_below {g : Nat} {xs : Array Value} {w w' : World} (h : Below w.heap.size w w') (hg : g < w.heap.size) : RG g xs w w' := ⟨h.os, h.tape, h.output, h.size, fun b hb _ => h.block b hb, .inl (h.block g hg)⟩
theorem RG.trans {g : Nat} {xs : Array Value} {a b c : World} (h : RG g xs a b) (k : RG g xs b c) : RG g xs a c :=
  ⟨k.os.trans h.os, k.tape.trans h.tape, k.output.trans h.output, Nat.le_trans h.size k.size, fun x hx hg => (k.block x (Nat.lt_of_lt_of_le hx h.size) hg).trans (h.block x hx hg), by
    rcases k.at_ with e | e
    · rcases h.at_ with e' | e'
      · exact .inl (e.trans e')
      · exact .inr (e.trans e')
    · exact .inr e⟩

structure FC (w0 : World) (g6 g8 : Nat) (xs : Array Value) (w : World) : Prop where
  r : RG g6 xs w0 w
  hg6 : ∃ c, w.heap[g6]? = some (.cells c 53 (0, 0)) ∧ c.size = 16
  hg8 : w.heap[g8]? = some (.cells xs 53 (0, 0))
  lt : g6 < w0.heap.size

def FPhi (g6 g8 : Nat) (xs : Array Value) (k kd : Int) (i : Nat) (v : Value) (w : World) : Prop :=
  match i with
  | 0 => v = .agg xs
  | 1 => ∃ b b8 b9, v = .map (some b) ∧ RulesAt w b b8 b9 ∧ b ≠ g6 ∧ b8 ≠ g6 ∧ b9 ≠ g6
  | 2 => v = .int .u8 k
  | 3 => ∃ bb, v = ruleV bb ∧ w.cell? ⟨bb, 0, none⟩ = some (.int .u8 k) ∧ bb ≠ g6
  | 4 => v = .pointer (some ⟨g8, 0, none⟩)
  | 5 => v = .int .u8 kd
  | 6 => v = .int .i64 (if kd = k then 0 else 100)
  | 7 => w.heap[g6]? = some (.cells xs 53 (0, 0))
  | 8 => v = .int .i64 (if kd = k then 0 else 100)
  | _ => True

theorem RG.cell {g b : Nat} {xs : Array Value} {w w' : World} {v : Value} (h : RG g xs w w') (hb : b ≠ g) (hc : w.cell? ⟨b, 0, none⟩ = some v) : w'.cell? ⟨b, 0, none⟩ = some v :=
  (World.cell?_of_block (a := ⟨b, 0, none⟩) (h.block b (World.block_lt_of_cell? _ _ hc) hb)).trans hc
theorem FPhi.stab {g6 g8 : Nat} {xs : Array Value} {k kd : Int} : ∀ (i : Nat) (v : Value) (w w' : World), RG g6 xs w w' → FPhi g6 g8 xs k kd i v w → FPhi g6 g8 xs k kd i v w' := by
  intro i v w w' hR h
  unfold FPhi at h ⊢
  split at h
  · exact h
  · obtain ⟨b, b8, b9, h1, ⟨h2, h3, n, h4⟩, h5, h6, h7⟩ := h
    exact ⟨b, b8, b9, h1, ⟨hR.cell h6 h2, hR.cell h7 h3, n, h4.of_block (hR.block _ h4.lt h5)⟩, h5, h6, h7⟩
  · exact h
  · obtain ⟨bb, h1, h2, h3⟩ := h
    exact ⟨bb, h1, hR.cell h3 h2, h3⟩
  · exact h
  · exact h
  · exact h
  · rcases hR.at_ with e | e
    · rw [e, h]
    · exact e
  · exact h
  · trivial

theorem FC.next {w0 w w' : World} {g6 g8 : Nat} {xs : Array Value} (hxs : xs.size = 16) (hne : g8 ≠ g6) (h : FC w0 g6 g8 xs w) (hR : RG g6 xs w w') : FC w0 g6 g8 xs w' where
  r := h.r.trans hR
  hg6 := by
    rcases hR.at_ with e | e
    · rw [e]; exact h.hg6
    · exact ⟨xs, e, hxs⟩
  hg8 := (hR.block _ (blk_lt h.hg8) hne).trans h.hg8
  lt := h.lt

theorem step_val {P : Program} {Q : Exit → Act → World → Prop} {R : World → World → Prop} {Φ : Value → World → Prop} {o : Oper} {a : Act} {w : World} (v : Value) (hrun : (execOp a.eval o).run P w = .ok (.value v) w) (hR : R w w) (hφ : Φ (o.dst.elim undef fun _ => v) w) :
    o.wp P a w (fun a' w' => ∃ v, a' = a.put o.dst v ∧ R w w' ∧ Φ (o.dst.elim undef fun _ => v) w' ∧ (false = true → o.dst.isSome = true ∧ ∃ b, blkOf v = some b ∧ w.heap.size ≤ b ∧ b < w'.heap.size)) Q := by
  unfold Oper.wp
  rw [hrun]
  exact ⟨v, rfl, hR, hφ, fun h => by cases h⟩
theorem RG.refl (g : Nat) (xs : Array Value) (w : World) : RG g xs w w := ⟨rfl, rfl, rfl, Nat.le_refl _, fun _ _ _ => rfl, .inl rfl⟩

set_option maxHeartbeats 2000000 in
set_option maxRecDepth 20000 in
theorem find_lt (hW : IsW w p M F) {r k h vk vn n l tg bi s q : Int} {fu : Bool} (hr : (Lit.int .i64 r).wf = true) (ht : M.at r = some (lt k h vk vn n l tg bi s fu)) (hp : Plain vk vn) (hq : q = 8 ∨ q = 9) :
    Calls Tryz.prog 59 #[.pointer (some ⟨p, 0, none⟩), .int .i64 r, .int .u8 q] w fun e w' => e = .returned (.tuple #[.agg #[.int .u8 k, .int .i64 h, .int .u8 vk, .int .i64 vn, .string ⟨#[]⟩, .slice none 0 0, .int .i64 0, .slice none 0 0, .int .i64 n, .int .i64 l, .int .i64 tg, .int .i64 bi, .int .u8 s, .bool fu, .slice none 0 0, .slice none 0 0], .int .i64 (if k = q then 0 else 100)]) ∧ Below w.heap.size w w' := by
  have hWh := fun w' (hb : Below w.heap.size w w') => What_lt (hW.below hb) hr ht hp
  have HWh := (show Hid _ from hWh)
  clear hWh hW ht
  obtain ⟨xs, hxs⟩ : ∃ xs : Array Value, xs = #[.int .u8 k, .int .i64 h, .int .u8 vk, .int .i64 vn, .string ⟨#[]⟩, .slice none 0 0, .int .i64 0, .slice none 0 0, .int .i64 n, .int .i64 l, .int .i64 tg, .int .i64 bi, .int .u8 s, .bool fu, .slice none 0 0, .slice none 0 0] := ⟨_, rfl⟩
  rw [← hxs] at HWh ⊢
  have Hsz : Hid (xs.size = 16) := by show xs.size = 16; rw [hxs]; rfl
  have Hone : Hid (xs.all (·.oneCell') = true) := by show _ = true; rw [hxs]; simp [go_sem]
  have H0 : Hid (xs[0]? = some (.int .u8 k)) := by show _ = _; rw [hxs]; rfl
  clear hxs
  go_enter Tryz.func59, Tryz.ntmps59
  go_wp2_with fail
  refine Calls.mono (HWh.out _ ((Below.refl _ _).alloc (Nat.le_refl _) _)) ?_
  rintro e w1 ⟨rfl, hb1⟩
  have hst := storeWhat_blk (c' := xs) (blk_new w1 (.cells #[.int .u8 0, .int .i64 0, .int .u8 0, .int .i64 0, .string ⟨#[]⟩, .slice none 0 0, .int .i64 0, .slice none 0 0, .int .i64 0, .int .i64 0, .int .i64 0, .int .i64 0, .int .u8 0, .bool false, .slice none 0 0, .slice none 0 0] 53)) rfl Hsz.out Hone.out
  have H8 := (show Hid _ from heap_setRow_at (c' := xs) (blk_new w1 (.cells #[.int .u8 0, .int .i64 0, .int .u8 0, .int .i64 0, .string ⟨#[]⟩, .slice none 0 0, .int .i64 0, .slice none 0 0, .int .i64 0, .int .i64 0, .int .i64 0, .int .i64 0, .int .u8 0, .bool false, .slice none 0 0, .slice none 0 0] 53)))
  have hb6 : Below w.heap.size w ((w1.alloc (.cells #[.int .u8 0, .int .i64 0, .int .u8 0, .int .i64 0, .string ⟨#[]⟩, .slice none 0 0, .int .i64 0, .slice none 0 0, .int .i64 0, .int .i64 0, .int .i64 0, .int .i64 0, .int .u8 0, .bool false, .slice none 0 0, .slice none 0 0] 53)).setRow w1.heap.size xs) :=
    Below.setRow ((((Below.refl _ _).alloc (Nat.le_refl _) _).trans (hb1.mono (by simp))).alloc (by have := hb1.size; simp at this; omega) _) (by have := hb1.size; simp at this; omega) _
  have H6 : Hid (((w1.alloc (.cells #[.int .u8 0, .int .i64 0, .int .u8 0, .int .i64 0, .string ⟨#[]⟩, .slice none 0 0, .int .i64 0, .slice none 0 0, .int .i64 0, .int .i64 0, .int .i64 0, .int .i64 0, .int .u8 0, .bool false, .slice none 0 0, .slice none 0 0] 53)).setRow w1.heap.size xs).heap[w.heap.size]? = some (.cells #[.int .u8 0, .int .i64 0, .int .u8 0, .int .i64 0, .string ⟨#[]⟩, .slice none 0 0, .int .i64 0, .slice none 0 0, .int .i64 0, .int .i64 0, .int .i64 0, .int .i64 0, .int .u8 0, .bool false, .slice none 0 0, .slice none 0 0] 53 (0, 0))) := by
    have h1 := below_blk hb1 (blk_new w (.cells #[.int .u8 0, .int .i64 0, .int .u8 0, .int .i64 0, .string ⟨#[]⟩, .slice none 0 0, .int .i64 0, .slice none 0 0, .int .i64 0, .int .i64 0, .int .i64 0, .int .i64 0, .int .u8 0, .bool false, .slice none 0 0, .slice none 0 0] 53))
    have h2 := blk_lt h1
    exact (heap_setRow_other _ _ _ _ (by omega)).trans (blk_old w1 _ h1)
  have HB6 := (show Hid _ from hb6)
  have hlt : w.heap.size < w1.heap.size := by have := hb1.size; simp at this; omega
  clear hb1 hb6
  go_upto_region 6 with fail
  clear hst
  revert H8 H6 HB6 hlt
  generalize (w1.alloc _).setRow _ _ = w6
  generalize w1.heap.size = g8
  generalize hg6 : w.heap.size = g6
  intro H8 H6 HB6 hlt
  refine wp_region_grow (by kernel_rfl) (by kernel_rfl) (RG g6 xs) (FPhi g6 g8 xs q k) (fun _ => false) (FC w6.drew g6 g8 xs) (fun j v w w' => FPhi.stab j v w w') (fun w w' h => h.size) ?_ (fun w w' h hR => h.next Hsz.out (by omega) hR) ?_ ?_
  · exact ⟨RG.refl _ _ _, ⟨_, H6.out, rfl⟩, H8.out, by have := HB6.out.size; have := blk_lt H6.out; exact this⟩
  · intro i o a w7 ho hC hG
    have hi : i < 9 := (List.getElem?_eq_some_iff.1 ho).1
    have hg6lt : g6 < w7.heap.size := by
      obtain ⟨c, hc, -⟩ := hC.hg6
      exact blk_lt hc
    match i, hi with
    | 0, _ =>
      cases ho
      have h8 : a.tmps.getD 8 undef = .pointer (some ⟨g8, 0, none⟩) := hG.fr 8 (by simp)
      refine step_val (.agg xs) ?_ (RG.refl _ _ _) rfl
      rw [execOp_ldW]
      show (ldW (a.tmps.getD 8 undef)).run _ _ = _
      rw [h8]
      exact loadWhat_blk hC.hg8 Hsz.out
    | 1, _ =>
      cases ho
      unfold Oper.wp
      simp [go_sem, callFunc, Tryz.func81]
      refine (rules_W w7).mono ?_
      rintro e w8 ⟨b, b8, b9, rfl, hru, hb, h1, h2, h3⟩
      exact ⟨_, rfl, RG.of_below hb hg6lt, ⟨b, b8, b9, rfl, hru, by omega, by omega, by omega⟩⟩
    | 2, _ =>
      cases ho
      have h2 : a.tmps.getD 2 undef = .int .u8 q := hG.fr 2 (by simp)
      exact step_val (.int .u8 q) (by rw [← h2]; rfl) (RG.refl _ _ _) rfl
    | 3, _ =>
      cases ho
      obtain ⟨b, b8, b9, h24, hru, n1, n2, n3⟩ := hG.dep ⟨1, .data⟩ (by simp) rfl _ rfl
      have h24 : a.tmps.getD 24 undef = .map (some b) := h24
      have h25 : a.tmps.getD 25 undef = .int .u8 q := hG.dep ⟨2, .data⟩ (by simp) rfl _ rfl
      obtain ⟨l8, l9⟩ := hru.look
      rcases hq with rfl | rfl
      · refine step_val (ruleV b8) ?_ (RG.refl _ _ _) ⟨b8, rfl, hru.1, n2⟩
        show ((Instr.lookup 149 (a.tmps.getD 24 undef) (a.tmps.getD 25 undef) false) >>= fun v => pure (Next.value v) : Sem Next).run Tryz.prog w7 = _
        rw [h24, h25]
        simp only [Sem.run_bind, l8, Result.andThen, Sem.run_pure]
      · refine step_val (ruleV b9) ?_ (RG.refl _ _ _) ⟨b9, rfl, hru.2.1, n3⟩
        show ((Instr.lookup 149 (a.tmps.getD 24 undef) (a.tmps.getD 25 undef) false) >>= fun v => pure (Next.value v) : Sem Next).run Tryz.prog w7 = _
        rw [h24, h25]
        simp only [Sem.run_bind, l9, Result.andThen, Sem.run_pure]
    | 4, _ =>
      cases ho
      have h8 : a.tmps.getD 8 undef = .pointer (some ⟨g8, 0, none⟩) := hG.fr 8 (by simp)
      exact step_val (.pointer (some ⟨g8, 0, none⟩)) (by simp [execOp, go_sem, Act.eval, h8]) (RG.refl _ _ _) rfl
    | 5, _ =>
      cases ho
      have h27 : a.tmps.getD 27 undef = .pointer (some ⟨g8, 0, none⟩) := hG.dep ⟨4, .data⟩ (by simp) rfl _ rfl
      have hc : w7.cell? ⟨g8, 0, none⟩ = some (.int .u8 k) := by rw [cell_blk hC.hg8]; exact H0.out
      exact step_val (.int .u8 k) (by simp [execOp, go_sem, Act.eval, h27, hc]) (RG.refl _ _ _) rfl
    | 6, _ =>
      cases ho
      obtain ⟨bb, h26, hcb, hbb⟩ := hG.dep ⟨3, .data⟩ (by simp) rfl _ rfl
      have h26 : a.tmps.getD 26 undef = .func (.func 108) #[] #[.pointer (some ⟨bb, 0, none⟩)] := h26
      have h28 : a.tmps.getD 28 undef = .int .u8 k := hG.dep ⟨5, .data⟩ (by simp) rfl _ rfl
      unfold Oper.wp
      simp [go_sem, callFunc, Act.eval, Tryz.func108, h26, h28]
      refine (rulesB_W w7 k q bb hcb).mono ?_
      rintro e _ ⟨rfl, rfl⟩
      exact ⟨_, rfl, RG.refl _ _ _, rfl⟩
    | 7, _ =>
      cases ho
      have h6 : a.tmps.getD 6 undef = .pointer (some ⟨g6, 0, none⟩) := hG.fr 6 (by simp)
      have h23 : a.tmps.getD 23 undef = .agg xs := hG.dep ⟨0, .data⟩ (by simp) rfl _ rfl
      obtain ⟨c, hc, hcs⟩ := hC.hg6
      have hrun := storeWhat_blk hc hcs Hsz.out Hone.out
      unfold Oper.wp
      rw [execOp_stW]
      show Oper.upon _ _ _ _ _ ((stW (a.tmps.getD 6 undef) (a.tmps.getD 23 undef)).run Tryz.prog w7)
      rw [h6, h23, hrun]
      exact ⟨undef, rfl, ⟨rfl, rfl, rfl, by simp [World.setRow], fun b _ hb => heap_setRow_other _ _ _ _ hb, .inr (heap_setRow_at hc)⟩, heap_setRow_at hc, fun h => by cases h⟩
    | 8, _ =>
      cases ho
      have h29 : a.tmps.getD 29 undef = .int .i64 (if k = q then 0 else 100) := hG.dep ⟨6, .data⟩ (by simp) rfl _ rfl
      exact step_val (.int .i64 (if k = q then 0 else 100)) (by rw [← h29]; rfl) (RG.refl _ _ _) rfl
  · intro a w7 hC hdf hsz hfr hphi hne
    have h6 : a.tmps.getD 6 undef = .pointer (some ⟨g6, 0, none⟩) := hfr 6 (by simp)
    have h7 : a.tmps.getD 7 undef = .int .i64 (if k = q then 0 else 100) := hphi 8 _ rfl
    have hg : w7.heap[g6]? = some (.cells xs 53 (0, 0)) := hphi 7 _ rfl
    refine ‹∀ (a : Act) (w : World), Code.wp Tryz.prog Code.ret _ a w → _› a w7 ?_
    have hres := results_What2 (fn := Tryz.f59) (q := 6) (x := 7) rfl a.tmps w7 g6 xs (0, 0) h6 hg Hsz.out
    rw [h7] at hres
    refine wp_ret (bodyPost_ret hres hdf ⟨rfl, ?_⟩)
    subst hg6
    exact ⟨hC.r.os.trans HB6.out.os, hC.r.tape.trans HB6.out.tape, hC.r.output.trans HB6.out.output, Nat.le_trans HB6.out.size hC.r.size, fun b hb => (hC.r.block b (Nat.lt_of_lt_of_le hb HB6.out.size) (by omega)).trans (HB6.out.block b hb)⟩
end Go.Proofs.YtmefjkggibbhoaaGreat
