/- A part of the proof, several texts in one: PlY, GrowL, PlR. -/
import Derived.Test.YtcoiccbmcjdheaaGreatmBH
import Derived.Test.YtcoiccbmcjdheaaGreatmBI
import Derived.Test.YtcoiccbmcjdheaaGreatmAJ
import Derived.Test.YtcoiccbmcjdheaaGreatmBD
import Derived.Test.YtcoiccbmcjdheaaGreatmBF
/- plain: what acts on logs come to. -/
namespace Go.Proofs.YtcoiccbmcjdheaaGreat
open Go.RowKit Go.ChangeMaps Go.MapKept
variable {w : World} {p : Nat} {M : WM} {F : Nat → Prop}

theorem act_2_8 (hW : IsW w p M F) {r : Int} (hr : (Lit.int .i64 r).wf = true) {h : Int} {vs : List Val} {vals0 : Value} (ht : M.at r = some (qT 2 h vs vals0)) (hh : sideB M h = true) (hheld : ∀ r ∈ heldL (qT 2 h vs vals0), (Lit.int .i64 r).wf = true ∧ (M.at r).isSome = true) (hmay : ∀ x ∈ vs, mayV x = true) (hlen : vs.length ≤ 1024)
    {FB : Nat → Prop} {v : Val} {raw : Value} (hv : SlAt w FB raw v.l) (hm : mayV v = true) (hkn : ∀ r ∈ refsV v, (Lit.int .i64 r).wf = true ∧ (M.at r).isSome = true) :
    Calls Tryz.prog 38 #[.pointer (some ⟨p, 0, none⟩), .int .i64 r, .int .u8 8, .agg (vcs v raw)] w (ActPost w p F (GiveX M r 2 h vs v)) := by
  refine (Do_2_8 hW hr ht (fair_q hmay hlen) rfl hv hm hkn (Post := MethX p F (GiveX M r 2 h vs v)) (Post' := fun v' raw n' w2 => MethX p F _ w v' raw n' w2)
    (methX_stab hW.lt) ?_).mono fun _ _ h => doAct h
  intro w0 w' b hb0 hfd
  obtain ⟨vals', hb, hbw, hbel, hcap, FA, hSA, hFA⟩ := found_q (F := F) (by decide) (fun y hy => Nat.lt_of_lt_of_le (hW.lt y hy) hb0.size) hfd
  have hbb := hb0.trans (hbel.mono hb0.size)
  have hW' : IsW w' p M F := hW.below hbb
  exact (lGive_W hW' hr (.inl rfl) ht hb (fun e => by have := hW.lt b e; have := hb0.size; omega) hh hSA (fun y hy => (hFA y hy).1) hcap hheld hmay hlen (hv.lt.on hbb) (fun y hy e => by have := hy.2; have := hb0.size; omega) hm hkn).mono fun e w'' hg => hg.meth hW' hbel.size
theorem act_2_1 (hW : IsW w p M F) {r : Int} (hr : (Lit.int .i64 r).wf = true) {h : Int} {vs : List Val} {vals0 : Value} (ht : M.at r = some (qT 2 h vs vals0)) (hmay : ∀ x ∈ vs, mayV x = true) (hlen : vs.length ≤ 1024) :
    Calls Tryz.prog 38 #[.pointer (some ⟨p, 0, none⟩), .int .i64 r, .int .u8 1, .agg (vcs nilV (.slice none 0 0))] w (ActPost w p F (fun v c N => v = listV vs ∧ c = 0 ∧ N = M)) := by
  have hv := refsV0 0 0 (.inl ⟨rfl, rfl⟩)
  refine (Do_2_1 hW hr ht (fair_q hmay hlen) rfl (v := nilV) (SlAt.nil w F none 0) hv.2 (fun r hr => by rw [hv.1] at hr; cases hr) (Post := MethX p F (fun v c N => v = listV vs ∧ c = 0 ∧ N = M)) (Post' := fun v' raw n' w2 => MethX p F _ w v' raw n' w2)
    (methX_stab hW.lt) ?_).mono fun _ _ h => doAct h
  intro w0 w' b hb0 hfd
  obtain ⟨vl', vals', hb, hbw, hbel, hdeep, -, -, -⟩ := hfd
  have hW' : IsW w' p M F := hW.below (hb0.trans (hbel.mono hb0.size))
  obtain ⟨pv, cv, e⟩ := hdeep.vs.form
  have e' : vals' = .slice pv vs.length cv := e
  subst e'
  exact (lGet_W hb rfl).mono fun e w'' ⟨he, hb''⟩ => ⟨listV vs, pv, cv, 0, he, Keeps.of_below hb'', M, F, ⟨rfl, rfl, rfl⟩, hW'.below hb'', fun _ h => .inl h, (hdeep.vs.on hb'').mono fun y hy => ⟨hy, fun e => by have := hW.lt y e; have := hb0.size; have : w0.heap.size ≤ y := hy; omega⟩⟩
end Go.Proofs.YtcoiccbmcjdheaaGreat
/- A region that draws its order: a head that makes memory, a store, a tail in one forced order; ONE operation of the head (a value taken out of a pair) may still come up behind the store. -/
namespace Go.Proofs.YtcoiccbmcjdheaaGreat
open Go.RowKit

section
variable {P : Program} {ops : Array Oper} {Q : Exit → Act → World → Prop}
theorem ready_of_noneB (L : Array Bool) (hL : L.size = ops.size) (hord : ∀ (i : Nat) (o : Oper), ops[i]? = some o → ∀ e ∈ o.after, Region.binds .any e = true → e.on < i)
    (hr : Region.ready .any ops L = []) : ∀ i, i < ops.size → L.getD i true = true := by
  intro i
  induction i using Nat.strongRecOn with
  | ind i ih =>
    intro hi
    cases hLi : L.getD i true with
    | true => rfl
    | false =>
      exfalso
      have : i ∈ Region.ready .any ops L := by
        unfold Region.ready
        rw [List.mem_filter]
        refine ⟨List.mem_range.2 hi, ?_⟩
        rw [hLi, Array.getElem?_eq_getElem hi]
        simp only [Bool.not_false, Bool.true_and, Option.map_some, Option.getD_some]
        rw [Array.all_eq_true_iff_forall_mem]
        intro e he
        cases hb : Region.binds .any e with
        | false => rfl
        | true =>
          have h1 := hord i _ (Array.getElem?_eq_getElem hi) e he hb
          have h2 := ih e.on h1 (by omega)
          have h3 : L.getD e.on false = true := by
            have : e.on < L.size := by omega
            simpa [Array.getD, this] using h2
          simp [h3]
      rw [hr] at this
      cases this
theorem wpAny_invB (Inv : Array Bool → Act → World → Prop) (hord : ∀ (i : Nat) (o : Oper), ops[i]? = some o → ∀ e ∈ o.after, Region.binds .any e = true → e.on < i)
    (step : ∀ L a w i o, Inv L a w → ops[i]? = some o → L.getD i true = false → (∀ e ∈ o.after, Region.binds .any e = true → L.getD e.on false = true) →
      if Region.wanted o (yielded ops a.tmps) then o.wp P a w (Inv (L.setIfInBounds i true)) Q else Inv (L.setIfInBounds i true) (a.put o.dst undef) w)
    (done : ∀ L a w, Inv L a w → (∀ i, i < ops.size → L.getD i true = true) → Q .normal a w) :
    ∀ (fuel : Nat) (L : Array Bool) (a : Act) (w : World), L.size = ops.size → L.toList.count false ≤ fuel → Inv L a w → wpAny P .any ops Q fuel L a w
  | 0, L, a, w, hL, hc, hI => by
    have hall : ∀ i, i < ops.size → L.getD i true = true := by
      intro i hi
      have h0 : L.toList.count false = 0 := by omega
      rw [List.count_eq_zero] at h0
      cases h : L.getD i true with
      | true => rfl
      | false =>
        exfalso
        apply h0
        have hi' : i < L.size := by omega
        have : L[i] = false := by simpa [Array.getD, hi'] using h
        rw [← this]
        simp
    refine ⟨?_, done L a w hI hall⟩
    unfold Region.ready
    rw [List.filter_eq_nil_iff]
    intro i hi
    rw [hall i (List.mem_range.1 hi)]
    simp
  | fuel + 1, L, a, w, hL, hc, hI => by
    refine ⟨fun h => done L a w hI (ready_of_noneB L hL hord h), fun i hi => ?_⟩
    unfold Region.ready at hi
    rw [List.mem_filter] at hi
    obtain ⟨h1, h2⟩ := hi
    have h1 := List.mem_range.1 h1
    rw [Bool.and_eq_true, Array.getElem?_eq_getElem h1, Option.map_some, Option.getD_some, Array.all_eq_true_iff_forall_mem] at h2
    obtain ⟨h3, h4⟩ := h2
    have h3 : L.getD i true = false := by simpa using h3
    have hs := step L a w i _ hI (Array.getElem?_eq_getElem h1) h3 (fun e he hb => by
      have := h4 e he
      simpa [hb] using this)
    have hi' : i < L.size := by omega
    have hLi : L.toList[i]'(by simpa using hi') = false := by
      have : L[i] = false := by simpa [Array.getD, hi'] using h3
      simpa using this
    have hcnt := count_set_true (l := L.toList) (by simpa using hi') hLi
    have next : ∀ a w, Inv (L.setIfInBounds i true) a w → wpAny P .any ops Q fuel (L.setIfInBounds i true) a w := fun a w h =>
      wpAny_invB Inv hord step done fuel _ a w (by simpa using hL) (by rw [Array.toList_setIfInBounds]; omega) h
    unfold wpOp
    rw [Array.getElem?_eq_getElem h1]
    simp only
    split at hs
    · rename_i hw
      rw [if_pos hw]
      exact .inl (Oper.wp_mono next hs)
    · rename_i hw
      rw [if_neg hw]
      exact next _ _ hs
theorem wp_region_invB {id : Nat} {a : Act} {w : World} (hm : P.follows .mixedOrders = true) (Inv : Array Bool → Act → World → Prop) (hord : ∀ (i : Nat) (o : Oper), ops[i]? = some o → ∀ e ∈ o.after, Region.binds .any e = true → e.on < i)
    (h0 : Inv (Array.replicate ops.size false) a w.drew)
    (step : ∀ L a w i o, Inv L a w → ops[i]? = some o → L.getD i true = false → (∀ e ∈ o.after, Region.binds .any e = true → L.getD e.on false = true) →
      if Region.wanted o (yielded ops a.tmps) then o.wp P a w (Inv (L.setIfInBounds i true)) Q else Inv (L.setIfInBounds i true) (a.put o.dst undef) w)
    (done : ∀ L a w, Inv L a w → (∀ i, i < ops.size → L.getD i true = true) → Q .normal a w) : (Code.region id ops true).wp P Q a w :=
  wp_region_any hm (wpAny_invB Inv hord step done ops.size _ a _ (by simp) (by simp) h0)
end

/-- The head's form, d the late one: no guards, edges backward, slots apart, none waits for d. -/
def growLB (l : List Oper) (n d : Nat) : Bool :=
  (l.zipIdx.all fun x => x.1.guard.isNone && (x.1.after.all fun e => !Region.binds .any e || (decide (e.on < x.2) && decide (e.on ≠ d))) && (match x.1.dst with | some d => decide (d < n) | none => true)) &&
  (l.zipIdx.all fun x => l.zipIdx.all fun y => decide (x.2 = y.2) || x.1.dst.isNone || decide (x.1.dst ≠ y.1.dst))
/-- The store waits, through others, for all of the head but d. -/
def lastLB (l : List Oper) (z : Oper) (d : Nat) : Bool :=
  (List.range l.length).all fun i => decide (i = d) || (z.after.any fun e => e.on == i && Region.binds .any e) || l.zipIdx.any fun x => decide (i < x.2) && decide (x.2 ≠ d) && x.1.after.any fun e => e.on == i && Region.binds .any e
/-- The tail: the store's edges go backward, each that follows waits for the one ahead; the first of them for d. -/
def chainLB (n d : Nat) (z : Oper) (t : List Oper) : Bool :=
  z.guard.isNone && z.dst.isNone && chainB n 0 (z :: t) && (t.head?.all fun o => o.after.any fun e => e.on == d && Region.binds .any e)

theorem growL_at {l : List Oper} {n d : Nat} (hB : growLB l n d = true) :
    (∀ (i : Nat) (o : Oper), l[i]? = some o → o.guard = none ∧ (∀ e ∈ o.after, Region.binds .any e = true → e.on < i ∧ e.on ≠ d) ∧ ∀ d, o.dst = some d → d < n) ∧
    (∀ (i j : Nat) (oi oj : Oper), i ≠ j → l[i]? = some oi → l[j]? = some oj → ∀ d, oi.dst = some d → oj.dst ≠ some d) := by
  simp only [growLB, Bool.and_eq_true] at hB
  obtain ⟨hB1, hB2⟩ := hB
  refine ⟨fun i o ho => ?_, fun i j oi oj hne hi hj d hd => ?_⟩
  · have := List.all_eq_true.1 hB1 (o, i) (List.mem_zipIdx_iff_getElem?.2 ho)
    simp only [Bool.and_eq_true, Array.all_eq_true_iff_forall_mem, Option.isNone_iff_eq_none] at this
    obtain ⟨⟨h1, h2⟩, h3⟩ := this
    refine ⟨h1, fun e he hb => ?_, fun d hd => by rw [hd] at h3; simpa using h3⟩
    have := h2 e he
    rw [hb] at this
    simpa using this
  · have h1 := List.all_eq_true.1 hB2 (oi, i) (List.mem_zipIdx_iff_getElem?.2 hi)
    have h2 := List.all_eq_true.1 h1 (oj, j) (List.mem_zipIdx_iff_getElem?.2 hj)
    simp only [Bool.or_eq_true, decide_eq_true_eq, Option.isNone_iff_eq_none] at h2
    rcases h2 with (h2 | h2) | h2
    · exact absurd h2 hne
    · rw [hd] at h2; cases h2
    · rw [hd] at h2; exact fun e => h2 e.symm
theorem lastL_all {l : List Oper} {z : Oper} {d : Nat} (h : lastLB l z d = true) {A : Array Bool} (hz : ∀ e ∈ z.after, Region.binds .any e = true → A.getD e.on false = true)
    (hd : ∀ (i : Nat) (o : Oper), l[i]? = some o → A.getD i false = true → ∀ e ∈ o.after, Region.binds .any e = true → A.getD e.on false = true)  : ∀ i, i < l.length → i ≠ d → A.getD i false = true := by
  have key : ∀ m i, i < l.length → l.length - i ≤ m → i ≠ d → A.getD i false = true := by
    intro m
    induction m with
    | zero => intro i hi hm; omega
    | succ m ih =>
      intro i hi hm hid
      have := List.all_eq_true.1 h i (List.mem_range.2 hi)
      simp only [Bool.or_eq_true, decide_eq_true_eq] at this
      rcases this with (h0 | h1) | h1
      · exact absurd h0 hid
      · obtain ⟨j, hj, h2⟩ := Array.any_eq_true.1 h1
        simp only [Bool.and_eq_true, beq_iff_eq] at h2
        have := hz _ (Array.getElem_mem hj) h2.2
        rwa [h2.1] at this
      · obtain ⟨⟨o, k⟩, hx, h2⟩ := List.any_eq_true.1 h1
        simp only [Bool.and_eq_true, decide_eq_true_eq] at h2
        obtain ⟨⟨h3, hkd⟩, h4⟩ := h2
        have hk := List.mem_zipIdx_iff_getElem?.1 hx
        have hkl := (List.getElem?_eq_some_iff.1 hk).1
        obtain ⟨j, hj, h5⟩ := Array.any_eq_true.1 h4
        simp only [Bool.and_eq_true, beq_iff_eq] at h5
        have := hd k o hk (ih k hkl (by omega) hkd) _ (Array.getElem_mem hj) h5.2
        rwa [h5.1] at this
  exact fun i hi hid => key l.length i hi (by omega) hid

theorem growL_step {P : Program} {Q : Exit → Act → World → Prop} {l : List Oper} {a0 : Act} {d0 : Nat} (hB : growLB l a0.tmps.size d0 = true)
    (R : World → World → Prop) (Φ : Nat → Value → World → Prop) (C : World → Prop)
    (hΦ : ∀ j v w w', R w w' → Φ j v w → Φ j v w') (hC : ∀ w w', C w → R w w' → C w')
    {i : Nat} {o : Oper} {a : Act} {w : World} {L : Array Bool}
    (step : C w → Given l Φ (fun _ => false) a0 o a w → o.wp P a w (fun a' w' => ∃ v, a' = a.put o.dst v ∧ R w w' ∧ Φ i (o.dst.elim undef fun _ => v) w') Q)
    (hI : GInv l R Φ (fun _ => false) C a0 L a w) (ho : l[i]? = some o) (hdep : ∀ e ∈ o.after, Region.binds .any e = true → L.getD e.on false = true) :
    o.wp P a w (GInv l R Φ (fun _ => false) C a0 (L.setIfInBounds i true)) Q := by
  obtain ⟨at1, at2⟩ := growL_at hB
  have ho' := ho
  obtain ⟨-, -, hd⟩ := at1 i o ho'
  refine Oper.wp_mono ?_ (step hI.c ⟨fun e he hb oj hj => hI.phi _ _ hj (hdep e he hb), hI.fr, hI.sz, fun e he f hf hbe hbf hne oi oj hi hj hci hcj => by cases hci⟩)
  rintro a' w' ⟨v, rfl, hR, hv⟩
  have vother : ∀ (j : Nat) (oj : Oper), j ≠ i → l[j]? = some oj → valOf oj (a.put o.dst v) = valOf oj a := fun j oj hj hoj => by
    cases hdo : o.dst with
    | none => rfl
    | some d =>
      unfold valOf
      cases hdj : oj.dst with
      | none => rfl
      | some t =>
        have := at2 i j o oj (Ne.symm hj) ho' hoj d hdo
        exact put_getD a d v t (fun e => this (by rw [hdj, e]))
  have vself : valOf o (a.put o.dst v) = o.dst.elim undef fun _ => v := by
    unfold valOf
    cases hdo : o.dst with
    | none => rfl
    | some d => exact put_getD_same a d v (by rw [hI.sz]; exact hd d hdo)
  have lold : ∀ j, j ≠ i → (L.setIfInBounds i true).getD j false = true → L.getD j false = true := fun j hj h => by
    rwa [getD_set_ne false (Ne.symm hj)] at h
  exact {
    lsz := by simpa using hI.lsz
    c := hC _ _ hI.c hR
    sz := by
      rw [← hI.sz]
      cases o.dst with
      | none => rfl
      | some d => simp [Act.put]
    df := by
      rw [← hI.df]
      cases o.dst <;> rfl
    fr := fun t ht => by
      rw [← hI.fr t ht]
      cases hdo : o.dst with
      | none => rfl
      | some d => exact put_getD a d v t (fun e => ht o (List.mem_of_getElem? ho') (by rw [hdo, e]))
    phi := fun j oj hj hl => by
      by_cases e : j = i
      · subst e
        rw [ho'] at hj
        cases hj
        rw [vself]
        exact hv
      · rw [vother j oj e hj]
        exact hΦ _ _ _ _ hR (hI.phi j oj hj (lold j e hl))
    blk := fun j oj hj hl hc => by cases hc
    ne := fun j k oj ok hne hj hk hlj hlk hcj hck => by cases hcj }
theorem execOp_storeG (ρ : Operand → Value) {z : Oper} {ty : TypeId} {x y : Operand} (hz : z.op = .store ty x y) : execOp ρ z = (do Instr.storeAt ty (ρ x) (ρ y); pure .skip) := by
  cases z
  cases hz
  rfl

theorem wp_region_growL {P : Program} {Q : Exit → Act → World → Prop} {id : Nat} {l : List Oper} {z : Oper} {t : List Oper} {a0 : Act} {w0 : World} (d sd x y : Nat) (sty : TypeId) (od : Oper) (Vd : Value)
    (hm : P.follows .mixedOrders = true) (hB : growLB l a0.tmps.size d = true) (hd : l[d]? = some od) (hsd : od.dst = some sd) (hz : z.op = .store sty (.tmp x) (.tmp y)) (hx : x ≠ sd) (hy : y ≠ sd)
    (ht : (chainLB l.length d z t && lastLB l z d) = true)
    (R : World → World → Prop) (Φ : Nat → Value → World → Prop) (C : World → Prop)
    (hΦ : ∀ j v w w', R w w' → Φ j v w → Φ j v w') (hR0 : ∀ w, R w w) (hC0 : C w0.drew) (hC : ∀ w w', C w → R w w' → C w') (hΦd : ∀ w, Φ d Vd w)
    (late : ∀ (a : Act) (w w' : World), (∀ e ∈ od.after, Region.binds .any e = true → ∀ oj, l[e.on]? = some oj → Φ e.on (valOf oj a) w) → (execOp a.eval od).run P w' = .ok (.value Vd) w')
    (step : ∀ (i : Nat) (o : Oper) (a : Act) (w : World), i ≠ d → l[i]? = some o → C w → Given l Φ (fun _ => false) a0 o a w → o.wp P a w (fun a' w' => ∃ v, a' = a.put o.dst v ∧ R w w' ∧ Φ i (o.dst.elim undef fun _ => v) w') Q)
    (done : ∀ a w, C w → a.defers = a0.defers → a.tmps.size = a0.tmps.size → (∀ s, (∀ oj ∈ l, oj.dst ≠ some s) → a.tmps.getD s undef = a0.tmps.getD s undef) → (∀ (i : Nat) (o : Oper), l[i]? = some o → Φ i (valOf o a) w) →
      ∃ w', (execOp a.eval z).run P w = .ok .skip w' ∧ wpTailG P (l ++ (z :: t)).toArray Q t a w') :
    (Code.region id (l ++ (z :: t)).toArray true).wp P Q a0 w0 := by
  obtain ⟨at1, at2⟩ := growL_at hB
  simp only [Bool.and_eq_true, chainLB] at ht
  obtain ⟨⟨⟨⟨hzg, hzd⟩, ht⟩, htd⟩, hlz⟩ := ht
  rw [Option.isNone_iff_eq_none] at hzg hzd
  have hdl : d < l.length := (List.getElem?_eq_some_iff.1 hd).1
  have hat : ∀ (i : Nat) (o : Oper), (l ++ (z :: t)).toArray[i]? = some o → (l[i]? = some o ∧ i < l.length) ∨ (∃ j, i = l.length + j ∧ (z :: t)[j]? = some o ∧ j < (z :: t).length) := fun i o ho => by
    rw [List.getElem?_toArray, List.getElem?_append] at ho
    split at ho
    · exact .inl ⟨ho, by assumption⟩
    · right
      rename_i h
      exact ⟨i - l.length, by omega, ho, (List.getElem?_eq_some_iff.1 ho).1⟩
  have hdat : ∀ o, l[d]? = some o → o = od := fun o ho => by rw [hd] at ho; cases ho; rfl
  have hwz : ∀ (a : Act), Region.wanted z (yielded (l ++ (z :: t)).toArray a.tmps) = true := fun a => by unfold Region.wanted; rw [hzg]
  have hzput : ∀ (a : Act) (v : Value), execOp (a.put (some sd) v).eval z = execOp a.eval z := fun a v => by
    rw [execOp_storeG _ hz, execOp_storeG _ hz]
    have e1 : (a.put (some sd) v).eval (.tmp x) = a.eval (.tmp x) := put_getD a sd v x hx
    have e2 : (a.put (some sd) v).eval (.tmp y) = a.eval (.tmp y) := put_getD a sd v y hy
    rw [e1, e2]
  refine wp_region_invB hm (fun A a w => A.size = l.length + (z :: t).length ∧
    ((∃ j, 1 ≤ j ∧ j ≤ (z :: t).length ∧ (∀ i, i < l.length + j → A.getD i false = true) ∧ (∀ i, l.length + j ≤ i → A.getD i false = false) ∧ wpTailG P (l ++ (z :: t)).toArray Q ((z :: t).drop j) a w) ∨
     ((∀ i, i ≠ d → i ≤ l.length → A.getD i false = true) ∧ A.getD d false = false ∧ (∀ i, l.length < i → A.getD i false = false) ∧ (∃ w1, ∀ e ∈ od.after, Region.binds .any e = true → ∀ oj, l[e.on]? = some oj → Φ e.on (valOf oj a) w1) ∧ wpTailG P (l ++ (z :: t)).toArray Q t (a.put (some sd) Vd) w) ∨
     ((∀ i, l.length ≤ i → A.getD i false = false) ∧ (∀ (i : Nat) (o : Oper), l[i]? = some o → A.getD i false = true → ∀ e ∈ o.after, Region.binds .any e = true → A.getD e.on false = true) ∧
        ∃ B : Array Bool, (∀ i, i < l.length → B.getD i false = A.getD i false) ∧ GInv l R Φ (fun _ => false) C a0 B a w))) ?_ ?_ ?_ ?_
  · intro i o ho e he hb
    rcases hat i o ho with ⟨ho, -⟩ | ⟨j, rfl, ho, -⟩
    · exact ((at1 i o ho).2.1 e he hb).1
    · have := (chainB_at ht ho).1 e he
      omega
  · refine ⟨by simp, .inr (.inr ⟨fun i _ => getD_replicate_false _ _, (fun i o _ h => by rw [getD_replicate_false] at h; cases h), Array.replicate l.length false, fun i _ => by rw [getD_replicate_false, getD_replicate_false], ?_⟩)⟩
    exact {
      lsz := by simp
      c := hC0
      sz := rfl
      df := rfl
      fr := fun t _ => rfl
      phi := fun i o _ h => by rw [getD_replicate_false] at h; cases h
      blk := fun i o _ h => by rw [getD_replicate_false] at h; cases h
      ne := fun i j oi oj _ _ _ h => by rw [getD_replicate_false] at h; cases h }
  · rintro A a w i o ⟨hA, hI⟩ ho hAi hdep
    have hiA : i < A.size := by
      rcases hat i o ho with ⟨-, hi⟩ | ⟨j, rfl, -, hj⟩ <;> omega
    have hAf : A.getD i false = false := by
      simp only [Array.getD, hiA, dif_pos] at hAi ⊢
      exact hAi
    rcases hI with ⟨k, hk1, hk2, hon, hoff, hq⟩ | ⟨hon, hdoff, hoff, ⟨w1, hw1⟩, hq⟩ | ⟨hoff, hdn, B, hBA, hI⟩
    · rcases hat i o ho with ⟨-, hi⟩ | ⟨j, rfl, hj, hjl⟩
      · have := hon i (by omega)
        rw [this] at hAf
        cases hAf
      · have hjk : j = k := by
          rcases Nat.lt_trichotomy j k with h | h | h
          · have := hon (l.length + j) (by omega)
            rw [this] at hAf
            cases hAf
          · exact h
          · exfalso
            obtain ⟨e, he, h1, h2⟩ := (chainB_at ht hj).2 (by omega)
            have h3 := hdep e he h2
            rw [h1, hoff _ (by omega)] at h3
            cases h3
        subst hjk
        have hdrop : (z :: t).drop j = o :: (z :: t).drop (j + 1) := by
          rw [List.drop_eq_getElem_cons hjl, (List.getElem?_eq_some_iff.1 hj).2]
        rw [hdrop] at hq
        obtain ⟨hw, hq⟩ := hq
        rw [if_pos hw]
        refine Oper.wp_mono ?_ hq
        intro a' w' hq'
        refine ⟨by simpa using hA, .inl ⟨j + 1, by omega, by omega, fun i hi => ?_, fun i hi => ?_, hq'⟩⟩
        · by_cases e : i = l.length + j
          · subst e
            exact getD_set_same' hiA
          · rw [getD_set_ne false (by omega)]
            exact hon i (by omega)
        · rw [getD_set_ne false (by omega)]
          exact hoff i (by omega)
    · -- the store has come up, the late one has not
      have hid : i = d := by
        rcases hat i o ho with ⟨-, hi⟩ | ⟨j, rfl, hj, hjl⟩
        · by_cases e : i = d
          · exact e
          · have := hon i e (Nat.le_of_lt hi)
            rw [this] at hAf
            cases hAf
        · exfalso
          rcases Nat.lt_trichotomy j 1 with h | h | h
          · have := hon (l.length + j) (by omega) (by omega)
            rw [this] at hAf
            cases hAf
          · subst h
            have hh : t.head? = some o := by
              have : t[0]? = some o := by simpa using hj
              rw [← this]
              cases t <;> rfl
            rw [hh] at htd
            simp only [Option.all_some] at htd
            obtain ⟨j, hj, h2⟩ := Array.any_eq_true.1 htd
            simp only [Bool.and_eq_true, beq_iff_eq] at h2
            have h3 := hdep _ (Array.getElem_mem hj) h2.2
            rw [h2.1, hdoff] at h3
            cases h3
          · obtain ⟨e, he, h1, h2⟩ := (chainB_at ht hj).2 (by omega)
            have h3 := hdep e he h2
            rw [h1, hoff _ (by omega)] at h3
            cases h3
      subst hid
      have ho' : l[i]? = some o := by
        rcases hat i o ho with ⟨h, -⟩ | ⟨j, hj, -, -⟩
        · exact h
        · omega
      have := hdat o ho'
      subst this
      have hw : Region.wanted o (yielded (l ++ (z :: t)).toArray a.tmps) = true := by unfold Region.wanted; rw [(at1 i o ho').1]
      rw [if_pos hw]
      unfold Oper.wp
      rw [late a w1 w hw1, Oper.upon_value, hsd]
      refine ⟨by simpa using hA, .inl ⟨1, by omega, by simp, fun x hx => ?_, fun x hx => ?_, hq⟩⟩
      · by_cases e : x = i
        · subst e
          exact getD_set_same' hiA
        · rw [getD_set_ne false (Ne.symm e)]
          exact hon x e (by omega)
      · rw [getD_set_ne false (by omega)]
        exact hoff x (by omega)
    · rcases hat i o ho with ⟨ho', hi⟩ | ⟨j, rfl, hj, hjl⟩
      · have hdB : ∀ e ∈ o.after, Region.binds .any e = true → B.getD e.on false = true := fun e he hb => by
          rw [hBA _ (Nat.lt_trans ((at1 i o ho').2.1 e he hb).1 hi)]
          exact hdep e he hb
        have hw : Region.wanted o (yielded (l ++ (z :: t)).toArray a.tmps) = true := by unfold Region.wanted; rw [(at1 i o ho').1]
        rw [if_pos hw]
        have hstep : C w → Given l Φ (fun _ => false) a0 o a w → o.wp P a w (fun a' w' => ∃ v, a' = a.put o.dst v ∧ R w w' ∧ Φ i (o.dst.elim undef fun _ => v) w') Q := by
          by_cases e : i = d
          · subst e
            intro _ hG
            have := hdat o ho'
            subst this
            unfold Oper.wp
            rw [late a w w (fun e he hb oj hj => hG.dep e he hb oj hj), Oper.upon_value]
            refine ⟨Vd, rfl, hR0 w, ?_⟩
            rw [hsd]
            exact hΦd w
          · exact step i o a w e ho'
        refine Oper.wp_mono ?_ (growL_step hB R Φ C hΦ hC hstep hI ho' hdB)
        rintro a' w' hI'
        refine ⟨by simpa using hA, .inr (.inr ⟨fun x hx => ?_, fun x ox hox hxA e he hb => ?_, _, fun x hx => ?_, hI'⟩)⟩
        · rw [getD_set_ne false (by omega)]
          exact hoff x hx
        · by_cases e1 : x = i
          · subst e1
            rw [ho'] at hox
            cases hox
            have h1 := ((at1 x o ho').2.1 e he hb).1
            rw [getD_set_ne false (by omega)]
            exact hdep e he hb
          · rw [getD_set_ne false (Ne.symm e1)] at hxA
            have h3 := hdn x ox hox hxA e he hb
            by_cases e2 : i = e.on
            · rw [← e2]
              exact getD_set_same' hiA
            · rw [getD_set_ne false e2]
              exact h3
        · by_cases e : i = x
          · subst e
            rw [getD_set_same' hiA, getD_set_same' (by rw [hI.lsz]; exact hi)]
          · rw [getD_set_ne false e, getD_set_ne false e]
            exact hBA x hx
      · have hj0 : j = 0 := by
          rcases Nat.eq_zero_or_pos j with h | h
          · exact h
          · exfalso
            obtain ⟨e, he, h1, h2⟩ := (chainB_at ht hj).2 (by omega)
            have h3 := hdep e he h2
            rw [h1, hoff _ (by omega)] at h3
            cases h3
        subst hj0
        have hz' : o = z := by simpa using hj.symm
        subst hz'
        have hall := lastL_all hlz hdep hdn
        rw [if_pos (hwz a)]
        cases hAd : A.getD d false with
        | true =>
          have hBall : ∀ i, i < l.length → B.getD i false = true := fun i hi => by
            rw [hBA i hi]
            by_cases e : i = d
            · rw [e]; exact hAd
            · exact hall i hi e
          obtain ⟨w', hrun, htl⟩ := done a w hI.c hI.df hI.sz hI.fr (fun i o ho => hI.phi i o ho (hBall i (List.getElem?_eq_some_iff.1 ho).1))
          unfold Oper.wp
          rw [hrun, Oper.upon_skip, hzd]
          refine ⟨by simpa using hA, .inl ⟨1, by omega, by simp, fun i hi => ?_, fun i hi => ?_, htl⟩⟩
          · by_cases e : i = l.length
            · subst e
              exact getD_set_same' hiA
            · rw [getD_set_ne false (by omega)]
              by_cases e2 : i = d
              · rw [e2]; exact hAd
              · exact hall i (by omega) e2
          · rw [getD_set_ne false (by omega)]
            exact hoff i (by omega)
        | false =>
          -- as if the late one had come up
          have hdepd : ∀ e ∈ od.after, Region.binds .any e = true → B.getD e.on false = true := fun e he hb => by
            have h1 := (at1 d od hd).2.1 e he hb
            rw [hBA _ (by omega)]
            exact hall _ (by omega) h1.2
          have hphid : ∀ e ∈ od.after, Region.binds .any e = true → ∀ oj, l[e.on]? = some oj → Φ e.on (valOf oj a) w := fun e he hb oj hj => hI.phi _ _ hj (hdepd e he hb)
          have hfut := growL_step (P := P) (Q := fun _ _ _ => True) hB R Φ C hΦ hC (i := d) (o := od) (a := a) (w := w) (L := B) (fun _ _ => by
            unfold Oper.wp
            rw [late a w w hphid, Oper.upon_value]
            refine ⟨Vd, rfl, hR0 w, ?_⟩
            rw [hsd]
            exact hΦd w) hI hd hdepd
          unfold Oper.wp at hfut
          rw [late a w w hphid, Oper.upon_value, hsd] at hfut
          have hdB : d < B.size := by rw [hI.lsz]; exact hdl
          have hBall : ∀ i, i < l.length → (B.setIfInBounds d true).getD i false = true := fun i hi => by
            by_cases e : i = d
            · subst e
              exact getD_set_same' hdB
            · rw [getD_set_ne false (Ne.symm e), hBA i hi]
              exact hall i hi e
          obtain ⟨w', hrun, htl⟩ := done _ w hfut.c hfut.df hfut.sz hfut.fr (fun i o ho => hfut.phi i o ho (hBall i (List.getElem?_eq_some_iff.1 ho).1))
          rw [hzput] at hrun
          unfold Oper.wp
          rw [hrun, Oper.upon_skip, hzd]
          refine ⟨by simpa using hA, .inr (.inl ⟨fun i hne hi => ?_, ?_, fun i hi => ?_, ⟨w, hphid⟩, htl⟩)⟩
          · by_cases e : i = l.length
            · subst e
              exact getD_set_same' hiA
            · rw [getD_set_ne false (by omega)]
              exact hall i (by omega) hne
          · rw [getD_set_ne false (by omega)]
            exact hAd
          · rw [getD_set_ne false (by omega)]
            exact hoff i (by omega)
  · rintro A a w ⟨hA, ⟨k, hk1, hk2, hon, hoff, hq⟩ | ⟨-, hdoff, -⟩ | ⟨hoff, -⟩⟩ hall
    · have hk : k = (z :: t).length := by
        rcases Nat.lt_or_ge k (z :: t).length with h | h
        · exfalso
          have h1 := hall (l.length + k) (by simp at h ⊢; omega)
          have h2 := hoff (l.length + k) (Nat.le_refl _)
          have h3 : l.length + k < A.size := by omega
          simp only [Array.getD, h3, dif_pos] at h1 h2
          rw [h1] at h2
          cases h2
        · omega
      subst hk
      simpa [wpTailG] using hq
    · exfalso
      have h1 := hall d (by simp; omega)
      have h3 : d < A.size := by omega
      simp only [Array.getD, h3, dif_pos] at h1 hdoff
      rw [h1] at hdoff
      cases hdoff
    · exfalso
      have h1 := hall l.length (by simp)
      have h2 := hoff l.length (Nat.le_refl _)
      have h3 : l.length < A.size := by simp at hA; omega
      simp only [Array.getD, h3, dif_pos] at h1 h2
      rw [h1] at h2
      cases h2

/-- The same, the region's list cut behind its first k operations. -/
theorem wp_region_growKL {P : Program} {Q : Exit → Act → World → Prop} {id : Nat} {L : List Oper} {a0 : Act} {w0 : World} (k d sd x y : Nat) (sty : TypeId) (Vd : Value) {od z : Oper} {t : List Oper}
    (hm : P.follows .mixedOrders = true) (hk : L.drop k = z :: t) (hB : growLB (L.take k) a0.tmps.size d = true) (hd : (L.take k)[d]? = some od) (hsd : od.dst = some sd) (hz : z.op = .store sty (.tmp x) (.tmp y)) (hx : x ≠ sd) (hy : y ≠ sd)
    (ht : (chainLB (L.take k).length d z t && lastLB (L.take k) z d) = true)
    (R : World → World → Prop) (Φ : Nat → Value → World → Prop) (C : World → Prop)
    (hΦ : ∀ j v w w', R w w' → Φ j v w → Φ j v w') (hR0 : ∀ w, R w w) (hC0 : C w0.drew) (hC : ∀ w w', C w → R w w' → C w') (hΦd : ∀ w, Φ d Vd w)
    (late : ∀ (a : Act) (w w' : World), (∀ e ∈ od.after, Region.binds .any e = true → ∀ oj, (L.take k)[e.on]? = some oj → Φ e.on (valOf oj a) w) → (execOp a.eval od).run P w' = .ok (.value Vd) w')
    (step : ∀ (i : Nat) (o : Oper) (a : Act) (w : World), i ≠ d → (L.take k)[i]? = some o → C w → Given (L.take k) Φ (fun _ => false) a0 o a w → o.wp P a w (fun a' w' => ∃ v, a' = a.put o.dst v ∧ R w w' ∧ Φ i (o.dst.elim undef fun _ => v) w') Q)
    (done : ∀ a w, C w → a.defers = a0.defers → a.tmps.size = a0.tmps.size → (∀ s, (∀ oj ∈ L.take k, oj.dst ≠ some s) → a.tmps.getD s undef = a0.tmps.getD s undef) → (∀ (i : Nat) (o : Oper), (L.take k)[i]? = some o → Φ i (valOf o a) w) →
      ∃ w', (execOp a.eval z).run P w = .ok .skip w' ∧ wpTailG P L.toArray Q t a w') :
    (Code.region id L.toArray true).wp P Q a0 w0 := by
  have hL : L.take k ++ (z :: t) = L := by rw [← hk, List.take_append_drop]
  revert hB hd ht late step done hL
  generalize L.take k = l
  intro hB hd ht late step done hL
  clear hk
  subst hL
  exact wp_region_growL d sd x y sty od Vd hm hB hd hsd hz hx hy ht R Φ C hΦ hR0 hC0 hC hΦd late step done
end Go.Proofs.YtcoiccbmcjdheaaGreat
/- plain: get of a promise. -/
namespace Go.Proofs.YtcoiccbmcjdheaaGreat
open Go.RowKit Go.ChangeMaps Go.MapKept
variable {w : World} {p : Nat} {M : WM} {F : Nat → Prop}

/-- A promise. -/
abbrev prT (h : Int) (v : Val) (raw : Value) (fu : Bool) : Th := ⟨10, h, v, raw, [], .slice none 0 0, 0, 0, 0, 0, 0, fu, .slice none 0 0, .slice none 0 0⟩
theorem execOp_stVr6 (ρ : Operand → Value) (ty : TypeId) (pos : String) (af : Array Edge) (g : Option (Nat × Bool)) :
    execOp ρ { dst := none, op := .store 34 (.tmp 6) (.tmp 17), type := ty, pos := pos, after := af, guard := g } = stV (ρ (.tmp 6)) (ρ (.tmp 17)) := rfl
theorem execOp_stVr30 (ρ : Operand → Value) (ty : TypeId) (pos : String) (af : Array Edge) (g : Option (Nat × Bool)) :
    execOp ρ { dst := none, op := .store 34 (.tmp 4) (.tmp 30), type := ty, pos := pos, after := af, guard := g } = stV (ρ (.tmp 4)) (ρ (.tmp 30)) := rfl
theorem execOp_stVr31 (ρ : Operand → Value) (ty : TypeId) (pos : String) (af : Array Edge) (g : Option (Nat × Bool)) :
    execOp ρ { dst := none, op := .store 34 (.tmp 4) (.tmp 31), type := ty, pos := pos, after := af, guard := g } = stV (ρ (.tmp 4)) (ρ (.tmp 31)) := rfl
theorem execOp_ldVr31 (ρ : Operand → Value) (ty : TypeId) (pos : String) (af : Array Edge) (g : Option (Nat × Bool)) :
    execOp ρ { dst := some 31, op := .load 34 (.tmp 6), type := ty, pos := pos, after := af, guard := g } = ldV (ρ (.tmp 6)) := rfl
def PrGetQ (w : World) (x : Val) (raw : Value) (fu : Bool) (e : Ending) (w' : World) : Prop :=
  (fu = true ∧ e = .returned (.tuple #[.agg (vcs x raw), .int .i64 0]) ∨ fu = false ∧ e = .returned (.tuple #[.agg zV, .int .i64 82])) ∧ Below w.heap.size w w'
theorem execOp_ldPrGPhi9 (ρ : Operand → Value) (ty : TypeId) (pos : String) (af : Array Edge) (g : Option (Nat × Bool)) :
    execOp ρ { dst := some 9, op := .load 34 (.tmp 3), type := ty, pos := pos, after := af, guard := g } = ldV (ρ (.tmp 3)) := rfl
theorem execOp_ldPrGPhi15 (ρ : Operand → Value) (ty : TypeId) (pos : String) (af : Array Edge) (g : Option (Nat × Bool)) :
    execOp ρ { dst := some 15, op := .load 34 (.tmp 14), type := ty, pos := pos, after := af, guard := g } = ldV (ρ (.tmp 14)) := rfl
def PrGPhi (b B0 nl cv : Nat) (pv : Option Addr) (xk xn xr : Int) (xs : ByteArray) (j : Nat) (v : Value) (wx : World) : Prop :=
  match j with
  | 0 => v = .agg zV
  | 1 => v = .pointer (some ⟨b, 0, none⟩)
  | 2 => v = .pointer (some ⟨b, 0, none⟩)
  | 3 => v = .pointer (some ⟨b, 0, none⟩)
  | 4 => v = .pointer (some ⟨b, 2, none⟩)
  | 5 => v = .pointer (some ⟨b, 4, none⟩)
  | 6 => v = .agg #[.int .u8 xk, .int .i64 xn, .string xs, .slice pv nl cv, .int .i64 xr]
  | 7 => v = .tuple #[.agg #[.int .u8 xk, .int .i64 xn, .string xs, .slice pv nl cv, .int .i64 xr], .int .i64 0]
  | 8 => v = .tuple #[.agg #[.int .u8 xk, .int .i64 xn, .string xs, .slice pv nl cv, .int .i64 xr], .int .i64 0]
  | 9 => v = .agg #[.int .u8 xk, .int .i64 xn, .string xs, .slice pv nl cv, .int .i64 xr]
  | 10 => v = .int .i64 0
  | 11 => ∃ g, v = .pointer (some ⟨g, 0, none⟩) ∧ B0 ≤ g ∧ wx.heap[g]? = some (.cells zV 34 (0, 0))
  | _ => True
theorem PrGPhi.stab {b B0 nl cv : Nat} {pv : Option Addr} {xk xn xr : Int} {xs : ByteArray} : ∀ (j : Nat) (v : Value) (w w' : World), Below w.heap.size w w' → PrGPhi b B0 nl cv pv xk xn xr xs j v w → PrGPhi b B0 nl cv pv xk xn xr xs j v w' := by
  intro j v w w' hR h
  unfold PrGPhi at h ⊢
  split at h
  · exact h
  · exact h
  · exact h
  · exact h
  · exact h
  · exact h
  · exact h
  · exact h
  · exact h
  · exact h
  · exact h
  · obtain ⟨g, h1, h0, h2⟩ := h
    exact ⟨g, h1, h0, below_blk hR h2⟩
  · trivial
attribute [local go_sem ↓] execOp_stVr30 execOp_stVr31 execOp_ldVr31 in
set_option maxHeartbeats 4000000 in
set_option maxRecDepth 20000 in
theorem prGet_W {b : Nat} {r h : Int} {x : Val} {fu : Bool} {pv : Option Addr} {nl cv : Nat} (hb : w.heap[b]? = some (.cells (baseC p r (prT h x (.slice pv nl cv) fu)) 102 (0, 0))) :
    Calls Tryz.prog 145 #[.pointer (some ⟨b, 0, none⟩), .agg zV] w (PrGetQ w x (.slice pv nl cv) fu) := by
  have hlt := blk_lt hb
  have HX : Hid (Below w.heap.size w ((w.alloc (.cells #[.int .u8 0, .int .i64 0, .string ⟨#[]⟩, .slice none 0 0, .int .i64 0] 34)).alloc (.cells #[.int .u8 0, .int .i64 0, .string ⟨#[]⟩, .slice none 0 0, .int .i64 0] 34)) ∧
      ((w.alloc (.cells #[.int .u8 0, .int .i64 0, .string ⟨#[]⟩, .slice none 0 0, .int .i64 0] 34)).alloc (.cells #[.int .u8 0, .int .i64 0, .string ⟨#[]⟩, .slice none 0 0, .int .i64 0] 34)).heap[w.heap.size]? = some (.cells zV 34 (0, 0)) ∧
      ((w.alloc (.cells #[.int .u8 0, .int .i64 0, .string ⟨#[]⟩, .slice none 0 0, .int .i64 0] 34)).alloc (.cells #[.int .u8 0, .int .i64 0, .string ⟨#[]⟩, .slice none 0 0, .int .i64 0] 34)).heap[w.heap.size + 1]? = some (.cells zV 34 (0, 0))) :=
    ⟨((Below.refl _ _).alloc (Nat.le_refl _) _).alloc (by simp) _, blk2_old _ _ _, blk2_new _ _ _⟩
  simp only [zV]
  obtain ⟨xk, xn, xs, xl, xr⟩ := x
  go_enter Tryz.func145, Tryz.ntmps145
  go_upto_region 1 with fail
  revert HX
  generalize (w.alloc _).alloc _ = wa
  intro HX
  have Hb : Hid (wa.heap[b]? = some (.cells (baseC p r (prT h ⟨xk, xn, xs, xl, xr⟩ (.slice pv nl cv) fu)) 102 (0, 0))) := (HX.out.1.block b hlt).trans hb
  refine wp_region_growKL 12 10 18 6 17 34 (.int .i64 0) (by kernel_rfl) rfl (by kernel_rfl) rfl rfl rfl (by decide) (by decide) (by kernel_rfl) (fun a b => Below a.heap.size a b) (PrGPhi b wa.heap.size nl cv pv xk xn xr xs) (fun w' => Below wa.heap.size wa w') (fun j v w w' => PrGPhi.stab j v w w') (fun w => Below.refl _ _) below_drew (fun a b h hR => h.trans (hR.mono h.size)) (fun w => rfl) ?_ ?_ ?_
  · intro a w w' hdep
    have h8 : a.tmps.getD 8 undef = .tuple #[.agg #[.int .u8 xk, .int .i64 xn, .string xs, .slice pv nl cv, .int .i64 xr], .int .i64 0] := hdep ⟨8, .data⟩ (by simp) rfl _ rfl
    have h8' : a.tmps[8]?.getD undef = .tuple #[.agg #[.int .u8 xk, .int .i64 xn, .string xs, .slice pv nl cv, .int .i64 xr], .int .i64 0] := by rw [← h8]; simp [Array.getD_eq_getD_getElem?]
    clear hdep
    simp [go_sem, h8']
  · intro j q a w7 hne hq hC hG
    have hj : j < 12 := (List.getElem?_eq_some_iff.1 hq).1
    match j, hj with
    | 0, _ =>
      cases hq
      have h3 : a.tmps.getD 3 undef = .pointer (some ⟨w.heap.size, 0, none⟩) := hG.fr 3 (by simp)
      refine step_g (.agg zV) ?_ (Below.refl _ _) rfl
      rw [execOp_ldPrGPhi9]
      show (ldV (a.tmps.getD 3 undef)).run _ _ = _
      rw [h3]
      exact loadV_blk (below_blk hC HX.out.2.1) rfl
    | 1, _ =>
      cases hq
      have h0 : a.tmps.getD 0 undef = .pointer (some ⟨b, 0, none⟩) := hG.fr 0 (by simp)
      have h0' : a.tmps[0]?.getD undef = .pointer (some ⟨b, 0, none⟩) := by rw [← h0]; simp [Array.getD_eq_getD_getElem?]
      unfold Oper.wp
      simp [go_sem, Act.eval, h0']
      exact ⟨_, rfl, Below.refl _ _, rfl⟩
    | 2, _ =>
      cases hq
      have h10 : a.tmps.getD 10 undef = .pointer (some ⟨b, 0, none⟩) := hG.dep ⟨1, .data⟩ (by simp) rfl _ rfl
      have h10' : a.tmps[10]?.getD undef = .pointer (some ⟨b, 0, none⟩) := by rw [← h10]; simp [Array.getD_eq_getD_getElem?]
      unfold Oper.wp
      simp [go_sem, Act.eval, h10']
      exact ⟨_, rfl, Below.refl _ _, rfl⟩
    | 3, _ =>
      cases hq
      have h11 : a.tmps.getD 11 undef = .pointer (some ⟨b, 0, none⟩) := hG.dep ⟨2, .data⟩ (by simp) rfl _ rfl
      have h11' : a.tmps[11]?.getD undef = .pointer (some ⟨b, 0, none⟩) := by rw [← h11]; simp [Array.getD_eq_getD_getElem?]
      unfold Oper.wp
      simp [go_sem, Act.eval, h11']
      exact ⟨_, rfl, Below.refl _ _, rfl⟩
    | 4, _ =>
      cases hq
      have h12 : a.tmps.getD 12 undef = .pointer (some ⟨b, 0, none⟩) := hG.dep ⟨3, .data⟩ (by simp) rfl _ rfl
      have h12' : a.tmps[12]?.getD undef = .pointer (some ⟨b, 0, none⟩) := by rw [← h12]; simp [Array.getD_eq_getD_getElem?]
      unfold Oper.wp
      simp [go_sem, Act.eval, h12']
      exact ⟨_, rfl, Below.refl _ _, rfl⟩
    | 5, _ =>
      cases hq
      have h13 : a.tmps.getD 13 undef = .pointer (some ⟨b, 2, none⟩) := hG.dep ⟨4, .data⟩ (by simp) rfl _ rfl
      have h13' : a.tmps[13]?.getD undef = .pointer (some ⟨b, 2, none⟩) := by rw [← h13]; simp [Array.getD_eq_getD_getElem?]
      unfold Oper.wp
      simp [go_sem, Act.eval, h13']
      exact ⟨_, rfl, Below.refl _ _, rfl⟩
    | 6, _ =>
      cases hq
      have h14 : a.tmps.getD 14 undef = .pointer (some ⟨b, 4, none⟩) := hG.dep ⟨5, .data⟩ (by simp) rfl _ rfl
      refine step_g (.agg #[.int .u8 xk, .int .i64 xn, .string xs, .slice pv nl cv, .int .i64 xr]) ?_ (Below.refl _ _) rfl
      rw [execOp_ldPrGPhi15]
      show (ldV (a.tmps.getD 14 undef)).run _ _ = _
      rw [h14]
      exact ldV_mid (below_blk hC Hb.out) (cs := #[.int .u8 xk, .int .i64 xn, .string xs, .slice pv nl cv, .int .i64 xr].toList) (by intro j x hj; exact baseC_at4 rfl hj) rfl
    | 7, _ =>
      cases hq
      have h9 : a.tmps.getD 9 undef = .agg zV := hG.dep ⟨0, .data⟩ (by simp) rfl _ rfl
      have h9' : a.tmps[9]?.getD undef = .agg zV := by rw [← h9]; simp [Array.getD_eq_getD_getElem?]
      have h15 : a.tmps.getD 15 undef = .agg #[.int .u8 xk, .int .i64 xn, .string xs, .slice pv nl cv, .int .i64 xr] := hG.dep ⟨6, .data⟩ (by simp) rfl _ rfl
      have h15' : a.tmps[15]?.getD undef = .agg #[.int .u8 xk, .int .i64 xn, .string xs, .slice pv nl cv, .int .i64 xr] := by rw [← h15]; simp [Array.getD_eq_getD_getElem?]
      unfold Oper.wp
      simp [go_sem, callFunc, Act.eval, Tryz.func136, h9', h15']
      refine Calls.mono (told_W _ _ _ _ _ _ _ _) ?_
      rintro e w8 ⟨rfl, hb8⟩
      exact ⟨_, rfl, hb8, rfl⟩
    | 8, _ =>
      cases hq
      have h16 : a.tmps.getD 16 undef = .tuple #[.agg #[.int .u8 xk, .int .i64 xn, .string xs, .slice pv nl cv, .int .i64 xr], .int .i64 0] := hG.dep ⟨7, .data⟩ (by simp) rfl _ rfl
      have h16' : a.tmps[16]?.getD undef = .tuple #[.agg #[.int .u8 xk, .int .i64 xn, .string xs, .slice pv nl cv, .int .i64 xr], .int .i64 0] := by rw [← h16]; simp [Array.getD_eq_getD_getElem?]
      unfold Oper.wp
      simp [go_sem, Act.eval, h16']
      exact ⟨_, rfl, Below.refl _ _, rfl⟩
    | 9, _ =>
      cases hq
      have h8 : a.tmps.getD 8 undef = .tuple #[.agg #[.int .u8 xk, .int .i64 xn, .string xs, .slice pv nl cv, .int .i64 xr], .int .i64 0] := hG.dep ⟨8, .data⟩ (by simp) rfl _ rfl
      have h8' : a.tmps[8]?.getD undef = .tuple #[.agg #[.int .u8 xk, .int .i64 xn, .string xs, .slice pv nl cv, .int .i64 xr], .int .i64 0] := by rw [← h8]; simp [Array.getD_eq_getD_getElem?]
      unfold Oper.wp
      simp [go_sem, Act.eval, h8']
      exact ⟨_, rfl, Below.refl _ _, rfl⟩
    | 10, _ =>
      exact absurd rfl hne
    | 11, _ =>
      cases hq
      unfold Oper.wp
      simp [go_sem]
      exact ⟨_, rfl, (Below.refl _ _).alloc (Nat.le_refl _) _, w7.heap.size, rfl, hC.size, blk_new _ _⟩
  intro a w7 hC hdf hsz hfr hphi
  have e0 : a.tmps.getD 9 undef = .agg zV := hphi 0 _ rfl
  have e1 : a.tmps.getD 10 undef = .pointer (some ⟨b, 0, none⟩) := hphi 1 _ rfl
  have e2 : a.tmps.getD 11 undef = .pointer (some ⟨b, 0, none⟩) := hphi 2 _ rfl
  have e3 : a.tmps.getD 12 undef = .pointer (some ⟨b, 0, none⟩) := hphi 3 _ rfl
  have e4 : a.tmps.getD 13 undef = .pointer (some ⟨b, 2, none⟩) := hphi 4 _ rfl
  have e5 : a.tmps.getD 14 undef = .pointer (some ⟨b, 4, none⟩) := hphi 5 _ rfl
  have e6 : a.tmps.getD 15 undef = .agg #[.int .u8 xk, .int .i64 xn, .string xs, .slice pv nl cv, .int .i64 xr] := hphi 6 _ rfl
  have e7 : a.tmps.getD 16 undef = .tuple #[.agg #[.int .u8 xk, .int .i64 xn, .string xs, .slice pv nl cv, .int .i64 xr], .int .i64 0] := hphi 7 _ rfl
  have e8 : a.tmps.getD 8 undef = .tuple #[.agg #[.int .u8 xk, .int .i64 xn, .string xs, .slice pv nl cv, .int .i64 xr], .int .i64 0] := hphi 8 _ rfl
  have e9 : a.tmps.getD 17 undef = .agg #[.int .u8 xk, .int .i64 xn, .string xs, .slice pv nl cv, .int .i64 xr] := hphi 9 _ rfl
  have e10 : a.tmps.getD 18 undef = .int .i64 0 := hphi 10 _ rfl
  obtain ⟨g, e11, hg0, hg⟩ := hphi 11 _ rfl
  have e11 : a.tmps.getD 6 undef = .pointer (some ⟨g, 0, none⟩) := e11
  have ha := act_of hdf hsz hfr
  simp only [List.take_succ_cons, List.take_zero, List.filterMap_cons, List.filterMap_nil, List.foldl_cons, List.foldl_nil, List.setIfInBounds_toArray, List.set_cons_zero, List.set_cons_succ, e0, e1, e2, e3, e4, e5, e6, e7, e8, e9, e10, e11] at ha
  clear hdf hsz hfr hphi e0 e1 e2 e3 e4 e5 e6 e7 e8 e9 e10 e11
  subst ha
  have hst := storeV_blk (c' := #[.int .u8 xk, .int .i64 xn, .string xs, .slice pv nl cv, .int .i64 xr]) hg rfl rfl (by simp [go_sem])
  refine ⟨w7.setRow g #[.int .u8 xk, .int .i64 xn, .string xs, .slice pv nl cv, .int .i64 xr], ?_, ?_⟩
  · rw [execOp_stVr6]
    simp [Act.eval, hst]
  have HY : Hid (Below w.heap.size w (w7.setRow g #[.int .u8 xk, .int .i64 xn, .string xs, .slice pv nl cv, .int .i64 xr]) ∧ (w7.setRow g #[.int .u8 xk, .int .i64 xn, .string xs, .slice pv nl cv, .int .i64 xr]).heap[g]? = some (.cells #[.int .u8 xk, .int .i64 xn, .string xs, .slice pv nl cv, .int .i64 xr] 34 (0, 0)) ∧ (w7.setRow g #[.int .u8 xk, .int .i64 xn, .string xs, .slice pv nl cv, .int .i64 xr]).heap[b]? = some (.cells (baseC p r (prT h ⟨xk, xn, xs, xl, xr⟩ (.slice pv nl cv) fu)) 102 (0, 0)) ∧
      (w7.setRow g #[.int .u8 xk, .int .i64 xn, .string xs, .slice pv nl cv, .int .i64 xr]).heap[w.heap.size + 1]? = some (.cells zV 34 (0, 0))) := by
    have h1 := blk_lt HX.out.2.2
    refine ⟨Below.setRow (HX.out.1.trans (hC.mono HX.out.1.size)) (by omega) _, heap_setRow_at hg, ?_, ?_⟩
    · rw [heap_setRow_other _ _ _ _ (by omega)]
      exact below_blk hC Hb.out
    · rw [heap_setRow_other _ _ _ _ (by omega)]
      exact below_blk hC HX.out.2.2
  clear hst hg hg0 hC HX Hb
  refine ⟨rfl, ?_⟩
  unfold Oper.wp
  simp [execOp, go_sem, Act.eval, wpTailG]
  revert HY
  generalize World.setRow _ _ _ = w8
  intro HY
  refine ‹∀ (a : Act) (w : World), Code.wp Tryz.prog _ _ a w → _› _ _ ?_
  have c15 : w8.cell? ⟨b, 15, none⟩ = some (.bool fu) := by rw [cell_blk HY.out.2.2.1]; rfl
  cases fu with
  | false =>
    have hst : (stV (.pointer (some ⟨w.heap.size + 1, 0, none⟩)) (.agg #[.int .u8 0, .int .i64 0, .string ⟨#[]⟩, .slice none 0 0, .int .i64 0])).run Tryz.prog w8 = .ok .skip w8 := stV_same HY.out.2.2.2 rfl (by simp [zV]) (by simp [go_sem]) (by simp [zV])
    obtain ⟨⟨r0, r1, r2, r3, r4⟩, -⟩ := cells5 HY.out.2.2.2
    go_wp2_with fail
    refine bodyPost_ret (v := .tuple #[.agg zV, .int .i64 82]) (by simp [results, Tryz.results145, go_sem, r0, r1, r2, r3, r4, zV]) rfl ⟨.inr ⟨rfl, rfl⟩, HY.out.1⟩
  | true =>
    have hld := loadV_blk HY.out.2.1 rfl
    have hst := storeV_blk (c' := #[.int .u8 xk, .int .i64 xn, .string xs, .slice pv nl cv, .int .i64 xr]) HY.out.2.2.2 rfl rfl (by simp [go_sem])
    have HZ := (show Hid _ from heap_setRow_at (c' := #[.int .u8 xk, .int .i64 xn, .string xs, .slice pv nl cv, .int .i64 xr]) HY.out.2.2.2)
    have HB := (show Hid (Below w.heap.size w (w8.setRow (w.heap.size + 1) #[.int .u8 xk, .int .i64 xn, .string xs, .slice pv nl cv, .int .i64 xr])) from Below.setRow HY.out.1 (Nat.le_succ _) _)
    go_wp2_with fail
    obtain ⟨⟨r0, r1, r2, r3, r4⟩, -⟩ := cells5 HZ.out
    refine bodyPost_ret (v := .tuple #[.agg #[.int .u8 xk, .int .i64 xn, .string xs, .slice pv nl cv, .int .i64 xr], .int .i64 0]) (by simp [results, Tryz.results145, go_sem, r0, r1, r2, r3, r4]) rfl ⟨.inl ⟨rfl, rfl⟩, HB.out⟩
end Go.Proofs.YtcoiccbmcjdheaaGreat
