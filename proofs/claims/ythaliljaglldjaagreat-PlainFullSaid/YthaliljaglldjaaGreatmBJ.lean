/- A part of the proof, several texts in one: PivotS, PlDH, PlDA. -/
import Derived.Test.YthaliljaglldjaaGreatmBI
import Derived.Test.YthaliljaglldjaaGreatmAX
/- A region that draws its order: a head that only reads, then one operation, then a middle that only reads, then a tail in one forced order that may turn whatever it likes. -/
namespace Go.Proofs.YthaliljaglldjaaGreat
open Go.RowKit
section
variable {P : Program} {ops : Array Oper} {Q : Exit → Act → World → Prop} {n : Nat} {w : World}
def PivS (P : Program) (ops : Array Oper) (Q : Exit → Act → World → Prop) (mid tail : List Oper) : Exit → Act → World → Prop
  | .normal, a, w => wpStill P ops w (fun a' => wpList P ops Q tail a' w) mid a
  | x, a, w => Q x a w
theorem pivS_lets {mid tail : List Oper} (h : LetsOut (PivS P ops Q mid tail)) : LetsOut Q := by
  obtain ⟨a, w, h⟩ := h
  exact ⟨a, w, h⟩
theorem pivS_wp {mid tail : List Oper} {o : Oper} {a : Act} {K : Act → World → Prop} (hh : o.wp P a w K (PivS P ops Q mid tail)) : o.wp P a w K Q := by
  unfold Oper.wp at *
  generalize (execOp a.eval o).run P w = r at *
  cases r with
  | ok m w' =>
    cases m <;> simp only [Oper.upon] at hh ⊢ <;>
      first
        | exact hh
        | exact Calls.mono hh (fun e w'' he => by cases e <;> first | exact he | exact pivS_lets he)
  | halt x w' => cases x <;> simp only [Oper.upon] at hh ⊢ <;> exact hh
def pivotSB (ops : Array Oper) (n m : Nat) : Bool :=
  decide (n < ops.size) && Region.noSelect ops && Region.noSelect (ops.extract 0 n) && Region.sinkB .any ops n &&
  ((List.range (n + 1)).all fun i => (ops[i]?).all fun o => (o.after.all fun e => decide (e.on < i)) && o.guard.all fun g => decide (g.1 < i)) &&
  ((List.range ops.size).all fun t => decide (t ≤ n) || (List.range t).any fun j => decide (n ≤ j) && Region.waitsFor .any ops t j) &&
  Region.lexFrom .any (ops.extract 0 n) n 0 (Array.replicate n false) &&
  decide (Region.ready .any ops (Array.replicate n true ++ Array.replicate (ops.size - n) false) = [n]) &&
  (decide (n + 1 + m < ops.size) && Region.sinkB .any ops (n + 1 + m) && Region.chainB .any ops (n + 1 + m) &&
    Region.lexHead .any ops (ops.size - (n + 1 + m)) m (n + 1) ((Array.replicate n true ++ Array.replicate (ops.size - n) false).setIfInBounds n true))
theorem pivotsS_of {m : Nat} (h : pivotSB ops n m = true) : Pivots ops (ops.extract 0 n) n := by
  simp only [pivotSB, Bool.and_eq_true, decide_eq_true_eq] at h
  obtain ⟨⟨⟨⟨⟨⟨⟨⟨h1, -⟩, -⟩, h2⟩, h3⟩, h4⟩, -⟩, -⟩, -⟩ := h
  have h3' : ∀ i o, i < n → ops[i]? = some o → (∀ e ∈ o.after, e.on < i) ∧ ∀ g b, o.guard = some (g, b) → g < i := fun i o hi ho => by
    have := List.all_eq_true.1 h3 i (List.mem_range.2 (Nat.lt_succ_of_lt hi))
    rw [ho] at this
    simp only [Option.all_some, Bool.and_eq_true, Array.all_eq_true_iff_forall_mem, decide_eq_true_eq] at this
    exact ⟨this.1, fun g b hg => by have := this.2; rw [hg] at this; simpa using this⟩
  exact {
    lt := h1
    sz := by simp; omega
    same := fun i hi => by rw [Array.getElem?_extract]; simp; omega
    edge := fun i o hi ho => (h3' i o hi ho).1
    guard := fun i o g b hi ho hg => (h3' i o hi ho).2 g b hg
    sink := fun i hi => by
      have := List.all_eq_true.1 h2 i (List.mem_range.2 hi)
      obtain ⟨j, hj, hj2⟩ := List.any_eq_true.1 this
      simp only [Bool.and_eq_true, decide_eq_true_eq] at hj2
      exact ⟨j, hj2.1, by have := List.mem_range.1 hj; omega, hj2.2⟩
    tail := fun t h5 h6 => by
      have := List.all_eq_true.1 h4 t (List.mem_range.2 h6)
      simp only [Bool.or_eq_true, decide_eq_true_eq] at this
      rcases this with h | h
      · omega
      · obtain ⟨j, hj, hj2⟩ := List.any_eq_true.1 h
        simp only [Bool.and_eq_true, decide_eq_true_eq] at hj2
        exact ⟨j, hj2.1, List.mem_range.1 hj, hj2.2⟩ }
theorem wp_region_pivotS {id : Nat} {a : Act} {w : World} {l : List Oper} (n m : Nat) (hm : P.follows .mixedOrders = true) (hB : pivotSB l.toArray n m = true)
    (h : wpStill P l.toArray w.drew (fun a' => wpList P l.toArray (PivS P l.toArray Q ((l.drop (n + 1)).take m) (l.drop (n + 1 + m))) ((l.drop n).take 1) a' w.drew) (l.take n) a) : (Code.region id l.toArray true).wp P Q a w := by
  have p := pivotsS_of hB
  simp only [pivotSB, Bool.and_eq_true, decide_eq_true_eq] at hB
  obtain ⟨⟨⟨⟨⟨⟨⟨⟨h1, hsel⟩, hsel'⟩, -⟩, hedge⟩, -⟩, hlex⟩, hrd⟩, ⟨⟨hlt2, hsink2⟩, hchain2⟩, hlex2⟩ := hB
  have h1' : n < l.length := by simpa using h1
  have hops : (l.toArray.extract 0 n) = (l.take n).toArray := by simp
  have hlen : (l.take n).length = n := by simp; omega
  refine wp_region_any hm ?_
  obtain ⟨o, ho⟩ : ∃ o, l[n]? = some o := ⟨_, List.getElem?_eq_getElem h1'⟩
  have hd1 : (l.drop n).take 1 = [o] := by
    rw [List.drop_eq_getElem_cons h1', List.take_succ_cons, List.take_zero]
    rw [List.getElem?_eq_getElem h1'] at ho
    simpa using ho
  have hG : ∀ (L : Array Bool) (a : Act), HeadInv .any l.toArray n L → (∀ i, i < n → L.getD i true = true) →
      wpList P l.toArray (PivS P l.toArray Q ((l.drop (n + 1)).take m) (l.drop (n + 1 + m))) ((l.drop n).take 1) a w.drew → wpAny P .any l.toArray Q (l.toArray.size - n) L a w.drew := by
    intro L a inv hL hh
    have hLe : L = Array.replicate n true ++ Array.replicate (l.toArray.size - n) false := by
      apply Array.ext
      · rw [inv.size]; simp; omega
      · intro i hi1 hi2
        by_cases hin : i < n
        · have := hL i hin
          simp only [Array.getD, hi1, ↓reduceDIte, Array.getInternal_eq_getElem] at this
          rw [this, Array.getElem_append_left (by simpa using hin)]
          simp
        · have := inv.tail i (by omega) (by rw [← inv.size]; exact hi1)
          simp only [Array.getD, hi1, ↓reduceDIte, Array.getInternal_eq_getElem] at this
          rw [this, Array.getElem_append_right (by simp; omega)]
          simp
    rw [show l.toArray.size - n = (l.toArray.size - n - 1) + 1 by omega, hLe]
    refine ⟨fun h0 => (by rw [hrd] at h0; cases h0), fun i hi => ?_⟩
    rw [hrd] at hi
    have hin : i = n := by simpa using hi
    subst hin
    rw [hd1] at hh
    have tailw : ∀ a' w', wpStill P l.toArray w' (fun a'' => wpList P l.toArray Q (l.drop (i + 1 + m)) a'' w') ((l.drop (i + 1)).take m) a' → wpAny P .any l.toArray Q (l.toArray.size - i - 1) ((Array.replicate i true ++ Array.replicate (l.toArray.size - i) false).setIfInBounds i true) a' w' := fun a' w' h' => by
      have hlt2' : i + 1 + m < l.length := by simpa using hlt2
      have hml : ((l.drop (i + 1)).take m).length = m := by simp; omega
      have hset : ∀ j, ((Array.replicate i true ++ Array.replicate (l.toArray.size - i) false).setIfInBounds i true).getD j false = decide (j ≤ i) := fun j => by
        simp only [Array.getD_eq_getD_getElem?, Array.getElem?_setIfInBounds]
        by_cases h1 : i = j
        · subst h1
          rw [if_pos rfl, if_pos (by rw [Array.size_append, Array.size_replicate, Array.size_replicate, List.size_toArray]; omega)]
          simp
        · rw [if_neg h1]
          by_cases h2 : j < i
          · rw [Array.getElem?_append_left (by simpa using h2)]
            simp [h2]
            omega
          · rw [Array.getElem?_append_right (by simp; omega)]
            have h3 : ¬ j ≤ i := by omega
            simp only [h3, decide_false]
            simp [Array.getElem?_replicate]
            split <;> rfl
      have inv1 : HeadInv .any l.toArray (i + 1 + m) ((Array.replicate i true ++ Array.replicate (l.toArray.size - i) false).setIfInBounds i true) := by
        refine ⟨by simp; omega, fun j oj hj hl e he _ => ?_, fun t ht ht' => ?_⟩
        · rw [hset] at hl ⊢
          have hji : j ≤ i := by simpa using hl
          have h5 := List.all_eq_true.1 hedge j (List.mem_range.2 (by omega))
          rw [hj] at h5
          simp only [Option.all_some, Bool.and_eq_true, Array.all_eq_true_iff_forall_mem, decide_eq_true_eq] at h5
          have := h5.1 e he
          simp
          omega
        · refine getD_in (by simp at ht' ⊢; omega) ?_
          rw [hset]
          simp
          omega
      have H := wpAnyL_lex (md := .any) (g := l.toArray.size - (i + 1 + m)) hsel hsink2 hchain2 hlt2 ((l.drop (i + 1)).take m) (i + 1) _ a' (fun j hj => by
        have hj' : j < m := by rw [hml] at hj; exact hj
        simp [hj', List.getElem?_drop]) (by rw [hml]) inv1 (by rw [hml]; exact hlex2) h'
      have hdl : (l.drop (i + 1 + m)).length = l.toArray.size - (i + 1 + m) := by simp
      have := wpAny_of_head (Q' := Q) (g := l.toArray.size - (i + 1 + m)) (fun listed a' hL => by
        have := wpAny_of_seq (md := .any) (Q' := Q) (l.drop (i + 1 + m)) (i + 1 + m) listed a' w' (fun j => by simp [List.getElem?_drop]) (by rw [hdl]; exact hL.1) hL.2
        rwa [hdl] at this) _ _ _ H
      rw [hml] at this
      have he : m + (l.toArray.size - (i + 1 + m)) = l.toArray.size - i - 1 := by simp; omega
      rw [he] at this
      exact this
    unfold wpOp
    rw [show l.toArray[i]? = some o by simpa using ho]
    simp only
    unfold wpList at hh
    split at hh
    · rename_i hx
      rw [if_pos hx]
      rcases hh with hh | ⟨h5, h6⟩
      · exact .inl (Oper.wp_mono (fun a' w' h' => tailw a' w' h') (pivS_wp hh))
      · exact .inr ⟨h5, pivS_lets h6⟩
    · rename_i hx
      rw [if_neg hx]
      exact tailw _ _ hh
  have hS : wpAnyS P .any (l.toArray.extract 0 n) w.drew (fun a' => wpList P l.toArray (PivS P l.toArray Q ((l.drop (n + 1)).take m) (l.drop (n + 1 + m))) ((l.drop n).take 1) a' w.drew) n (Array.replicate n false) a := by
    have hst := still_ops (ops := l.toArray) (ops' := l.toArray.extract 0 n) (l.take n) a (fun o ho t => by
      obtain ⟨i, hi, he⟩ := List.getElem_of_mem ho
      have hin : i < n := by omega
      have hoi : l.toArray[i]? = some o := by
        rw [List.getElem_take] at he
        rw [List.getElem?_toArray, List.getElem?_eq_getElem (by omega), he]
      cases hg : o.guard with
      | none => simp [Region.wanted, hg]
      | some gb =>
        obtain ⟨q, b⟩ := gb
        have := p.guard i o q b hin hoi hg
        simp only [Region.wanted, hg, yielded, p.same q (by omega)]) h
    have := wpAnyS_lex (md := .any) (P := P) (w := w.drew) hsel' (l.take n) 0 (Array.replicate n false) a (fun j => by rw [hops]; simp) (by rw [hlen]; exact hlex) hst
    rwa [hlen] at this
  have inv0 : HeadInv .any l.toArray n (Array.replicate l.toArray.size false) :=
    ⟨by simp, fun j oj _ hl => (by rw [getD_replicate_false] at hl; cases hl), fun t _ ht => getD_in (by simpa using ht) (getD_replicate_false _ _)⟩
  have := p.head hG n _ (Array.replicate n false) a inv0 (by simp) (fun i hi => by
    have h2 : i < l.toArray.size := by omega
    simp [Array.getD, hi]
    simpa using h2) (by simp) hS
  rw [show n + (l.toArray.size - n) = l.toArray.size by omega] at this
  exact this
end
end Go.Proofs.YthaliljaglldjaaGreat
/- plain.Do: what an ability does, of a thing that is found. Printed by gen_do.py. -/
namespace Go.Proofs.YthaliljaglldjaaGreat
open Go.RowKit Go.ChangeMaps Go.MapKept
variable {w : World} {p : Nat} {M : WM} {F : Nat → Prop}
theorem FoundB.drew {w8 : World} {r : Int} {t : Th} {ty : TypeId} {b : Nat} (h : FoundB w p r t ty b w8) : FoundB w p r t ty b w8.drew := by
  obtain ⟨vl', vals', h1, h2, h3, h4, h5⟩ := h
  exact ⟨vl', vals', h1, h2, h3.drew, h4.of_blocks (Lists.of fun _ _ => rfl) fun _ h => h, h5⟩
def stF (a x : Value) : Sem Next := do Instr.storeAt 240 a x; pure .skip
theorem execOp_stF (ρ : Operand → Value) (d : Option Tmp) (a x : Operand) (ty : TypeId) (pos : String) (af : Array Edge) (g : Option (Nat × Bool)) :
    execOp ρ { dst := d, op := .store 240 a x, type := ty, pos := pos, after := af, guard := g } = stF (ρ a) (ρ x) := rfl
theorem sizeF : (Tryz.prog.info? 240).map (·.size) = some 4 := by kernel_rfl
theorem stF_run {w : World} {b : Nat} {c c' : Array Value} (hg : w.heap[b]? = some (.cells c 240 (0, 0))) (hs : c.size = 4) (hs' : c'.size = 4) (h1 : c'.all (·.oneCell') = true) :
    (stF (.pointer (some ⟨b, 0, none⟩)) (.agg c')).run Tryz.prog w = .ok .skip (w.setRow b c') := by
  have := run_storeAt_blk (P := Tryz.prog) hg (by rw [hs']; exact sizeF) (by rw [hs, hs']) h1
  simp only [stF, Sem.run_bind, this, Result.andThen, Sem.run_pure]
theorem execOp_stVd (ρ : Operand → Value) (ty : TypeId) (pos : String) (af : Array Edge) (g : Option (Nat × Bool)) :
    execOp ρ { dst := none, op := .store 27 (.tmp 8) (.tmp 69), type := ty, pos := pos, after := af, guard := g } = stV (ρ (.tmp 8)) (ρ (.tmp 69)) := rfl
def actsF : Array Value := #[.func (.methodOf 157 "postern/plain.get") #[] #[], .func (.methodOf 157 "postern/plain.put") #[] #[], .func (.methodOf 157 "postern/plain.take") #[] #[], .func (.methodOf 157 "postern/plain.give") #[] #[]]
def MethPost (w : World) (F : Nat → Prop) (b : Nat) (Post : Val → Value → Int → World → Prop) (e : Ending) (w' : World) : Prop :=
  ∃ v pv cv n, e = .returned (.tuple #[.agg (vcs v (.slice pv v.l.length cv)), .int .i64 n]) ∧ Keeps (fun y => F y ∨ y = b) w w' ∧ Post v (.slice pv v.l.length cv) n w'
end Go.Proofs.YthaliljaglldjaaGreat
/- plain.Do at some kinds and abilities. Printed by gen_do.py. -/
namespace Go.Proofs.YthaliljaglldjaaGreat
open Go.RowKit Go.ChangeMaps Go.MapKept
variable {w : World} {p : Nat} {M : WM} {F : Nat → Prop}
end Go.Proofs.YthaliljaglldjaaGreat
