/- A part of the proof, several texts in one: TellA. -/
import Derived.Test.YtmefjkggibbhoaaGreatmAW
import Derived.Test.YtmefjkggibbhoaaGreatmAR
import Derived.Test.YtmefjkggibbhoaaGreatmAM
import Derived.Test.YtmefjkggibbhoaaGreatmAC
import Derived.Deep.AppendLies
import Derived.Deep.RegionLaw
/- Tell: a world told as plain data: the region that lays the answer. -/
namespace Go.Proofs.YtmefjkggibbhoaaGreat
open Go.RowKit Go.ChangeMaps Go.MapKept

theorem sizeAW : (Tryz.prog.info? 112).map (·.size) = some 5 := by kernel_rfl
/-- A whole api.World read, written: closed to the walk's simp. -/
def ldA (a : Value) : Sem Next := do pure (.value (← Instr.loadAt 112 a))
def stA (a x : Value) : Sem Next := do Instr.storeAt 112 a x; pure .skip
@[go_sem ↓] theorem execOp_ldA (ρ : Operand → Value) (d : Option Tmp) (a : Operand) (ty : TypeId) (pos : String) (af : Array Edge) (g : Option (Nat × Bool)) :
    execOp ρ { dst := d, op := .load 112 a, type := ty, pos := pos, after := af, guard := g } = ldA (ρ a) := rfl
@[go_sem ↓] theorem execOp_stA (ρ : Operand → Value) (d : Option Tmp) (a x : Operand) (ty : TypeId) (pos : String) (af : Array Edge) (g : Option (Nat × Bool)) :
    execOp ρ { dst := d, op := .store 112 a x, type := ty, pos := pos, after := af, guard := g } = stA (ρ a) (ρ x) := rfl
theorem loadA_blk {w : World} {b : Nat} {cs : Array Value} {fr : Nat × Nat} (hg : w.heap[b]? = some (.cells cs 112 fr)) (hs : cs.size = 5) : (ldA (.pointer (some ⟨b, 0, none⟩))).run Tryz.prog w = .ok (.value (.agg cs)) w := by
  have := run_loadAt_blk hg Tryz.underlying112 rfl (by rw [hs]; exact sizeAW)
  simp only [ldA, Sem.run_bind, this, Result.andThen, Sem.run_pure]
theorem storeA_blk {w : World} {b : Nat} {c c' : Array Value} (hg : w.heap[b]? = some (.cells c 112 (0, 0))) (hs : c.size = 5) (hs' : c'.size = 5) (h1 : c'.all (·.oneCell') = true) :
    (stA (.pointer (some ⟨b, 0, none⟩)) (.agg c')).run Tryz.prog w = .ok .skip (w.setRow b c') := by
  have := run_storeAt_blk (P := Tryz.prog) hg (by rw [hs']; exact sizeAW) (by rw [hs, hs']) h1
  simp only [stA, Sem.run_bind, this, Result.andThen, Sem.run_pure]

theorem step_st {P : Program} {Q : Exit → Act → World → Prop} {o : Oper} {a : Act} {w w' : World} (hrun : (execOp a.eval o).run P w = .ok .skip w') (hd : o.dst = none) (hq : Q .normal a w') : o.wp P a w (fun a' w' => Q .normal a' w') Q := by
  unfold Oper.wp
  rw [hrun]
  show Q .normal (a.put o.dst undef) w'
  rw [hd]
  exact hq
/-- What is known of each operation of the region. -/
def TPhi (w0 : World) (p : Nat) (M : WM) (pa : Option Addr) (pc mg mc : Nat) (i : Nat) (v : Value) (w : World) : Prop :=
  match i with
  | 0 | 1 | 2 | 5 | 6 | 9 | 10 => v = .pointer (some ⟨p, 0, none⟩)
  | 3 => v = .slice pa M.parents.length pc
  | 4 => NSides w0 M.parents v w
  | 7 => v = .pointer (some ⟨p, 4, none⟩)
  | 8 => v = .int .i64 M.last
  | 11 => v = .pointer (some ⟨p, 5, none⟩)
  | 12 => v = .slice (some ⟨mg, 0, none⟩) M.made.length mc
  | 13 => CRow w0 3 (M.made.map (Value.int .i64)) v w
  | 14 => ∃ v0 v4, v = .agg #[v0, .slice none 0 0, .slice none 0 0, .int .i64 M.last, v4] ∧ NSides w0 M.parents v0 w ∧ CRow w0 3 (M.made.map (Value.int .i64)) v4 w
  | 15 => ∃ q, v = .pointer (some ⟨q, 0, none⟩) ∧ w0.heap.size + 1 ≤ q ∧ w.heap[q]? = some (.cells #[.slice none 0 0, .slice none 0 0, .slice none 0 0, .int .i64 0, .slice none 0 0] 112 (0, 0))
  | _ => True
theorem TPhi.stab {w0 : World} {p : Nat} {M : WM} {pa : Option Addr} {pc mg mc : Nat} : ∀ (i : Nat) (v : Value) (w w' : World), Below w.heap.size w w' → TPhi w0 p M pa pc mg mc i v w → TPhi w0 p M pa pc mg mc i v w' := by
  intro i v w w' hR h
  unfold TPhi at h ⊢
  split at h <;> first
    | exact h
    | exact NSides.move h hR
    | exact CRow.move h hR
    | (obtain ⟨v0, v4, h0, h1, h2⟩ := h
       exact ⟨v0, v4, h0, h1.move hR, h2.move hR⟩)
    | (obtain ⟨q, h0, hq, hb⟩ := h
       exact ⟨q, h0, hq, below_blk hR hb⟩)
    | trivial
/-- Behind the region: what lies below b0, but for the answer's own block q, stays; there the sides and what was made are to be read. -/
structure TS0 (w0 w1 : World) (b0 q : Nat) (M : WM) (v0 v4 : Value) : Prop where
  ql : w0.heap.size + 1 ≤ q ∧ q < b0
  hb0 : b0 ≤ w1.heap.size
  below : Below w0.heap.size w0 w1
  r0 : w1.heap[w0.heap.size]? = some (.cells #[.slice none 0 0, .slice none 0 0, .slice none 0 0, .int .i64 0, .slice none 0 0] 112 (0, 0))
  s : ∃ pa pc, v0 = .slice pa M.parents.length pc ∧ ∀ w', (∀ b, b < b0 → b ≠ q → b ≠ w0.heap.size → w'.heap[b]? = w1.heap[b]?) → b0 ≤ w'.heap.size → IntArg .i64 w' pa M.parents
  m : ∃ pa pc, v4 = .slice pa M.made.length pc ∧ ∀ w', (∀ b, b < b0 → b ≠ q → b ≠ w0.heap.size → w'.heap[b]? = w1.heap[b]?) → b0 ≤ w'.heap.size → IntArg .i64 w' pa M.made
theorem TS0.of {w0 w1 : World} {q : Nat} {M : WM} {v0 v4 : Value} (hq : w0.heap.size + 1 ≤ q) (hb : Below w0.heap.size w0 w1) (hr : w1.heap[w0.heap.size]? = some (.cells #[.slice none 0 0, .slice none 0 0, .slice none 0 0, .int .i64 0, .slice none 0 0] 112 (0, 0)))
    (hqb : w1.heap[q]? = some (.cells #[.slice none 0 0, .slice none 0 0, .slice none 0 0, .int .i64 0, .slice none 0 0] 112 (0, 0))) (h0 : NSides w0 M.parents v0 w1) (h4 : CRow w0 3 (M.made.map (Value.int .i64)) v4 w1) (xs : Array Value) :
    TS0 w0 (w1.setRow q xs) w1.heap.size q M v0 v4 := by
  have hset : ∀ b, b ≠ q → (w1.setRow q xs).heap[b]? = w1.heap[b]? := fun b hb => by
    simp [World.setRow, Array.getElem?_modify, Ne.symm hb]
  have hsz : (w1.setRow q xs).heap.size = w1.heap.size := by simp [World.setRow]
  obtain ⟨pa, pc, rfl, hs⟩ := h0
  obtain ⟨g, cap, rfl, hg0, hg1, cur, hc1, hc2, hc3, hc4, hc5⟩ := h4
  refine ⟨⟨hq, blk_lt hqb⟩, by rw [hsz]; exact Nat.le_refl _, Below.setRow hb (by omega) _, (hset _ (by omega)).trans hr, ⟨pa, pc, rfl, fun w' hk hz => ?_⟩, ⟨some ⟨g, 0, none⟩, cap, by simp, fun w' hk hz => ?_⟩⟩
  · by_cases hp : M.parents = []
    · exact .inl hp
    · right
      obtain ⟨x, hx⟩ := List.exists_mem_of_ne_nil _ hp
      obtain ⟨j, hj⟩ := List.mem_iff_getElem?.1 hx
      obtain ⟨b, o, e, h1, h2, ⟨cs, fr, h3⟩, -⟩ := hs j x hj
      have hbq : b ≠ q := fun e => by rw [e, hqb] at h3; cases h3
      have hb0 : b ≠ w0.heap.size := fun e => by rw [e, hr] at h3; cases h3
      refine ⟨b, o, e, Nat.lt_of_lt_of_le h2 hz, fun j x hx => ?_⟩
      obtain ⟨b', o', e', -, -, -, h4⟩ := hs j x hx
      rw [e] at e'
      cases e'
      exact (World.cell?_of_block (a := ⟨b, o + j, none⟩) ((hk b h2 hbq hb0).trans (hset b hbq))).trans h4
  · right
    have hgq : g ≠ q := fun e => by rw [e, hqb] at hc1; cases hc1
    have hg0' : g ≠ w0.heap.size := fun e => by rw [e, hr] at hc1; cases hc1
    refine ⟨g, 0, rfl, Nat.lt_of_lt_of_le hg1 hz, fun j x hx => ?_⟩
    rw [cell_blk (((hk g hg1 hgq hg0').trans (hset g hgq)).trans hc1), Nat.zero_add]
    exact hc5 j _ (by rw [List.getElem?_map, hx]; rfl)

theorem grownBy_setCell_at (W : World) (b i : Nat) (v : Value) : W.grownBy (W.setCell ⟨b, i, none⟩ v) (some b) :=
  ⟨rfl, rfl, rfl, by simp [World.setCell], fun k _ hk => Below.heap_setCell _ _ _ k (fun e => hk (by rw [e]))⟩
theorem row_ne_rowS {w : World} {base base' n n' s s' : Nat} {e e' : TypeId} {v v' : Value} {xs xs' : List Value} (hne : e ≠ e') (h : w.ownsRow base e s v n xs) (h' : w.ownsRow base' e' s' v' n' xs') : v.ownBlock = none ∨ v.ownBlock ≠ v'.ownBlock := by
  rcases h.2 with ⟨rfl, -⟩ | ⟨g, cap, cur, rfl, -, hb, -⟩
  · exact .inl rfl
  · right
    rcases h'.2 with ⟨rfl, -⟩ | ⟨g', cap', cur', rfl, -, hb', -⟩
    · simp [Value.ownBlock]
    · simp only [Value.ownBlock, ne_eq, Option.some.injEq]
      rintro rfl
      rw [hb] at hb'
      cases hb'
      exact hne rfl
theorem row_ne_blk {w : World} {base n s q : Nat} {e : TypeId} {v : Value} {xs : List Value} (h : w.ownsRow base e s v n xs) (hq : q < base) : v.ownBlock = none ∨ v.ownBlock ≠ some q := by
  rcases h.2 with ⟨rfl, -⟩ | ⟨g, cap, cur, rfl, hg, -⟩
  · exact .inl rfl
  · right
    simp only [Value.ownBlock, ne_eq, Option.some.injEq]
    omega
/-- Between the rounds of Tell's loops: cs the cuts that are written down, xs the things. -/
structure TA (wA W : World) (b0 q : Nat) (M : WM) (v0 v4 : Value) (cs : List Int) (xs : List (Int × Th)) (w : World) : Prop where
  b : Below wA.heap.size wA w
  k : ∀ b, b < b0 → b ≠ q → w.heap[b]? = W.heap[b]?
  sz : b0 ≤ w.heap.size
  r : ∃ vC vT, w.heap[q]? = some (.cells #[v0, vC, vT, .int .i64 M.last, v4] 112 (0, 0)) ∧ w.ownsRow b0 3 1 vC cs.length (cs.map (Value.int .i64)) ∧ w.ownsRow b0 118 17 vT xs.length (xs.flatMap ent)
section
variable {wA W w w' : World} {b0 q : Nat} {M : WM} {v0 v4 : Value} {cs : List Int} {xs : List (Int × Th)}
theorem TA.below (h : TA wA W b0 q M v0 v4 cs xs w) (hb : Below w.heap.size w w') : TA wA W b0 q M v0 v4 cs xs w' := by
  obtain ⟨vC, vT, h1, h2, h3⟩ := h.r
  exact ⟨h.b.trans (hb.mono h.b.size), fun b hb' hne => (hb.block b (Nat.lt_of_lt_of_le hb' h.sz)).trans (h.k b hb' hne), Nat.le_trans h.sz hb.size, vC, vT, below_blk hb h1, h2.kept (row := none) ⟨hb.os, hb.tape, hb.output, hb.size, fun k hk _ => hb.block k hk⟩ (by cases vC.ownBlock <;> simp), h3.kept (row := none) ⟨hb.os, hb.tape, hb.output, hb.size, fun k hk _ => hb.block k hk⟩ (by cases vT.ownBlock <;> simp)⟩
/-- A cut is written down. -/
theorem TA.cut {vC vT v' : Value} {c : Int} (h : TA wA W b0 q M v0 v4 cs xs w) (hA : wA.heap.size ≤ q) (hq : q < b0) (hv : w.heap[q]? = some (.cells #[v0, vC, vT, .int .i64 M.last, v4] 112 (0, 0))) (h2 : w.ownsRow b0 3 1 vC cs.length (cs.map (Value.int .i64))) (h3 : w.ownsRow b0 118 17 vT xs.length (xs.flatMap ent))
    (r1 : w'.ownsRow b0 3 1 v' (cs.length + 1) (cs.map (Value.int .i64) ++ [.int .i64 c])) (r2 : w.grownBy w' vC.ownBlock) (r3 : Below b0 w w') : TA wA W b0 q M v0 v4 (cs ++ [c]) xs (w'.setCell ⟨q, 1, none⟩ v') := by
  have hv' := (r3.block q hq).trans hv
  have hs := blk_setCell hv' 1 v'
  have hAb : wA.heap.size ≤ b0 := by omega
  refine ⟨((h.b.trans (r3.mono hAb)).setCell (p := ⟨q, 1, none⟩) hA _), fun b hb hne => (Below.heap_setCell _ _ _ _ hne).trans ((r3.block b hb).trans (h.k b hb hne)), ?_, v', vT, hs, ?_, ?_⟩
  · have := h.sz
    have := r3.size
    simp [World.setCell]
    omega
  · have h4 := r1.kept (grownBy_setCell_at w' q 1 v') (row_ne_blk r1 hq)
    simpa using h4
  · exact (h3.kept r2 (row_ne_rowS (by decide) h3 h2)).kept (grownBy_setCell_at w' q 1 v') (row_ne_blk h3 hq)
/-- A thing is written down. -/
theorem TA.thing {vC vT v' : Value} {x : Int × Th} (h : TA wA W b0 q M v0 v4 cs xs w) (hA : wA.heap.size ≤ q) (hq : q < b0) (hv : w.heap[q]? = some (.cells #[v0, vC, vT, .int .i64 M.last, v4] 112 (0, 0))) (h2 : w.ownsRow b0 3 1 vC cs.length (cs.map (Value.int .i64))) (h3 : w.ownsRow b0 118 17 vT xs.length (xs.flatMap ent))
    (r1 : w'.ownsRow b0 118 17 v' (xs.length + 1) (xs.flatMap ent ++ ent x)) (r2 : w.grownBy w' vT.ownBlock) (r3 : Below b0 w w') : TA wA W b0 q M v0 v4 cs (xs ++ [x]) (w'.setCell ⟨q, 2, none⟩ v') := by
  have hv' := (r3.block q hq).trans hv
  have hs := blk_setCell hv' 2 v'
  have hAb : wA.heap.size ≤ b0 := by omega
  refine ⟨((h.b.trans (r3.mono hAb)).setCell (p := ⟨q, 2, none⟩) hA _), fun b hb hne => (Below.heap_setCell _ _ _ _ hne).trans ((r3.block b hb).trans (h.k b hb hne)), ?_, vC, v', hs, ?_, ?_⟩
  · have := h.sz
    have := r3.size
    simp [World.setCell]
    omega
  · exact (h2.kept r2 (row_ne_rowS (by decide) h2 h3)).kept (grownBy_setCell_at w' q 2 v') (row_ne_blk h2 hq)
  · have h4 := r1.kept (grownBy_setCell_at w' q 2 v') (row_ne_blk r1 hq)
    simpa using h4
end
theorem infoEntry : (Tryz.prog.info? 118).map (fun i => (i.zero, i.size, i.bytes)) = some (some (.agg zeroE), 17, 200) := by kernel_rfl
theorem new_cells (w : World) (cs : List Value) (e : TypeId) (j : Nat) (u : Value) (h : cs[j]? = some u) : (w.alloc (.cells cs.toArray e)).cell? ((⟨w.heap.size, 0, none⟩ : Addr).add j) = some u := by
  have hadd : (⟨w.heap.size, 0, none⟩ : Addr).add j = ⟨w.heap.size, j, none⟩ := by unfold Addr.add; split <;> simp_all
  rw [hadd, cell_blk (blk_new w _)]
  simpa using h
theorem row_below {w w' : World} {base s n : Nat} {e : TypeId} {v : Value} {xs : List Value} (h : w.ownsRow base e s v n xs) (hb : Below w.heap.size w w') : w'.ownsRow base e s v n xs :=
  h.kept (row := none) ⟨hb.os, hb.tape, hb.output, hb.size, fun k hk _ => hb.block k hk⟩ (by cases v.ownBlock <;> simp)
/-- append of an entry, as one step of a region that draws. -/
theorem step_entry {ops : Array Oper} {o : Oper} {a : Act} {w w5 : World} {K : Act → World → Prop} {Q : Exit → Act → World → Prop} {E : Prop} {b0 n : Nat} {v : Value} {xs : List Value} {y : Int × Th} {s x : Operand} (hgd : o.guard = none)
    (ho : o.op = .call { callee := .builtin .append, args := #[s, x], argTypes := #[110, 110] }) (hs : a.eval s = v) (hx : a.eval x = .slice (some ⟨w5.heap.size, 0, none⟩) 1 1) (hw : w = w5.alloc (.cells (ent y).toArray 118))
    (hown : w5.ownsRow b0 118 17 v n xs) (h1 : ∀ u ∈ ent y, u.oneCell' = true) (hn : n ≤ 1000000) (hb : b0 ≤ w5.heap.size)
    (h : ∀ g cap w', w'.ownsRow b0 118 17 (.slice (some ⟨g, 0, none⟩) (n + 1) cap) (n + 1) (xs ++ ent y) → (w5.alloc (.cells (ent y).toArray 118)).grownBy w' v.ownBlock → K (a.put o.dst (.slice (some ⟨g, 0, none⟩) (n + 1) cap)) w') :
    if Region.wanted o (yielded ops a.tmps) = true then Oper.wp Tryz.prog o a w K Q else E := by
  subst hw
  obtain ⟨i, hi, hz, h2, h3⟩ := info_parts infoEntry
  exact step_append_lies _ hgd s x 110 ho b0 118 i (.agg zeroE) 17 200 Tryz.underlying110 hi hz h2 h3 rfl (by decide) v n xs hs (hown.alloc _) ⟨w5.heap.size, 0, none⟩ 1 1 (ent y) hx rfl (new_cells w5 (ent y) 118) h1 (by decide) (by unfold maxLen; omega) (by omega) (by simp; omega) _ rfl
    fun g cap w' r1 r2 _ _ => h g cap w' r1 r2
/-- Behind the append of an entry. -/
theorem TA.app {wA W w5 w6 : World} {b0 q n g capg base m : Nat} {M : WM} {v0 v4 v' vC vT : Value} {cs : List Int} {xs : List (Int × Th)} {x : Int × Th} {rs : List Value} {o : Obj} (hm : xs.length = m) (h : TA wA W b0 q M v0 v4 cs xs w5) (hA : wA.heap.size ≤ q) (hq : q < b0) (hv : w5.heap[q]? = some (.cells #[v0, vC, vT, .int .i64 M.last, v4] 112 (0, 0))) (h2 : w5.ownsRow b0 3 1 vC cs.length (cs.map (Value.int .i64))) (h3 : w5.ownsRow b0 118 17 vT m (xs.flatMap ent))
    (hR : w5.ownsRow base 35 1 (.slice (some ⟨g, 0, none⟩) n capg) n rs) (hbase : b0 ≤ base) (r1 : w6.ownsRow b0 118 17 v' (m + 1) (xs.flatMap ent ++ ent x)) (r2 : (w5.alloc o).grownBy w6 vT.ownBlock) :
    TA wA W b0 q M v0 v4 cs (xs ++ [x]) (w6.setCell ⟨q, 2, none⟩ v') ∧ (w6.setCell ⟨q, 2, none⟩ v').ownsRow base 35 1 (.slice (some ⟨g, 0, none⟩) n capg) n rs ∧ w6.cell? ⟨q, 2, none⟩ = some vT ∧ w6.frozen? ⟨q, 2, none⟩ = false := by
  subst hm
  have ha : Below w5.heap.size w5 (w5.alloc o) := (Below.refl _ _).alloc (Nat.le_refl _) _
  have r3 : Below b0 (w5.alloc o) w6 := ⟨r2.os, r2.tape, r2.output, r2.size, fun k hk => r2.block k (by have := h.sz; simp; omega) (fun e => by
    rcases h3.2 with ⟨e', -⟩ | ⟨g', cap', cur, e', hg', -⟩
    · rw [e'] at e
      cases e
    · rw [e'] at e
      have := Option.some.inj e
      simp at this
      omega)⟩
  have h5 := h.below ha
  have hv5 := below_blk ha hv
  have hq6 := (r3.block q hq).trans hv5
  refine ⟨TA.thing h5 hA hq hv5 (h2.alloc _) (h3.alloc _) r1 r2 r3, ?_, by rw [cell_blk hq6]; rfl, frozen_blk hq6 2⟩
  exact ((hR.alloc o).kept r2 (row_ne_rowS (by decide) (hR.alloc o) (h3.alloc o))).kept (grownBy_setCell_at w6 q 2 v') (row_ne_blk hR (by omega))
theorem row_cells {W : World} {base n : Nat} {e : TypeId} {v : Value} {xs : List Value} (h : W.ownsRow base e 1 v n xs) :
    ∃ a cap, v = .slice a n cap ∧ ∀ k, k < n → ∃ g, a = some ⟨g, 0, none⟩ ∧ base ≤ g ∧ g < W.heap.size ∧ W.cell? ⟨g, k, none⟩ = xs[k]? := by
  rcases h.2 with ⟨rfl, h0⟩ | ⟨g, cap, cur, rfl, h1, h2, -⟩
  · subst h0
    exact ⟨none, 0, rfl, fun k hk => by omega⟩
  · exact ⟨_, cap, rfl, fun k hk => ⟨g, rfl, h1, blk_lt h2, h.cellAt k (by omega)⟩⟩
theorem intArg_below {k : IntKind} {w w' : World} {pa : Option Addr} {xs : List Int} (h : IntArg k w pa xs) (hb : Below w.heap.size w w') : IntArg k w' pa xs := by
  rcases h with h | ⟨b, o, h1, h2, h3⟩
  · exact .inl h
  · exact .inr ⟨b, o, h1, Nat.lt_of_lt_of_le h2 hb.size, fun j x hx => (hb.cell (p := ⟨b, o + j, none⟩) h2).trans (h3 j x hx)⟩
theorem intArg_of_row {w : World} {base : Nat} {e : TypeId} {v : Value} {xs : List Int} (h : w.ownsRow base e 1 v xs.length (xs.map (Value.int .i64))) : ∃ pa cap, v = .slice pa xs.length cap ∧ IntArg .i64 w pa xs := by
  obtain ⟨a, cap, e, hc⟩ := row_cells h
  refine ⟨a, cap, e, ?_⟩
  match xs, hc with
  | [], _ => exact .inl rfl
  | x :: l, hc =>
    obtain ⟨g, h1, h2, h3, -⟩ := hc 0 (by simp)
    refine .inr ⟨g, 0, h1, h3, fun j y hy => ?_⟩
    obtain ⟨g', h1', -, -, h4⟩ := hc j (List.getElem?_eq_some_iff.1 hy).1
    rw [h1] at h1'
    cases h1'
    rw [Nat.zero_add, h4, List.getElem?_map, hy]
    rfl
theorem ent_at : ∀ (xs : List (Int × Th)) (k : Nat) (x : Int × Th), xs[k]? = some x → ((xs.flatMap ent).drop (k * 17)).take 17 = ent x
  | [], k, x, h => by simp at h
  | y :: l, 0, x, h => by
    simp at h
    subst h
    simp only [List.flatMap_cons, Nat.zero_mul, List.drop_zero]
    rw [List.take_append_of_le_length (by rw [ent_len]; exact Nat.le_refl _), List.take_of_length_le (by rw [ent_len]; exact Nat.le_refl _)]
  | y :: l, k + 1, x, h => by
    have := ent_at l k x (by simpa using h)
    rw [List.flatMap_cons, show (k + 1) * 17 = (ent y).length + k * 17 by rw [ent_len]; omega, List.drop_append, List.drop_of_length_le (by omega), List.nil_append, Nat.add_sub_cancel_left]
    exact this
theorem entAt_of_row {w : World} {base n : Nat} {v : Value} {xs : List (Int × Th)} (hn : n = xs.length) (h : w.ownsRow base 118 17 v n (xs.flatMap ent)) : ∃ pa cap, v = .slice pa n cap ∧ EntAt w pa xs := by
  rcases h.2 with ⟨rfl, h0⟩ | ⟨g, cap, cur, rfl, hg, hb, h1, h2, h3, h4⟩
  · subst h0
    exact ⟨none, 0, rfl, fun k x hx => by have := (List.getElem?_eq_some_iff.1 hx).1; omega⟩
  · refine ⟨some ⟨g, 0, none⟩, cap, rfl, fun k x hx => ⟨g, rfl, fun w' hb' => rangeAt_blk (below_blk hb' hb) ?_⟩⟩
    have hk := (List.getElem?_eq_some_iff.1 hx).1
    rw [ent_len, ← ent_at xs k x hx, ← h4, List.drop_take, List.take_take]
    congr 1
    omega
/-- What Tell has told: the cuts cs, all else as in M. -/
def Told (M : WM) (cs : List Int) (v : Value) (w : World) : Prop :=
  ∃ pa ca pb cb pc cc pd cd, v = .agg #[.slice pa M.parents.length ca, .slice pb cs.length cb, .slice pc M.things.length cc, .int .i64 M.last, .slice pd M.made.length cd] ∧ IntArg .i64 w pa M.parents ∧ IntArg .i64 w pb cs ∧ EntAt w pc M.things ∧ IntArg .i64 w pd M.made
theorem EntAt.below {w w' : World} {pa : Option Addr} {xs : List (Int × Th)} (h : EntAt w pa xs) (hb : Below w.heap.size w w') : EntAt w' pa xs := fun k x hx => by
  obtain ⟨g, h1, h2⟩ := h k x hx
  exact ⟨g, h1, fun w'' hb' => h2 w'' (hb.trans (hb'.mono hb.size))⟩
theorem Told.below {M : WM} {cs : List Int} {v : Value} {w w' : World} (h : Told M cs v w) (hb : Below w.heap.size w w') : Told M cs v w' := by
  obtain ⟨pa, ca, pb, cb, pc, cc, pd, cd, rfl, h1, h2, h3, h4⟩ := h
  exact ⟨pa, ca, pb, cb, pc, cc, pd, cd, rfl, intArg_below h1 hb, intArg_below h2 hb, h3.below hb, intArg_below h4 hb⟩
/-- The answer, put where the call hands it back. -/
theorem TA.told {w0 wA W w : World} {b0 q n : Nat} {M : WM} {v0 v4 vC vT : Value} {cs : List Int} (hT : TS0 w0 W b0 q M v0 v4) (h : TA wA W b0 q M v0 v4 cs M.things w) (hb : Below w0.heap.size w0 w) (h1 : w.ownsRow b0 3 1 vC cs.length (cs.map (Value.int .i64))) (hn : n = M.things.length) (h2 : w.ownsRow b0 118 17 vT n (M.things.flatMap ent)) (xs : Array Value) :
    Told M cs (.agg #[v0, vC, vT, .int .i64 M.last, v4]) (w.setRow w0.heap.size xs) ∧ Below w0.heap.size w0 (w.setRow w0.heap.size xs) := by
  have hset : ∀ b, b ≠ w0.heap.size → (w.setRow w0.heap.size xs).heap[b]? = w.heap[b]? := fun b hb => by
    simp [World.setRow, Array.getElem?_modify, Ne.symm hb]
  have hsz : (w.setRow w0.heap.size xs).heap.size = w.heap.size := by simp [World.setRow]
  have hkeep : ∀ b, b < b0 → b ≠ q → b ≠ w0.heap.size → (w.setRow w0.heap.size xs).heap[b]? = W.heap[b]? := fun b hb hq h0 => (hset b h0).trans (h.k b hb hq)
  have hg : w.grownBy (w.setRow w0.heap.size xs) (some w0.heap.size) := ⟨rfl, rfl, rfl, by rw [hsz]; exact Nat.le_refl _, fun k _ hk => hset k (fun e => hk (by rw [e]))⟩
  have hlt : w0.heap.size < b0 := by have := hT.ql; omega
  obtain ⟨pa, pc, rfl, hs⟩ := hT.s
  obtain ⟨pd, cd, rfl, hm⟩ := hT.m
  obtain ⟨pb, cb, rfl, hc⟩ := intArg_of_row (h1.kept hg (row_ne_blk h1 hlt))
  obtain ⟨pt, ct, rfl, ht⟩ := entAt_of_row hn (h2.kept hg (row_ne_blk h2 hlt))
  subst hn
  exact ⟨⟨_, _, _, _, _, _, _, _, rfl, hs _ hkeep (by rw [hsz]; exact h.sz), hc, ht, hm _ hkeep (by rw [hsz]; exact h.sz)⟩, Below.setRow hb (Nat.le_refl _) _⟩
/-- The cuts among the first k edges. -/
def cutsTo (M : WM) (k : Nat) : List Int := ((List.range k).filter fun i => M.cuts.getD i false).map Int.ofNat
theorem cutsTo_succ (M : WM) (k : Nat) : cutsTo M (k + 1) = if M.cuts.getD k false then cutsTo M k ++ [(k : Int)] else cutsTo M k := by
  unfold cutsTo
  rw [List.range_succ, List.filter_append]
  cases h : M.cuts.getD k false <;> simp [List.getD_eq_getElem?_getD] at h ⊢ <;> simp [h]
theorem cutsTo_len (M : WM) (k : Nat) : (cutsTo M k).length ≤ k := by
  unfold cutsTo
  rw [List.length_map]
  exact Nat.le_trans (List.length_filter_le _ _) (by simp)

set_option maxHeartbeats 4000000 in
set_option maxRecDepth 100000 in
theorem Tell_W {w : World} {p : Nat} {M : WM} {F : Nat → Prop} (hW : IsW w p M F) (light : ∀ r t, M.at r = some t → Lite t) (hsm : M.things.length ≤ 1000000) :
    Calls Tryz.prog 53 #[.pointer (some ⟨p, 0, none⟩)] w fun e w' => ∃ v, e = .returned v ∧ Told M (cutsTo M M.cuts.length) v w' ∧ Below w.heap.size w w' := by
  have hWA := hW.below (w' := w.alloc (.cells #[.slice none 0 0, .slice none 0 0, .slice none 0 0, .int .i64 0, .slice none 0 0] 112)) ((Below.refl _ _).alloc (Nat.le_refl _) _)
  have HWA := (show Hid _ from hWA)
  have HL := (show Hid (∀ r t, M.at r = some t → Lite t) from light)
  obtain ⟨pa, pc, cg, cc, mg, mc, tb, fb, fn, bl, hV⟩ := hWA
  have HV := (show Hid _ from hV)
  have HA : Hid ((w.alloc (.cells #[.slice none 0 0, .slice none 0 0, .slice none 0 0, .int .i64 0, .slice none 0 0] 112)).heap[w.heap.size]? = some (.cells #[.slice none 0 0, .slice none 0 0, .slice none 0 0, .int .i64 0, .slice none 0 0] 112 (0, 0))) := blk_new w _
  have HBA : Hid (Below w.heap.size w (w.alloc (.cells #[.slice none 0 0, .slice none 0 0, .slice none 0 0, .int .i64 0, .slice none 0 0] 112))) := (Below.refl _ _).alloc (Nat.le_refl _) _
  have HSA : Hid ((w.alloc (.cells #[.slice none 0 0, .slice none 0 0, .slice none 0 0, .int .i64 0, .slice none 0 0] 112)).heap.size = w.heap.size + 1) := by show _ = _; simp
  clear hW light hV
  go_enter Tryz.func53, Tryz.ntmps53
  go_wp2_with fail
  refine (none_W HWA.out).mono ?_
  rintro e _ ⟨rfl, rfl⟩
  go_wp2_with fail
  revert HWA HV HA HBA HSA
  generalize w.alloc _ = wA
  intro HWA HV HA HBA HSA
  refine wp_region_growT (by kernel_rfl) _ rfl (by kernel_rfl) (by kernel_rfl) (fun a b => Below a.heap.size a b) (TPhi w p M pa pc mg mc) (fun _ => false) (fun w' => Below wA.heap.size wA w') (fun j v w w' => TPhi.stab j v w w') (fun _ _ h => h.size) below_drew (fun a b h hR => h.trans (hR.mono h.size)) ?_ ?_
  · intro i o a w1 ho hC hG
    have hi : i < 16 := (List.getElem?_eq_some_iff.1 ho).1
    have hV := HV.out.below hC
    have hCw : w.heap.size ≤ w1.heap.size := by have := HSA.out; have := hC.size; omega
    match i, hi with
    | 0, _ =>
      cases ho
      have h0 : a.tmps.getD 0 undef = .pointer (some ⟨p, 0, none⟩) := hG.fr 0 (by simp)
      exact step_v _ (.pointer (some ⟨p, 0, none⟩)) (by rw [← h0]; rfl) (Below.refl _ _) rfl (fun h => by cases h)
    | 1, _ =>
      cases ho
      have h1 : a.tmps.getD 11 undef = .pointer (some ⟨p, 0, none⟩) := hG.dep ⟨0, .data⟩ (by simp) rfl _ rfl
      exact step_v _ (.pointer (some ⟨p, 0, none⟩)) (by simp [execOp, go_sem, Act.eval, h1]) (Below.refl _ _) rfl (fun h => by cases h)
    | 2, _ =>
      cases ho
      have h1 : a.tmps.getD 12 undef = .pointer (some ⟨p, 0, none⟩) := hG.dep ⟨1, .data⟩ (by simp) rfl _ rfl
      exact step_v _ (.pointer (some ⟨p, 0, none⟩)) (by simp [execOp, go_sem, Act.eval, h1]) (Below.refl _ _) rfl (fun h => by cases h)
    | 3, _ =>
      cases ho
      have h1 : a.tmps.getD 13 undef = .pointer (some ⟨p, 0, none⟩) := hG.dep ⟨2, .data⟩ (by simp) rfl _ rfl
      have hc := hV.c0
      exact step_v _ (.slice pa M.parents.length pc) (by simp [execOp, go_sem, Act.eval, h1, hc]) (Below.refl _ _) rfl (fun h => by cases h)
    | 4, _ =>
      cases ho
      have h1 : a.tmps.getD 14 undef = .slice pa M.parents.length pc := hG.dep ⟨3, .data⟩ (by simp) rfl _ rfl
      unfold Oper.wp
      simp [go_sem, callFunc, Act.eval, Tryz.func32, h1]
      refine (cloneSide_W HV.out w w1 hCw hC).mono ?_
      rintro e w2 ⟨v, rfl, hv, hb⟩
      exact ⟨v, rfl, hb, hv⟩
    | 5, _ =>
      cases ho
      have h0 : a.tmps.getD 0 undef = .pointer (some ⟨p, 0, none⟩) := hG.fr 0 (by simp)
      exact step_v _ (.pointer (some ⟨p, 0, none⟩)) (by rw [← h0]; rfl) (Below.refl _ _) rfl (fun h => by cases h)
    | 6, _ =>
      cases ho
      have h1 : a.tmps.getD 16 undef = .pointer (some ⟨p, 0, none⟩) := hG.dep ⟨5, .data⟩ (by simp) rfl _ rfl
      exact step_v _ (.pointer (some ⟨p, 0, none⟩)) (by simp [execOp, go_sem, Act.eval, h1]) (Below.refl _ _) rfl (fun h => by cases h)
    | 7, _ =>
      cases ho
      have h1 : a.tmps.getD 17 undef = .pointer (some ⟨p, 0, none⟩) := hG.dep ⟨6, .data⟩ (by simp) rfl _ rfl
      exact step_v _ (.pointer (some ⟨p, 4, none⟩)) (by simp [execOp, go_sem, Act.eval, h1]) (Below.refl _ _) rfl (fun h => by cases h)
    | 8, _ =>
      cases ho
      have h1 : a.tmps.getD 18 undef = .pointer (some ⟨p, 4, none⟩) := hG.dep ⟨7, .data⟩ (by simp) rfl _ rfl
      have hc := hV.c4
      exact step_v _ (.int .i64 M.last) (by simp [execOp, go_sem, Act.eval, h1, hc]) (Below.refl _ _) rfl (fun h => by cases h)
    | 9, _ =>
      cases ho
      have h0 : a.tmps.getD 0 undef = .pointer (some ⟨p, 0, none⟩) := hG.fr 0 (by simp)
      exact step_v _ (.pointer (some ⟨p, 0, none⟩)) (by rw [← h0]; rfl) (Below.refl _ _) rfl (fun h => by cases h)
    | 10, _ =>
      cases ho
      have h1 : a.tmps.getD 20 undef = .pointer (some ⟨p, 0, none⟩) := hG.dep ⟨9, .data⟩ (by simp) rfl _ rfl
      exact step_v _ (.pointer (some ⟨p, 0, none⟩)) (by simp [execOp, go_sem, Act.eval, h1]) (Below.refl _ _) rfl (fun h => by cases h)
    | 11, _ =>
      cases ho
      have h1 : a.tmps.getD 21 undef = .pointer (some ⟨p, 0, none⟩) := hG.dep ⟨10, .data⟩ (by simp) rfl _ rfl
      exact step_v _ (.pointer (some ⟨p, 5, none⟩)) (by simp [execOp, go_sem, Act.eval, h1]) (Below.refl _ _) rfl (fun h => by cases h)
    | 12, _ =>
      cases ho
      have h1 : a.tmps.getD 22 undef = .pointer (some ⟨p, 5, none⟩) := hG.dep ⟨11, .data⟩ (by simp) rfl _ rfl
      have hc := hV.c5
      exact step_v _ (.slice (some ⟨mg, 0, none⟩) M.made.length mc) (by simp [execOp, go_sem, Act.eval, h1, hc]) (Below.refl _ _) rfl (fun h => by cases h)
    | 13, _ =>
      cases ho
      have h1 : a.tmps.getD 23 undef = .slice (some ⟨mg, 0, none⟩) M.made.length mc := hG.dep ⟨12, .data⟩ (by simp) rfl _ rfl
      unfold Oper.wp
      simp [go_sem, callFunc, Act.eval, Tryz.func40, h1]
      refine (cloneInt_W w1 mg mc _ (M.made.map (Value.int .i64)) (by simp) (fun j v h => hV.mad.cell h) (fun v h => by obtain ⟨x, -, rfl⟩ := List.mem_map.1 h; rfl) (by have := hV.ok.made; have := hV.ok.sides; simp; omega)).mono ?_
      rintro e w2 ⟨v, rfl, hv, hb⟩
      exact ⟨v, rfl, hb, CRow.of hCw (by have := hV.ok.made; simp; omega) (by simpa using hv)⟩
    | 14, _ =>
      cases ho
      have h15 : NSides w M.parents (a.tmps.getD 15 undef) w1 := hG.dep ⟨4, .data⟩ (by simp) rfl _ rfl
      have h24 : CRow w 3 (M.made.map (Value.int .i64)) (a.tmps.getD 24 undef) w1 := hG.dep ⟨13, .data⟩ (by simp) rfl _ rfl
      have h19 : a.tmps.getD 19 undef = .int .i64 M.last := hG.dep ⟨8, .data⟩ (by simp) rfl _ rfl
      obtain ⟨pa', pc', e15, -⟩ := id h15
      obtain ⟨g24, cap24, e24, -⟩ := id h24
      refine step_v _ (.agg #[a.tmps.getD 15 undef, .slice none 0 0, .slice none 0 0, .int .i64 M.last, a.tmps.getD 24 undef]) ?_ (Below.refl _ _) ⟨_, _, rfl, h15, h24⟩ (fun h => by cases h)
      simp only [execOp, List.map_toArray, List.map_cons, List.map_nil, Act.eval, e15, e24, h19]
      simp [go_sem]
    | 15, _ =>
      cases ho
      exact step_v _ (.pointer (some ⟨w1.heap.size, 0, none⟩)) (w' := w1.alloc (.cells #[.slice none 0 0, .slice none 0 0, .slice none 0 0, .int .i64 0, .slice none 0 0] 112)) (by simp [execOp, go_sem]) ((Below.refl _ _).alloc (Nat.le_refl _) _) ⟨w1.heap.size, rfl, by have := HSA.out; have := hC.size; omega, blk_new _ _⟩ (fun h => by cases h)
  · intro a w1 hC hdf hsz hfr hphi hne
    obtain ⟨q, h3, hq, hqb⟩ := hphi 15 _ rfl
    obtain ⟨v0, v4, h25, c0, c4⟩ := hphi 14 _ rfl
    have h0 : a.tmps.getD 0 undef = .pointer (some ⟨p, 0, none⟩) := hfr 0 (by simp)
    have h2 : a.tmps.getD 2 undef = .pointer (some ⟨w.heap.size, 0, none⟩) := hfr 2 (by simp)
    have h3 : a.tmps.getD 3 undef = .pointer (some ⟨q, 0, none⟩) := h3
    have h25 : a.tmps.getD 25 undef = .agg #[v0, .slice none 0 0, .slice none 0 0, .int .i64 M.last, v4] := h25
    have HT := (show Hid _ from TS0.of hq (HBA.out.trans (hC.mono HBA.out.size)) (below_blk hC HA.out) hqb c0 c4 #[v0, .slice none 0 0, .slice none 0 0, .int .i64 M.last, v4])
    have HQ : Hid ((w1.setRow q #[v0, .slice none 0 0, .slice none 0 0, .int .i64 M.last, v4]).heap[q]? = some (.cells #[v0, .slice none 0 0, .slice none 0 0, .int .i64 M.last, v4] 112 (0, 0))) := heap_setRow_at hqb
    have hone : (#[v0, .slice none 0 0, .slice none 0 0, .int .i64 M.last, v4] : Array Value).all (·.oneCell') = true := by
      obtain ⟨_, _, rfl, -⟩ := c0
      obtain ⟨_, _, rfl, -⟩ := c4
      simp [go_sem]
    have hst := storeA_blk hqb rfl rfl hone
    have hst' : (stA (a.tmps.getD 3 undef) (a.tmps.getD 25 undef)).run Tryz.prog w1 = .ok .skip (w1.setRow q #[v0, .slice none 0 0, .slice none 0 0, .int .i64 M.last, v4]) := by
      rw [h3, h25]
      exact hst
    refine step_st hst' rfl ?_
    clear hst'
    clear hphi hne hst hone hqb c0 c4 h25
    refine ‹∀ (a : Act) (w : World), Code.wp Tryz.prog _ _ a w → _› a _ ?_
    obtain ⟨⟨l⟩, ds⟩ := a
    have hdf : ds = [] := hdf
    subst hdf
    have hsz : l.length = 68 + 1 := hsz
    clear hfr
    obtain ⟨t0, l0, rfl, g0⟩ := len_cons hsz
    obtain ⟨t1, l1, rfl, g1⟩ := len_cons g0
    obtain ⟨t2, l2, rfl, g2⟩ := len_cons g1
    obtain ⟨t3, l3, rfl, g3⟩ := len_cons g2
    obtain ⟨t4, l4, rfl, g4⟩ := len_cons g3
    obtain ⟨t5, l5, rfl, g5⟩ := len_cons g4
    obtain ⟨t6, l6, rfl, g6⟩ := len_cons g5
    obtain ⟨t7, l7, rfl, g7⟩ := len_cons g6
    obtain ⟨t8, l8, rfl, g8⟩ := len_cons g7
    obtain ⟨t9, l9, rfl, g9⟩ := len_cons g8
    obtain ⟨t10, l10, rfl, g10⟩ := len_cons g9
    obtain ⟨t11, l11, rfl, g11⟩ := len_cons g10
    obtain ⟨t12, l12, rfl, g12⟩ := len_cons g11
    obtain ⟨t13, l13, rfl, g13⟩ := len_cons g12
    obtain ⟨t14, l14, rfl, g14⟩ := len_cons g13
    obtain ⟨t15, l15, rfl, g15⟩ := len_cons g14
    obtain ⟨t16, l16, rfl, g16⟩ := len_cons g15
    obtain ⟨t17, l17, rfl, g17⟩ := len_cons g16
    obtain ⟨t18, l18, rfl, g18⟩ := len_cons g17
    obtain ⟨t19, l19, rfl, g19⟩ := len_cons g18
    obtain ⟨t20, l20, rfl, g20⟩ := len_cons g19
    obtain ⟨t21, l21, rfl, g21⟩ := len_cons g20
    obtain ⟨t22, l22, rfl, g22⟩ := len_cons g21
    obtain ⟨t23, l23, rfl, g23⟩ := len_cons g22
    obtain ⟨t24, l24, rfl, g24⟩ := len_cons g23
    obtain ⟨t25, l25, rfl, g25⟩ := len_cons g24
    obtain ⟨t26, l26, rfl, g26⟩ := len_cons g25
    obtain ⟨t27, l27, rfl, g27⟩ := len_cons g26
    obtain ⟨t28, l28, rfl, g28⟩ := len_cons g27
    obtain ⟨t29, l29, rfl, g29⟩ := len_cons g28
    obtain ⟨t30, l30, rfl, g30⟩ := len_cons g29
    obtain ⟨t31, l31, rfl, g31⟩ := len_cons g30
    obtain ⟨t32, l32, rfl, g32⟩ := len_cons g31
    obtain ⟨t33, l33, rfl, g33⟩ := len_cons g32
    obtain ⟨t34, l34, rfl, g34⟩ := len_cons g33
    obtain ⟨t35, l35, rfl, g35⟩ := len_cons g34
    obtain ⟨t36, l36, rfl, g36⟩ := len_cons g35
    obtain ⟨t37, l37, rfl, g37⟩ := len_cons g36
    obtain ⟨t38, l38, rfl, g38⟩ := len_cons g37
    obtain ⟨t39, l39, rfl, g39⟩ := len_cons g38
    obtain ⟨t40, l40, rfl, g40⟩ := len_cons g39
    obtain ⟨t41, l41, rfl, g41⟩ := len_cons g40
    obtain ⟨t42, l42, rfl, g42⟩ := len_cons g41
    obtain ⟨t43, l43, rfl, g43⟩ := len_cons g42
    obtain ⟨t44, l44, rfl, g44⟩ := len_cons g43
    obtain ⟨t45, l45, rfl, g45⟩ := len_cons g44
    obtain ⟨t46, l46, rfl, g46⟩ := len_cons g45
    obtain ⟨t47, l47, rfl, g47⟩ := len_cons g46
    obtain ⟨t48, l48, rfl, g48⟩ := len_cons g47
    obtain ⟨t49, l49, rfl, g49⟩ := len_cons g48
    obtain ⟨t50, l50, rfl, g50⟩ := len_cons g49
    obtain ⟨t51, l51, rfl, g51⟩ := len_cons g50
    obtain ⟨t52, l52, rfl, g52⟩ := len_cons g51
    obtain ⟨t53, l53, rfl, g53⟩ := len_cons g52
    obtain ⟨t54, l54, rfl, g54⟩ := len_cons g53
    obtain ⟨t55, l55, rfl, g55⟩ := len_cons g54
    obtain ⟨t56, l56, rfl, g56⟩ := len_cons g55
    obtain ⟨t57, l57, rfl, g57⟩ := len_cons g56
    obtain ⟨t58, l58, rfl, g58⟩ := len_cons g57
    obtain ⟨t59, l59, rfl, g59⟩ := len_cons g58
    obtain ⟨t60, l60, rfl, g60⟩ := len_cons g59
    obtain ⟨t61, l61, rfl, g61⟩ := len_cons g60
    obtain ⟨t62, l62, rfl, g62⟩ := len_cons g61
    obtain ⟨t63, l63, rfl, g63⟩ := len_cons g62
    obtain ⟨t64, l64, rfl, g64⟩ := len_cons g63
    obtain ⟨t65, l65, rfl, g65⟩ := len_cons g64
    obtain ⟨t66, l66, rfl, g66⟩ := len_cons g65
    obtain ⟨t67, l67, rfl, g67⟩ := len_cons g66
    obtain ⟨t68, l68, rfl, g68⟩ := len_cons g67
    obtain rfl : l68 = [] := List.length_eq_zero_iff.1 g68
    have h0 : t0 = .pointer (some ⟨p, 0, none⟩) := h0
    have h2 : t2 = .pointer (some ⟨w.heap.size, 0, none⟩) := h2
    have h3 : t3 = .pointer (some ⟨q, 0, none⟩) := h3
    subst h0 h2 h3
    clear hdf hsz g0 g1 g2 g3 g4 g5 g6 g7 g8 g9 g10 g11 g12 g13 g14 g15 g16 g17 g18 g19 g20 g21 g22 g23 g24 g25 g26 g27 g28 g29 g30 g31 g32 g33 g34 g35 g36 g37 g38 g39 g40 g41 g42 g43 g44 g45 g46 g47 g48 g49 g50 g51 g52 g53 g54 g55 g56 g57 g58 g59 g60 g61 g62 g63 g64 g65 g66 g67 g68 h0 h2 h3
    change Code.wp _ _ _ ({ tmps := #[.pointer (some ⟨p, 0, none⟩), t1, .pointer (some ⟨w.heap.size, 0, none⟩), .pointer (some ⟨q, 0, none⟩), t4, t5, t6, t7, t8, t9, t10, t11, t12, t13, t14, t15, t16, t17, t18, t19, t20, t21, t22, t23, t24, t25, t26, t27, t28, t29, t30, t31, t32, t33, t34, t35, t36, t37, t38, t39, t40, t41, t42, t43, t44, t45, t46, t47, t48, t49, t50, t51, t52, t53, t54, t55, t56, t57, t58, t59, t60, t61, t62, t63, t64, t65, t66, t67, t68], defers := [] } : Act) _
    have hBW : Below wA.heap.size wA (w1.setRow q #[v0, .slice none 0 0, .slice none 0 0, .int .i64 M.last, v4]) := Below.setRow hC (by have := HSA.out; omega) _
    have HTA : Hid (TA wA (w1.setRow q #[v0, .slice none 0 0, .slice none 0 0, .int .i64 M.last, v4]) w1.heap.size q M v0 v4 [] [] (w1.setRow q #[v0, .slice none 0 0, .slice none 0 0, .int .i64 M.last, v4])) :=
      ⟨hBW, fun _ _ _ => rfl, HT.out.hb0, _, _, HQ.out, World.ownsRow_nil _ _ _ _, World.ownsRow_nil _ _ _ _⟩
    have c1 := (HV.out.below hBW).c1
    have HAq : Hid (wA.heap.size ≤ q ∧ q < w1.heap.size) := ⟨by have := HSA.out; omega, HT.out.ql.2⟩
    clear hBW hC hq HQ
    revert HTA HT c1 HAq
    generalize w1.setRow _ _ = W
    generalize w1.heap.size = b0
    intro HT HTA c1 HAq
    obtain ⟨nc, hnc⟩ : ∃ nc, nc = M.cuts.length := ⟨_, rfl⟩
    have Hnc := (show Hid (nc = M.cuts.length ∧ nc ≤ 16) from ⟨hnc, by have := HV.out.ok.cuts; have := HV.out.ok.sides; omega⟩)
    have hnc16 : nc ≤ 16 := Hnc.out.2
    rw [← hnc] at c1
    clear hnc
    go_wp2_with fail
    clear c1
    go_loopw [31] (fun vi wr => ∃ k : Nat, vi = .int .i64 k ∧ k ≤ nc ∧ Hid (TA wA W b0 q M v0 v4 (cutsTo M k) [] wr)) (fun vi _ => nc - (intOf vi).toNat)
    case atStart => exact ⟨0, rfl, by omega, HTA⟩
    case round =>
      clear HTA
      obtain ⟨k, rfl, hk, HTA⟩ := hrel
      by_cases hkn : k < nc
      · have hkz : (k : Int) < (nc : Int) := by omega
        obtain ⟨x, hx⟩ : ∃ x, M.cuts[k]? = some x := ⟨_, List.getElem?_eq_getElem (by have := Hnc.out.1; omega)⟩
        have hcx : wr.cell? ⟨cg, k, none⟩ = some (.bool x) := (HV.out.below HTA.out.b).cut.cell (by rw [List.getElem?_map, hx]; rfl)
        have Hsucc := (show Hid _ from cutsTo_succ M k)
        have hgd : M.cuts.getD k false = x := by rw [List.getD_eq_getElem?_getD, hx]; rfl
        rw [hgd] at Hsucc
        obtain ⟨vC, vT, r1, r2, r3⟩ := HTA.out.r
        have cC : wr.cell? ⟨q, 1, none⟩ = some vC := by rw [cell_blk r1]; rfl
        have HR := (show Hid _ from And.intro r1 (And.intro r2 r3))
        have Hlen := (show Hid (((cutsTo M k).length : Int) ≤ 1099511627777) from (by have := cutsTo_len M k; show _ ≤ _; omega))
        clear hx hgd r1 r2 r3
        cases x with
        | false =>
          have HTA2 : Hid (TA wA W b0 q M v0 v4 (cutsTo M (k + 1)) [] wr) := by
            show TA _ _ _ _ _ _ _ _ _ _
            rw [Hsucc.out]
            exact HTA.out
          clear HTA HR
          go_wp2_with fail
          go_roundw
          case rel => exact ⟨k + 1, by go_num, by omega, HTA2⟩
          case measure =>
            simp [intOf]
            omega
        | true =>
          have Hq1 := HAq.out
          go_wp2_with (at_builtin; refine append_one rfl _ _ 62 rfl b0 3 (.int .i64 0) 8 Tryz.underlying62 infoInt rfl vC _ _ rfl HR.out.2.1 (.int .i64 (k : Int)) rfl rfl Hlen.out (by decide) HTA.out.sz ?_; intro v' w' r1 r2 r3
                       have HTA2 : Hid (TA wA W b0 q M v0 v4 (cutsTo M (k + 1)) [] (w'.setCell ⟨q, 1, none⟩ v')) := by
                         show TA _ _ _ _ _ _ _ _ _ _
                         rw [Hsucc.out]
                         exact TA.cut HTA.out HAq.out.1 HAq.out.2 HR.out.1 HR.out.2.1 HR.out.2.2 r1 r2 r3
                       have hq' := (r3.block q HAq.out.2).trans HR.out.1
                       have fz := frozen_blk hq' 1
                       have cz : w'.cell? ⟨q, 1, none⟩ = some vC := by rw [cell_blk hq']; rfl
                       obtain ⟨sa, sn, sc, rfl⟩ : ∃ sa sn sc, v' = .slice sa sn sc := by rcases r1.2 with ⟨e, -⟩ | ⟨g, cap, cur, e, -⟩ <;> exact ⟨_, _, _, e⟩
                       clear r1 r2 r3 hq')
          clear HTA HR
          go_roundw
          case rel => exact ⟨k + 1, by go_num, by omega, HTA2⟩
          case measure =>
            simp [intOf]
            omega
      · have hkz : ¬ (k : Int) < (nc : Int) := by omega
        obtain rfl : k = nc := by omega
        have HWr := (show Hid (IsW wr p M F) from ⟨_, _, _, _, _, _, _, _, _, _, HV.out.below HTA.out.b⟩)
        obtain ⟨cs, hcs⟩ : ∃ cs, cs = cutsTo M k := ⟨_, rfl⟩
        have Hcs := (show Hid (cs = cutsTo M k) from hcs)
        rw [← hcs] at HTA
        clear hcs
        go_wp2_with fail
        refine (refs_W HWr.out).mono ?_
        rintro e w5 ⟨g, capg, rfl, hR, hb5⟩
        have HR5 := (show Hid (w5.ownsRow wr.heap.size 35 1 (.slice (some ⟨g, 0, none⟩) M.things.length capg) M.things.length ((M.things.map (·.1)).map (Value.int .i64))) from hR)
        have HT5 : Hid (TA wA W b0 q M v0 v4 cs (M.things.take 0) w5) := HTA.out.below hb5
        have Hbase := (show Hid (b0 ≤ wr.heap.size) from HTA.out.sz)
        obtain ⟨iE, hiE, hzE, h2E, h3E⟩ := info_parts infoEntry
        have HiE := (show Hid _ from And.intro hiE (And.intro hzE (And.intro h2E h3E)))
        obtain ⟨n, hn⟩ : ∃ n, n = M.things.length := ⟨_, rfl⟩
        have Hn := (show Hid (n = M.things.length) from hn)
        rw [← hn] at hsm HR5 ⊢
        clear hR hb5 HTA HWr hn hiE hzE h2E h3E
        revert HR5 Hbase
        generalize wr.heap.size = base
        intro Hbase HR5
        go_wp2_with fail
        go_loopw [47] (fun vi wx => ∃ k : Nat, vi = .int .i64 k ∧ k ≤ n ∧ Hid (TA wA W b0 q M v0 v4 cs (M.things.take k) wx) ∧ Hid (wx.ownsRow base 35 1 (.slice (some ⟨g, 0, none⟩) n capg) n ((M.things.map (·.1)).map (Value.int .i64)))) (fun vi _ => n - (intOf vi).toNat)
        case atStart => exact ⟨0, rfl, by omega, HT5, HR5⟩
        case round =>
          clear HT5 HR5
          obtain ⟨i, rfl, hi, HT5, HR5⟩ := hrel
          by_cases hin : i < n
          · have hiz : (i : Int) < (n : Int) := by omega
            obtain ⟨⟨r, t⟩, hx⟩ : ∃ x, M.things[i]? = some x := ⟨_, List.getElem?_eq_getElem (by have := Hn.out; omega)⟩
            have hat : M.at r = some t := HV.out.ok.at_of_mem (List.mem_of_getElem? hx)
            obtain ⟨kd, hm, vk, vn, nn, lo, tg, bi, s, fu, rfl, hp⟩ := HL.out r t hat
            have Hp := (show Hid _ from hp)
            have hrw := HV.out.ok.at_wf hat
            have hcx : wr.cell? ⟨g, i, none⟩ = some (.int .i64 r) := by
              have := HR5.out.cellAt i (by omega)
              rw [this]
              simp [hx]
            have HVd := HV.out.below (HT5.out.b.trans (below_drew.mono HT5.out.b.size))
            have c2 := HVd.c2
            have hlk := HVd.look hrw
            rw [hat] at hlk
            simp only [Option.map_some] at hlk
            have hld := loadWhat_blk (HVd.blk r _ hat).1 rfl
            rw [thc_lt] at hld
            have Htk : Hid (M.things.take (i + 1) = M.things.take i ++ [(r, lt kd hm vk vn nn lo tg bi s fu)]) := by show _ = _; rw [List.take_add_one, hx]; rfl
            obtain ⟨vC, vT, r1, r2, r3⟩ := HT5.out.r
            have HR := (show Hid _ from And.intro r1 (And.intro r2 r3))
            have cT : wr.cell? ⟨q, 2, none⟩ = some vT := by rw [cell_blk r1]; rfl
            have Hlen : Hid ((M.things.take i).length = i) := by show _ = _; rw [List.length_take]; have := Hn.out; omega
            clear hx hat hp hrw HVd r1 r2 r3
            go_wp2_with fail
            go_region_law (first
                | (go_simp
                   go_at_call 41
                   refine (ownWhat_W _ kd hm vk vn nn lo tg bi s fu Hp.out).mono ?_
                   rintro e w5 ⟨rfl, hb5⟩
                   have HT6 : Hid (TA wA W b0 q M v0 v4 cs (M.things.take i) w5) := (HT5.out.below below_drew).below hb5
                   have HX5 : Hid (w5.heap[q]? = some (.cells #[v0, vC, vT, .int .i64 M.last, v4] 112 (0, 0)) ∧ w5.ownsRow b0 3 1 vC cs.length (cs.map (Value.int .i64)) ∧ w5.ownsRow base 35 1 (.slice (some ⟨g, 0, none⟩) n capg) n ((M.things.map (·.1)).map (Value.int .i64)) ∧ w5.ownsRow b0 118 17 vT i ((M.things.take i).flatMap ent)) := by
                     have hbb : Below wr.heap.size wr w5 := below_drew.trans hb5
                     have h3 := row_below HR.out.2.2 hbb
                     rw [Hlen.out] at h3
                     exact ⟨below_blk hbb HR.out.1, row_below HR.out.2.1 hbb, row_below HR5.out hbb, h3⟩
                   have cT5 : w5.cell? ⟨q, 2, none⟩ = some vT := by rw [cell_blk HX5.out.1]; rfl
                   have cT6 : (w5.alloc (.cells #[.int .i64 r, .int .u8 kd, .int .i64 hm, .int .u8 vk, .int .i64 vn, .string ⟨#[]⟩, .slice none 0 0, .int .i64 0, .slice none 0 0, .int .i64 nn, .int .i64 lo, .int .i64 tg, .int .i64 bi, .int .u8 s, .bool fu, .slice none 0 0, .slice none 0 0] 118)).cell? ⟨q, 2, none⟩ = some vT := cell_al cT5 _)
                | (apply step_entry (w5 := w5) (b0 := b0) (n := i) (v := vT) (xs := (M.things.take i).flatMap ent) (y := (r, lt kd hm vk vn nn lo tg bi s fu))
                   · exact rfl
                   · exact rfl
                   · exact rfl
                   · exact rfl
                   · exact rfl
                   · exact HX5.out.2.2.2
                   · simp [ent, thc, go_sem]
                   · omega
                   · exact HT6.out.sz
                   intro g6 cap6 w6 r1 r2
                   obtain ⟨hA6, hR6, cz6, fz6⟩ := TA.app Hlen.out HT6.out HAq.out.1 HAq.out.2 HX5.out.1 HX5.out.2.1 HX5.out.2.2.2 HX5.out.2.2.1 Hbase.out r1 r2
                   have HA6 := (show Hid _ from hA6)
                   have HR6 := (show Hid _ from hR6)
                   clear hA6 hR6 r1 r2))
            all_goals
              have HT7 : Hid (TA wA W b0 q M v0 v4 cs (M.things.take (i + 1)) (w6.setCell ⟨q, 2, none⟩ (.slice (some ⟨g6, 0, none⟩) (i + 1) cap6))) := by
                show TA _ _ _ _ _ _ _ _ _ _
                rw [Htk.out]
                exact HA6.out
              clear HA6 HX5 HT6 HR cz6 fz6 cT5 cT6
              go_wp2_with fail
              go_roundw
              case rel => exact ⟨i + 1, by go_num, by omega, HT7, HR6⟩
              case measure =>
                simp [intOf]
                omega
          · have hiz : ¬ (i : Int) < (n : Int) := by omega
            obtain rfl : i = n := by omega
            have hT := HT5.out
            rw [List.take_of_length_le (by have := Hn.out; omega)] at hT
            obtain ⟨vC, vT, r1, r2, r3⟩ := hT.r
            have hb := HBA.out.trans (hT.b.mono HBA.out.size)
            have hTd := TA.told HT.out hT hb r2 Hn.out (by rw [Hn.out]; exact r3) #[v0, vC, vT, .int .i64 M.last, v4]
            have HTd := (show Hid _ from hTd)
            have hr0 : wr.heap[w.heap.size]? = some (.cells #[.slice none 0 0, .slice none 0 0, .slice none 0 0, .int .i64 0, .slice none 0 0] 112 (0, 0)) := (hT.k _ (by have := HT.out.ql; omega) (by have := HT.out.ql; omega)).trans HT.out.r0
            have hone : (#[v0, vC, vT, .int .i64 M.last, v4] : Array Value).all (·.oneCell') = true := by
              obtain ⟨_, _, rfl, -⟩ := HT.out.s
              obtain ⟨_, _, rfl, -⟩ := HT.out.m
              obtain ⟨_, _, rfl, -⟩ := intArg_of_row r2
              obtain ⟨_, _, rfl, -⟩ := entAt_of_row rfl r3
              simp [go_sem]
            have hld := loadA_blk r1 rfl
            have hst := storeA_blk hr0 rfl rfl hone
            have HG := (show Hid _ from heap_setRow_at (c' := #[v0, vC, vT, .int .i64 M.last, v4]) hr0)
            have HCs := Hcs.out
            clear hT r1 r2 r3 hb hTd hr0 hone HT5 HR5
            go_wp2_with fail
            refine bodyPost_ret (results_cell_row (P := Tryz.prog) rfl _ _ _ 112 _ _ _ rfl HG.out Tryz.underlying112 rfl sizeAW) rfl ⟨_, rfl, ?_, HTd.out.2⟩
            have := HTd.out.1
            rw [HCs, Hnc.out.1] at this
            exact this
end Go.Proofs.YtmefjkggibbhoaaGreat
