/- A part of the proof, several texts in one: Base, Any, Grow. -/
import Derived.WalkKit
import Derived.WalkLawsBesides
import Derived.WalkSpells
import Derived.Handy
import Derived.Outline
import Derived.Maps.RangeWalk
import Derived.Maps.OwnOps
import Derived.DeepKeys4
import Derived.Orders
import Derived.StillTail
/- Ground for the walks: what a world keeps, maps read as functions of their keys. No program in sight. -/
namespace Go.Proofs.YtmefjkggibbhoaaGreat
open Go.RowKit Go.ChangeMaps Go.MapKept
open Go.WideElems (Fit rd rg pl rd_val elemAt)
open Go.Maps (Keyed)

/-- Outside S nothing that was there has turned. -/
structure Keeps (S : Nat → Prop) (w w' : World) : Prop where
  os : w'.os = w.os
  tape : w'.tape = w.tape
  output : w'.output = w.output
  size : w.heap.size ≤ w'.heap.size
  block : ∀ b, b < w.heap.size → ¬ S b → w'.heap[b]? = w.heap[b]?

theorem Keeps.refl (S : Nat → Prop) (w : World) : Keeps S w w := ⟨rfl, rfl, rfl, Nat.le_refl _, fun _ _ _ => rfl⟩
theorem Keeps.trans {S S' T : Nat → Prop} {a b c : World} (h : Keeps S a b) (k : Keeps S' b c) (h1 : ∀ x, x < a.heap.size → S x → T x) (h2 : ∀ x, x < a.heap.size → S' x → T x) : Keeps T a c :=
  ⟨k.os.trans h.os, k.tape.trans h.tape, k.output.trans h.output, Nat.le_trans h.size k.size, fun x hx hT =>
    (k.block x (Nat.lt_of_lt_of_le hx h.size) (fun e => hT (h2 x hx e))).trans (h.block x hx (fun e => hT (h1 x hx e)))⟩
theorem Keeps.mono {S T : Nat → Prop} {a b : World} (h : Keeps S a b) (h1 : ∀ x, x < a.heap.size → S x → T x) : Keeps T a b := h.trans (Keeps.refl S b) h1 h1
theorem Keeps.of_below {S : Nat → Prop} {a b : World} (h : Below a.heap.size a b) : Keeps S a b := ⟨h.os, h.tape, h.output, h.size, fun x hx _ => h.block x hx⟩
theorem Keeps.below {S : Nat → Prop} {a b : World} {B : Nat} (h : Keeps S a b) (hB : B ≤ a.heap.size) (hS : ∀ x, S x → B ≤ x) : Below B a b :=
  ⟨h.os, h.tape, h.output, h.size, fun x hx => h.block x (by omega) (fun e => by have := hS x e; omega)⟩
theorem Keeps.of_grown {S : Nat → Prop} {a b : World} {row : Option Nat} (h : a.grownBy b row) (hS : ∀ x, row = some x → S x) : Keeps S a b :=
  ⟨h.os, h.tape, h.output, h.size, fun x hx hn => h.block x hx (fun e => hn (hS x e.symm))⟩
theorem Keeps.setCell {S : Nat → Prop} (w : World) (a : Addr) (v : Value) (h : S a.block) : Keeps S w (w.setCell a v) :=
  ⟨rfl, rfl, rfl, by simp [World.setCell], fun x _ hn => Below.heap_setCell _ _ _ _ (fun e => hn (e ▸ h))⟩
theorem Keeps.drew {S : Nat → Prop} {a b : World} (h : Keeps S a b) : Keeps S a b.drew := ⟨h.os, h.tape, h.output, h.size, h.block⟩
theorem Below.keeps {S : Nat → Prop} {a b c : World} (h : Below a.heap.size a b) (k : Keeps S b c) : Keeps S a c := (Keeps.of_below (S := S) h).trans k (fun _ _ h => h) (fun _ _ h => h)
theorem Keeps.then_below {S : Nat → Prop} {a b c : World} (h : Keeps S a b) (k : Below b.heap.size b c) : Keeps S a c := h.trans (Keeps.of_below (S := S) k) (fun _ _ h => h) (fun _ _ h => h)
theorem below_trans {a b c : World} (h : Below a.heap.size a b) (k : Below b.heap.size b c) : Below a.heap.size a c := h.trans (k.mono h.size)

theorem cell_blk {w : World} {b : Nat} {cs : Array Value} {e : TypeId} {fr : Nat × Nat} (h : w.heap[b]? = some (.cells cs e fr)) (i : Nat) : w.cell? ⟨b, i, none⟩ = cs[i]? := by
  simp [World.cell?, h]
theorem frozen_blk {w : World} {b : Nat} {cs : Array Value} {e : TypeId} (h : w.heap[b]? = some (.cells cs e (0, 0))) (i : Nat) : w.frozen? ⟨b, i, none⟩ = false := by
  simp [World.frozen?, h]
theorem blk_lt {w : World} {b : Nat} {o : Obj} (h : w.heap[b]? = some o) : b < w.heap.size := (Array.getElem?_eq_some_iff.1 h).1
theorem blk_setCell {w : World} {b : Nat} {cs : Array Value} {e : TypeId} {fr : Nat × Nat} (h : w.heap[b]? = some (.cells cs e fr)) (i : Nat) (v : Value) : (w.setCell ⟨b, i, none⟩ v).heap[b]? = some (.cells (cs.setIfInBounds i v) e fr) := by
  simp [World.setCell, Array.getElem?_modify, h]
theorem blk_new (w : World) (o : Obj) : (w.alloc o).heap[w.heap.size]? = some o := heap_alloc_new w o
theorem blk_old (w : World) (o : Obj) {b : Nat} {x : Obj} (h : w.heap[b]? = some x) : (w.alloc o).heap[b]? = some x := (Below.heap_alloc w o b (blk_lt h)).trans h
theorem blk_other {w : World} {b : Nat} {x : Obj} (h : w.heap[b]? = some x) (a : Addr) (v : Value) (hne : b ≠ a.block) : (w.setCell a v).heap[b]? = some x := (Below.heap_setCell w a v b hne).trans h

theorem cell_al {w : World} {a : Addr} {v : Value} (h : w.cell? a = some v) (o : Obj) : (w.alloc o).cell? a = some v :=
  (World.cell?_of_block (Below.heap_alloc w o a.block (World.block_lt_of_cell? w a h))).trans h

theorem cells5 {w : World} {b : Nat} {e : TypeId} {v0 v1 v2 v3 v4 : Value} (h : w.heap[b]? = some (.cells #[v0, v1, v2, v3, v4] e (0, 0))) :
    (w.cell? ⟨b, 0, none⟩ = some v0 ∧ w.cell? ⟨b, 1, none⟩ = some v1 ∧ w.cell? ⟨b, 2, none⟩ = some v2 ∧ w.cell? ⟨b, 3, none⟩ = some v3 ∧ w.cell? ⟨b, 4, none⟩ = some v4) ∧
    (w.frozen? ⟨b, 0, none⟩ = false ∧ w.frozen? ⟨b, 1, none⟩ = false ∧ w.frozen? ⟨b, 2, none⟩ = false ∧ w.frozen? ⟨b, 3, none⟩ = false ∧ w.frozen? ⟨b, 4, none⟩ = false) :=
  ⟨⟨by rw [cell_blk h]; rfl, by rw [cell_blk h]; rfl, by rw [cell_blk h]; rfl, by rw [cell_blk h]; rfl, by rw [cell_blk h]; rfl⟩, ⟨frozen_blk h 0, frozen_blk h 1, frozen_blk h 2, frozen_blk h 3, frozen_blk h 4⟩⟩
theorem below_blk {W w1 : World} (hb : Below W.heap.size W w1) {b : Nat} {o : Obj} (h : W.heap[b]? = some o) : w1.heap[b]? = some o := (hb.block b (blk_lt h)).trans h
theorem blk2_old (w : World) (A B : Obj) : ((w.alloc A).alloc B).heap[w.heap.size]? = some A := blk_old _ B (blk_new w A)
theorem blk2_new (w : World) (A B : Obj) : ((w.alloc A).alloc B).heap[w.heap.size + 1]? = some B := by
  have := blk_new (w.alloc A) B
  rwa [World.size_alloc] at this

/-- Behind a call that only makes memory: all cells and marks that were there. -/
theorem bcell {W w1 : World} (hb : Below W.heap.size W w1) : (∀ b o, b < W.heap.size → w1.cell? ⟨b, o, none⟩ = W.cell? ⟨b, o, none⟩) ∧ (∀ b o, b < W.heap.size → w1.frozen? ⟨b, o, none⟩ = W.frozen? ⟨b, o, none⟩) :=
  ⟨fun b o h => hb.cell (p := ⟨b, o, none⟩) h, fun b o h => hb.frozen (p := ⟨b, o, none⟩) h⟩

/-- 's = append(s, y)', s the call's own (or nil): the one cell of y has just been laid. -/
theorem append_one {P : Program} {w : World} {ops : Array Oper} {rest : List Oper} {o : Oper} {a : Act} {Q : Exit → Act → World → Prop} (hgd : o.guard = none) (s x : Operand) (t : TypeId)
    (ho : o.op = .call { callee := .builtin .append, args := #[s, x], argTypes := #[t, t] }) (base : Nat) (e : TypeId) (z : Value) (bytes : Nat) (ht : P.underlying t = some (.slice e))
    (hinfo : (P.info? e).map (fun i => (i.zero, i.size, i.bytes)) = some (some z, 1, bytes)) (hzs : z.cells.size = 1)
    (v : Value) (n : Nat) (xs : List Value) (hs : a.eval s = v) (hown : w.ownsRow base e 1 v n xs) (y : Value) (hx : a.eval x = .slice (some ⟨w.heap.size, 0, none⟩) 1 1) (hy : y.oneCell' = true)
    (hn : (n : Int) ≤ 1099511627777) (hb : bytes ≤ 64) (hbase : base ≤ w.heap.size)
    (h : ∀ v' w', w'.ownsRow base e 1 v' (n + 1) (xs ++ [y]) → w.grownBy w' v.ownBlock → Below base w w' → wpList P ops Q rest (a.put o.dst v') w') : wpList P ops Q (o :: rest) a (w.alloc (.cells #[y] e)) := by
  obtain ⟨i, hi, hz, h1, h2⟩ := info_parts hinfo
  have hb2 : (n + 1) * bytes ≤ (n + 1) * 64 := Nat.mul_le_mul_left _ hb
  refine wpList_append_own _ hgd s x t ho base e i z 1 bytes ht hi hz h1 h2 hzs (by decide) v n xs hs (hown.alloc _) ⟨w.heap.size, 0, none⟩ 1 1 [y] hx rfl (cell_one_new _ _ _) (by simp [hy]) (by unfold maxLen; omega) (by omega) (by simp; omega) ?_
  intro v' w' r1 r2 _
  have hg : w.grownBy w' v.ownBlock := (World.grownBy_alloc w _ _).trans r2
  exact h v' w' r1 hg ⟨hg.os, hg.tape, hg.output, hg.size, fun k hk => hg.block k (by omega) (fun e => by have := hown.lt k e.symm; omega)⟩

/-! ### maps, as functions of the key's value -/
/-- How an element reads: as itself. -/
def tokR (v : Value) : Option (DataW Value × List MemPlace) := some (.held v, [])

theorem tokR_inj {v : Value} {d : DataW Value} {ps : List MemPlace} (h : tokR v = some (d, ps)) : d = .held v ∧ ps = [] := by
  simp only [tokR, Option.some.injEq, Prod.mk.injEq] at h
  exact ⟨h.1.symm, h.2.symm⟩

/-- Block b is a map of n entries that has f key at key. -/
def HasMap (P : Program) (k : TypeId) (w : World) (b : Nat) (f : Value → Option Value) (n : Nat) : Prop :=
  ∃ D : DataW Value, w.ownsMap P k tokR b n D ∧ Maps.size D = n ∧
    ∀ key kl, keyOf P k key = some kl → Maps.has D kl = (f key).isSome ∧ ∀ v, f key = some v → ∀ zd, D.atKey kl zd = .held v

section
variable {P : Program} {k : TypeId} {w : World} {b n : Nat} {f : Value → Option Value}

theorem HasMap.lt (h : HasMap P k w b f n) : b < w.heap.size := by
  obtain ⟨D, h, _⟩ := h
  exact h.lt

theorem HasMap.is (h : HasMap P k w b f n) : ∃ es clock, w.heap[b]? = some (.map es clock) := by
  obtain ⟨D, ⟨es, clock, hb, _⟩, _⟩ := h
  exact ⟨es, clock, hb⟩

theorem HasMap.of_block {w' : World} (h : HasMap P k w b f n) (hb : w'.heap[b]? = w.heap[b]?) : HasMap P k w' b f n := by
  obtain ⟨D, ⟨es, clock, hb0, r⟩, r'⟩ := h
  exact ⟨D, ⟨es, clock, hb.trans hb0, r⟩, r'⟩

theorem HasMap.congr (h : HasMap P k w b f n) {g : Value → Option Value} (hg : ∀ key kl, keyOf P k key = some kl → g key = f key) : HasMap P k w b g n := by
  obtain ⟨D, h1, h2, h3⟩ := h
  exact ⟨D, h1, h2, fun key kl hk => by rw [hg key kl hk]; exact h3 key kl hk⟩

theorem HasMap.made (w : World) (P : Program) (k : TypeId) : HasMap P k (w.alloc (.map #[] 0)) w.heap.size (fun _ => none) 0 :=
  ⟨.map [], World.ownsMap_made w P k tokR, rfl, fun _ _ _ => ⟨rfl, fun _ h => by cases h⟩⟩

theorem HasMap.look {t e : TypeId} (h : HasMap P k w b f n) (K : Keyed P k) (ht : P.underlying t = some (.map k e)) {z : Value} (hz : (zeroValue e).run P w = .ok z w) {key : Value} {kl : Lit} (hk : keyOf P k key = some kl) :
    (Instr.lookup t (.map (some b)) key false).run P w = .ok ((f key).getD z) w := by
  obtain ⟨D, h1, _, h3⟩ := h
  obtain ⟨v, ps, hrun, hv⟩ := h1.lookup K ht hz (zd := .held z) (zp := []) rfl hk
  obtain ⟨ha, hb⟩ := h3 key kl hk
  have e1 := (tokR_inj hv).1
  rw [hrun]
  cases hf : f key with
  | some u =>
    rw [hb u hf] at e1
    cases e1
    rfl
  | none =>
    rw [hf] at ha
    rw [Maps.atKey_of_not_has (by simpa using ha)] at e1
    cases e1
    rfl

theorem HasMap.look_ok {t e : TypeId} (h : HasMap P k w b f n) (K : Keyed P k) (ht : P.underlying t = some (.map k e)) {z : Value} (hz : (zeroValue e).run P w = .ok z w) {key : Value} {kl : Lit} (hk : keyOf P k key = some kl) :
    (Instr.lookup t (.map (some b)) key true).run P w = .ok (.tuple #[(f key).getD z, .bool (f key).isSome]) w := by
  obtain ⟨D, h1, _, h3⟩ := h
  obtain ⟨v, ps, hrun, hv⟩ := h1.look_ok K ht hz (zd := .held z) (zp := []) rfl hk
  obtain ⟨ha, hb⟩ := h3 key kl hk
  have e1 := (tokR_inj hv).1
  rw [hrun, ha]
  cases hf : f key with
  | some u =>
    rw [hb u hf] at e1
    cases e1
    rfl
  | none =>
    rw [hf] at ha
    rw [Maps.atKey_of_not_has (by simpa using ha)] at e1
    cases e1
    rfl

theorem HasMap.len {t e : TypeId} (h : HasMap P k w b f n) (ht : P.underlying t = some (.map k e)) (ty : TypeId) : (Builtin.len_ #[t] ty #[.map (some b)]).run P w = .ok (.int .i64 n) w := by
  obtain ⟨D, h1, h2, _⟩ := h
  rw [h1.len ht, h2]

theorem ne_of_key (K : Keyed P k) {a c : Value} {la lc : Lit} (ha : keyOf P k a = some la) (hc : keyOf P k c = some lc) (hne : a ≠ c) : la ≠ lc := by
  intro e
  subst e
  exact hne (K.inj ha hc)

theorem HasMap.store {t e : TypeId} (h : HasMap P k w b f n) (K : Keyed P k) (ht : P.underlying t = some (.map k e)) (hn : n < maxLen) {key : Value} {kl : Lit} (hk : keyOf P k key = some kl) (val : Value)
    {g : Value → Option Value} (hg : g key = some val) (hg' : ∀ x, x ≠ key → g x = f x) :
    ∃ w', (Instr.mapUpdate t (.map (some b)) key val).run P w = .ok () w' ∧ HasMap P k w' b g (if (f key).isSome then n else n + 1) ∧ w.mapTurned w' b := by
  obtain ⟨D, h1, h2, h3⟩ := h
  obtain ⟨w', hrun, r1, r2⟩ := h1.store K ht hn hk (val := val) (d := .held val) (ps := []) rfl
  have hkl := K.key hk
  refine ⟨w', hrun, ⟨D.put kl (.held val), ?_, ?_, ?_⟩, r2⟩
  · obtain ⟨es, clock, q1, q2, q3, q4⟩ := r1
    have hsz : Maps.size (D.put kl (.held val)) = es.size := by rw [q4]; simp [Maps.size, length_sorted]
    have : es.size = if (f key).isSome then n else n + 1 := by
      rw [← hsz, Maps.size_put (h1.tidy K), (h3 key kl hk).1, h2]
    exact ⟨es, clock, q1, q2, by omega, q4⟩
  · rw [Maps.size_put (h1.tidy K), (h3 key kl hk).1, h2]
  · intro x lx hx
    by_cases hxk : x = key
    · subst hxk
      rw [hk] at hx
      cases hx
      rw [hg]
      exact ⟨Maps.has_put_same h1.isMap hkl _, fun v hv zd => by cases hv; exact Maps.atKey_put_same h1.isMap hkl _ _⟩
    · have hne := ne_of_key K hx hk hxk
      rw [hg' x hxk, Maps.has_put_other hne]
      exact ⟨(h3 x lx hx).1, fun v hv zd => by rw [Maps.atKey_put_other hne]; exact (h3 x lx hx).2 v hv zd⟩

theorem HasMap.drop {t e : TypeId} (h : HasMap P k w b f n) (K : Keyed P k) (ht : P.underlying t = some (.map k e)) {key : Value} {kl : Lit} (hk : keyOf P k key = some kl) (ty : TypeId)
    {g : Value → Option Value} (hg : g key = none) (hg' : ∀ x, x ≠ key → g x = f x) :
    ∃ w', (Builtin.delete_ #[t, k] ty #[.map (some b), key]).run P w = .ok (.tuple #[]) w' ∧ HasMap P k w' b g (if (f key).isSome then n - 1 else n) ∧ w.mapTurned w' b := by
  obtain ⟨D, h1, h2, h3⟩ := h
  obtain ⟨w', hrun, r1, r2⟩ := h1.drop K ht hk ty
  have hsd := Maps.size_del (k := kl) (h1.tidy K)
  rw [(h3 key kl hk).1, h2] at hsd
  have hsz : Maps.size (D.del kl) = if (f key).isSome then n - 1 else n := by
    cases hf : (f key).isSome <;> simp [hf] at hsd ⊢ <;> omega
  refine ⟨w', hrun, ⟨D.del kl, ?_, hsz, ?_⟩, r2⟩
  · obtain ⟨es, clock, q1, q2, q3, q4⟩ := r1
    have : Maps.size (D.del kl) = es.size := by rw [q4]; simp [Maps.size, length_sorted]
    exact ⟨es, clock, q1, q2, by omega, q4⟩
  · intro x lx hx
    by_cases hxk : x = key
    · subst hxk
      rw [hk] at hx
      cases hx
      rw [hg]
      exact ⟨Maps.has_del_same, fun v hv => by cases hv⟩
    · have hne := ne_of_key K hx hk hxk
      rw [hg' x hxk, Maps.has_del_other hne]
      exact ⟨(h3 x lx hx).1, fun v hv zd => by rw [Maps.atKey_del_other hne]; exact (h3 x lx hx).2 v hv zd⟩
end

theorem turned_size {w w' : World} {b : Nat} (h : w.mapTurned w' b) : w'.heap.size = w.heap.size := by
  obtain ⟨_, _, _, _, _, rfl⟩ := h
  simp [setBlock]
theorem turned_keeps {S : Nat → Prop} {w w' : World} {b : Nat} (h : w.mapTurned w' b) (hS : S b) : Keeps S w w' := Keeps.of_grown h.grown (fun x e => by cases e; exact hS)
theorem turned_block {w w' : World} {b : Nat} (h : w.mapTurned w' b) {c : Nat} (hc : c ≠ b) : w'.heap[c]? = w.heap[c]? := by
  obtain ⟨_, _, _, _, hb, rfl⟩ := h
  exact heap_setBlock_other hb _ hc
/-- Of w block b alone has turned, and nothing is new. -/
def Turned (w w' : World) (b : Nat) : Prop := w'.heap.size = w.heap.size ∧ Keeps (fun x => x = b) w w'
theorem Turned.of {w w' : World} {b : Nat} (h : w.mapTurned w' b) : Turned w w' b := ⟨turned_size h, turned_keeps h rfl⟩
theorem Turned.of_drew {w w' : World} {b : Nat} (h : w.drew.mapTurned w' b) : Turned w w' b := ⟨(turned_size (w := w.drew) h : _), have k := turned_keeps (w := w.drew) (S := fun x => x = b) h rfl; ⟨k.os, k.tape, k.output, k.size, k.block⟩⟩
theorem Turned.block {w w' : World} {b : Nat} (h : Turned w w' b) {c : Nat} (hc : c ≠ b) : w'.heap[c]? = w.heap[c]? := by
  by_cases hlt : c < w.heap.size
  · exact h.2.block c hlt hc
  · rw [Array.getElem?_eq_none (by have := h.1; omega), Array.getElem?_eq_none (by omega)]
theorem Turned.cell {w w' : World} {b : Nat} (h : Turned w w' b) {a : Addr} (ha : a.block ≠ b) : w'.cell? a = w.cell? a := World.cell?_of_block (h.block ha)
theorem Turned.free {w w' : World} {b : Nat} (h : Turned w w' b) {a : Addr} (ha : a.block ≠ b) : w'.frozen? a = w.frozen? a := World.frozen?_of_block (h.block ha)
end Go.Proofs.YtmefjkggibbhoaaGreat
/- A region that draws its order, by what stays true of it: whatever comes up keeps it. -/
namespace Go.Proofs.YtmefjkggibbhoaaGreat
open Go.RowKit

theorem count_set_true {l : List Bool} {i : Nat} (hi : i < l.length) (h : l[i] = false) : (l.set i true).count false + 1 = l.count false := by
  induction l generalizing i with
  | nil => simp at hi
  | cons x l ih =>
    cases i with
    | zero =>
      simp only [List.getElem_cons_zero] at h
      subst h
      simp
    | succ i =>
      have := ih (i := i) (by simpa using hi) (by simpa using h)
      cases x <;> simp <;> omega

section
variable {P : Program} {ops : Array Oper} {Q : Exit → Act → World → Prop}

theorem ready_of_none (L : Array Bool) (hL : L.size = ops.size) (hord : ∀ (i : Nat) (o : Oper), ops[i]? = some o → ∀ e ∈ o.after, e.on < i)
    (hr : Region.ready .any ops L = []) : ∀ i, i < ops.size → L.getD i true = true := by
  intro i
  induction i using Nat.strongRecOn with
  | ind i ih =>
    intro hi
    cases hLi : L.getD i true with
    | true => rfl
    | false =>
      exfalso
      have : i ∈ Region.ready .any ops L := by
        unfold Region.ready
        rw [List.mem_filter]
        refine ⟨List.mem_range.2 hi, ?_⟩
        rw [hLi, Array.getElem?_eq_getElem hi]
        simp only [Bool.not_false, Bool.true_and, Option.map_some, Option.getD_some]
        rw [Array.all_eq_true_iff_forall_mem]
        intro e he
        have h1 := hord i _ (Array.getElem?_eq_getElem hi) e he
        have h2 := ih e.on h1 (by omega)
        have h3 : L.getD e.on false = true := by
          have : e.on < L.size := by omega
          simpa [Array.getD, this] using h2
        simp [h3]
      rw [hr] at this
      cases this

theorem wpAny_inv (Inv : Array Bool → Act → World → Prop) (hord : ∀ (i : Nat) (o : Oper), ops[i]? = some o → ∀ e ∈ o.after, e.on < i)
    (step : ∀ L a w i o, Inv L a w → ops[i]? = some o → L.getD i true = false → (∀ e ∈ o.after, Region.binds .any e = true → L.getD e.on false = true) →
      if Region.wanted o (yielded ops a.tmps) then o.wp P a w (Inv (L.setIfInBounds i true)) Q else Inv (L.setIfInBounds i true) (a.put o.dst undef) w)
    (done : ∀ L a w, Inv L a w → (∀ i, i < ops.size → L.getD i true = true) → Q .normal a w) :
    ∀ (fuel : Nat) (L : Array Bool) (a : Act) (w : World), L.size = ops.size → L.toList.count false ≤ fuel → Inv L a w → wpAny P .any ops Q fuel L a w
  | 0, L, a, w, hL, hc, hI => by
    have hall : ∀ i, i < ops.size → L.getD i true = true := by
      intro i hi
      have h0 : L.toList.count false = 0 := by omega
      rw [List.count_eq_zero] at h0
      cases h : L.getD i true with
      | true => rfl
      | false =>
        exfalso
        apply h0
        have hi' : i < L.size := by omega
        have : L[i] = false := by simpa [Array.getD, hi'] using h
        rw [← this]
        simp
    refine ⟨?_, done L a w hI hall⟩
    unfold Region.ready
    rw [List.filter_eq_nil_iff]
    intro i hi
    rw [hall i (List.mem_range.1 hi)]
    simp
  | fuel + 1, L, a, w, hL, hc, hI => by
    refine ⟨fun h => done L a w hI (ready_of_none L hL hord h), fun i hi => ?_⟩
    unfold Region.ready at hi
    rw [List.mem_filter] at hi
    obtain ⟨h1, h2⟩ := hi
    have h1 := List.mem_range.1 h1
    rw [Bool.and_eq_true, Array.getElem?_eq_getElem h1, Option.map_some, Option.getD_some, Array.all_eq_true_iff_forall_mem] at h2
    obtain ⟨h3, h4⟩ := h2
    have h3 : L.getD i true = false := by simpa using h3
    have hs := step L a w i _ hI (Array.getElem?_eq_getElem h1) h3 (fun e he hb => by
      have := h4 e he
      simpa [hb] using this)
    have hi' : i < L.size := by omega
    have hLi : L.toList[i]'(by simpa using hi') = false := by
      have : L[i] = false := by simpa [Array.getD, hi'] using h3
      simpa using this
    have hcnt := count_set_true (l := L.toList) (by simpa using hi') hLi
    have next : ∀ a w, Inv (L.setIfInBounds i true) a w → wpAny P .any ops Q fuel (L.setIfInBounds i true) a w := fun a w h =>
      wpAny_inv Inv hord step done fuel _ a w (by simpa using hL) (by rw [Array.toList_setIfInBounds]; omega) h
    unfold wpOp
    rw [Array.getElem?_eq_getElem h1]
    simp only
    split at hs
    · rename_i hw
      rw [if_pos hw]
      exact .inl (Oper.wp_mono next hs)
    · rename_i hw
      rw [if_neg hw]
      exact next _ _ hs

/-- The whole region. -/
theorem wp_region_inv {id : Nat} {a : Act} {w : World} (hm : P.follows .mixedOrders = true) (Inv : Array Bool → Act → World → Prop) (hord : ∀ (i : Nat) (o : Oper), ops[i]? = some o → ∀ e ∈ o.after, e.on < i)
    (h0 : Inv (Array.replicate ops.size false) a w.drew)
    (step : ∀ L a w i o, Inv L a w → ops[i]? = some o → L.getD i true = false → (∀ e ∈ o.after, Region.binds .any e = true → L.getD e.on false = true) →
      if Region.wanted o (yielded ops a.tmps) then o.wp P a w (Inv (L.setIfInBounds i true)) Q else Inv (L.setIfInBounds i true) (a.put o.dst undef) w)
    (done : ∀ L a w, Inv L a w → (∀ i, i < ops.size → L.getD i true = true) → Q .normal a w) : (Code.region id ops true).wp P Q a w :=
  wp_region_any hm (wpAny_inv Inv hord step done ops.size _ a _ (by simp) (by simp) h0)
end
end Go.Proofs.YtmefjkggibbhoaaGreat
/- A region that draws its order, whose operations make memory: what is known of each operation's value stays known as the memory grows. -/
namespace Go.Proofs.YtmefjkggibbhoaaGreat
open Go.RowKit

/-- The value that an operation has left. -/
def valOf (o : Oper) (a : Act) : Value := match o.dst with | some d => a.tmps.getD d undef | none => undef
/-- The block that a value names. -/
def blkOf : Value → Option Nat
  | .map b => b
  | .slice (some a) _ _ => some a.block
  | .pointer (some a) => some a.block
  | _ => none
/-- What an operation is given: what is known of those that it waits for; the slots that the region does not write. -/
structure Given (l : List Oper) (Φ : Nat → Value → World → Prop) (cre : Nat → Bool) (a0 : Act) (o : Oper) (a : Act) (w : World) : Prop where
  dep : ∀ e ∈ o.after, Region.binds .any e = true → ∀ oj, l[e.on]? = some oj → Φ e.on (valOf oj a) w
  fr : ∀ t, (∀ oj ∈ l, oj.dst ≠ some t) → a.tmps.getD t undef = a0.tmps.getD t undef
  sz : a.tmps.size = a0.tmps.size
  ne : ∀ e ∈ o.after, ∀ f ∈ o.after, Region.binds .any e = true → Region.binds .any f = true → e.on ≠ f.on → ∀ oi oj, l[e.on]? = some oi → l[f.on]? = some oj → cre e.on = true → cre f.on = true → blkOf (valOf oi a) ≠ blkOf (valOf oj a)
/-- The region's form. -/
def growB (l : List Oper) (n : Nat) : Bool :=
  (l.zipIdx.all fun x => x.1.guard.isNone && (x.1.after.all fun e => decide (e.on < x.2)) && (match x.1.dst with | some d => decide (d < n) | none => true)) &&
  (l.zipIdx.all fun x => l.zipIdx.all fun y => decide (x.2 = y.2) || x.1.dst.isNone || decide (x.1.dst ≠ y.1.dst))

structure GInv (l : List Oper) (R : World → World → Prop) (Φ : Nat → Value → World → Prop) (cre : Nat → Bool) (C : World → Prop) (a0 : Act) (L : Array Bool) (a : Act) (w : World) : Prop where
  lsz : L.size = l.length
  c : C w
  sz : a.tmps.size = a0.tmps.size
  df : a.defers = a0.defers
  fr : ∀ t, (∀ oj ∈ l, oj.dst ≠ some t) → a.tmps.getD t undef = a0.tmps.getD t undef
  phi : ∀ (i : Nat) (o : Oper), l[i]? = some o → L.getD i false = true → Φ i (valOf o a) w
  blk : ∀ (i : Nat) (o : Oper), l[i]? = some o → L.getD i false = true → cre i = true → ∃ b, blkOf (valOf o a) = some b ∧ b < w.heap.size
  ne : ∀ (i j : Nat) (oi oj : Oper), i ≠ j → l[i]? = some oi → l[j]? = some oj → L.getD i false = true → L.getD j false = true → cre i = true → cre j = true → blkOf (valOf oi a) ≠ blkOf (valOf oj a)

theorem put_getD (a : Act) (d : Nat) (v : Value) (t : Nat) (h : t ≠ d) : (a.put (some d) v).tmps.getD t undef = a.tmps.getD t undef := by
  have : ¬ d = t := fun e => h e.symm
  simp only [Act.put, Array.getD_eq_getD_getElem?, Array.getElem?_setIfInBounds, if_neg this]
theorem put_getD_same (a : Act) (d : Nat) (v : Value) (h : d < a.tmps.size) : (a.put (some d) v).tmps.getD d undef = v := by
  simp [Act.put, Array.getD_eq_getD_getElem?, h]

theorem wp_region_grow {P : Program} {Q : Exit → Act → World → Prop} {id : Nat} {l : List Oper} {a0 : Act} {w0 : World} (hm : P.follows .mixedOrders = true) (hB : growB l a0.tmps.size = true)
    (R : World → World → Prop) (Φ : Nat → Value → World → Prop) (cre : Nat → Bool) (C : World → Prop)
    (hΦ : ∀ j v w w', R w w' → Φ j v w → Φ j v w') (hRs : ∀ w w', R w w' → w.heap.size ≤ w'.heap.size) (hC0 : C w0.drew) (hC : ∀ w w', C w → R w w' → C w')
    (step : ∀ (i : Nat) (o : Oper) (a : Act) (w : World), l[i]? = some o → C w → Given l Φ cre a0 o a w →
      o.wp P a w (fun a' w' => ∃ v, a' = a.put o.dst v ∧ R w w' ∧ Φ i (o.dst.elim undef fun _ => v) w' ∧ (cre i = true → o.dst.isSome = true ∧ ∃ b, blkOf v = some b ∧ w.heap.size ≤ b ∧ b < w'.heap.size)) Q)
    (done : ∀ a w, C w → a.defers = a0.defers → a.tmps.size = a0.tmps.size → (∀ t, (∀ oj ∈ l, oj.dst ≠ some t) → a.tmps.getD t undef = a0.tmps.getD t undef) → (∀ (i : Nat) (o : Oper), l[i]? = some o → Φ i (valOf o a) w) →
      (∀ (i j : Nat) (oi oj : Oper), i ≠ j → l[i]? = some oi → l[j]? = some oj → cre i = true → cre j = true → blkOf (valOf oi a) ≠ blkOf (valOf oj a)) → Q .normal a w) :
    (Code.region id l.toArray true).wp P Q a0 w0 := by
  simp only [growB, Bool.and_eq_true] at hB
  obtain ⟨hB1, hB2⟩ := hB
  have at1 : ∀ (i : Nat) (o : Oper), l[i]? = some o → o.guard = none ∧ (∀ e ∈ o.after, e.on < i) ∧ ∀ d, o.dst = some d → d < a0.tmps.size := fun i o ho => by
    have := List.all_eq_true.1 hB1 (o, i) (List.mem_zipIdx_iff_getElem?.2 ho)
    simp only [Bool.and_eq_true, Option.isNone_iff_eq_none, Array.all_eq_true_iff_forall_mem, decide_eq_true_eq] at this
    obtain ⟨⟨h1, h2⟩, h3⟩ := this
    exact ⟨h1, h2, fun d hd => by rw [hd] at h3; simpa using h3⟩
  have at2 : ∀ (i j : Nat) (oi oj : Oper), i ≠ j → l[i]? = some oi → l[j]? = some oj → ∀ d, oi.dst = some d → oj.dst ≠ some d := fun i j oi oj hne hi hj d hd => by
    have h1 := List.all_eq_true.1 hB2 (oi, i) (List.mem_zipIdx_iff_getElem?.2 hi)
    have h2 := List.all_eq_true.1 h1 (oj, j) (List.mem_zipIdx_iff_getElem?.2 hj)
    simp only [Bool.or_eq_true, decide_eq_true_eq, Option.isNone_iff_eq_none] at h2
    rcases h2 with (h2 | h2) | h2
    · exact absurd h2 hne
    · rw [hd] at h2; cases h2
    · rw [hd] at h2; exact fun e => h2 e.symm
  refine wp_region_inv hm (GInv l R Φ cre C a0) (fun i o ho => (at1 i o (by simpa using ho)).2.1) ?_ ?_ ?_
  · exact {
      lsz := by simp
      c := hC0
      sz := rfl
      df := rfl
      fr := fun t _ => rfl
      phi := fun i o _ h => by rw [getD_replicate_false] at h; cases h
      blk := fun i o _ h => by rw [getD_replicate_false] at h; cases h
      ne := fun i j oi oj _ _ _ h => by rw [getD_replicate_false] at h; cases h }
  · intro L a w i o hI ho hL hdep
    have ho' : l[i]? = some o := by simpa using ho
    obtain ⟨hg, -, hd⟩ := at1 i o ho'
    have hwant : Region.wanted o (yielded l.toArray a.tmps) = true := by simp [Region.wanted, hg]
    rw [if_pos hwant]
    have hil : i < L.size := by rw [hI.lsz]; exact (List.getElem?_eq_some_iff.1 ho').1
    refine Oper.wp_mono ?_ (step i o a w ho' hI.c ⟨fun e he hb oj hj => hI.phi _ _ hj (hdep e he hb), hI.fr, hI.sz, fun e he f hf hbe hbf hne oi oj hi hj hci hcj => hI.ne _ _ _ _ hne hi hj (hdep e he hbe) (hdep f hf hbf) hci hcj⟩)
    rintro a' w' ⟨v, rfl, hR, hv, hcr⟩
    have vother : ∀ (j : Nat) (oj : Oper), j ≠ i → l[j]? = some oj → valOf oj (a.put o.dst v) = valOf oj a := fun j oj hj hoj => by
      cases hdo : o.dst with
      | none => rfl
      | some d =>
        unfold valOf
        cases hdj : oj.dst with
        | none => rfl
        | some t =>
          have := at2 i j o oj (Ne.symm hj) ho' hoj d hdo
          exact put_getD a d v t (fun e => this (by rw [hdj, e]))
    have vself : valOf o (a.put o.dst v) = o.dst.elim undef fun _ => v := by
      unfold valOf
      cases hdo : o.dst with
      | none => rfl
      | some d => exact put_getD_same a d v (by rw [hI.sz]; exact hd d hdo)
    have lold : ∀ j, j ≠ i → (L.setIfInBounds i true).getD j false = true → L.getD j false = true := fun j hj h => by
      rwa [getD_set_ne false (Ne.symm hj)] at h
    exact {
      lsz := by simpa using hI.lsz
      c := hC _ _ hI.c hR
      sz := by
        rw [← hI.sz]
        cases o.dst with
        | none => rfl
        | some d => simp [Act.put]
      df := by
        rw [← hI.df]
        cases o.dst <;> rfl
      fr := fun t ht => by
        rw [← hI.fr t ht]
        cases hdo : o.dst with
        | none => rfl
        | some d => exact put_getD a d v t (fun e => ht o (List.mem_of_getElem? ho') (by rw [hdo, e]))
      phi := fun j oj hj hl => by
        by_cases e : j = i
        · subst e
          rw [ho'] at hj
          cases hj
          rw [vself]
          exact hv
        · rw [vother j oj e hj]
          exact hΦ _ _ _ _ hR (hI.phi j oj hj (lold j e hl))
      blk := fun j oj hj hl hc => by
        by_cases e : j = i
        · subst e
          rw [ho'] at hj
          cases hj
          obtain ⟨h1, b, h2, h3, h4⟩ := hcr hc
          rw [vself]
          obtain ⟨d, hd'⟩ := Option.isSome_iff_exists.1 h1
          rw [hd']
          exact ⟨b, h2, h4⟩
        · rw [vother j oj e hj]
          obtain ⟨b, h2, h3⟩ := hI.blk j oj hj (lold j e hl) hc
          exact ⟨b, h2, Nat.lt_of_lt_of_le h3 (hRs _ _ hR)⟩
      ne := fun j k oj ok hne hj hk hlj hlk hcj hck => by
        have key : ∀ (j : Nat) (oj : Oper), j ≠ i → l[j]? = some oj → L.getD j false = true → cre j = true → cre i = true → blkOf (valOf oj a) ≠ blkOf (valOf o (a.put o.dst v)) := fun j oj hj hoj hlj hcj hci => by
          obtain ⟨b, h2, h3⟩ := hI.blk j oj hoj hlj hcj
          obtain ⟨h1, b', h2', h3', h4'⟩ := hcr hci
          obtain ⟨d, hd'⟩ := Option.isSome_iff_exists.1 h1
          rw [vself, hd', h2]
          show some b ≠ blkOf v
          rw [h2']
          simp
          omega
        by_cases e : j = i
        · subst e
          rw [ho'] at hj
          cases hj
          rw [vother k ok (Ne.symm hne) hk]
          exact (key k ok (Ne.symm hne) hk (lold k (Ne.symm hne) hlk) hck hcj).symm
        · by_cases e' : k = i
          · subst e'
            rw [ho'] at hk
            cases hk
            rw [vother j oj e hj]
            exact key j oj e hj (lold j e hlj) hcj hck
          · rw [vother j oj e hj, vother k ok e' hk]
            exact hI.ne j k oj ok hne hj hk (lold j e hlj) (lold k e' hlk) hcj hck }
  · intro L a w hI hall
    have hl : ∀ (i : Nat) (o : Oper), l[i]? = some o → L.getD i false = true := fun i o ho => by
      have hi := (List.getElem?_eq_some_iff.1 ho).1
      have h1 := hall i (by simpa using hi)
      have : i < L.size := by rw [hI.lsz]; exact hi
      simpa [Array.getD, this] using h1
    exact done a w hI.c hI.df hI.sz hI.fr (fun i o ho => hI.phi i o ho (hl i o ho)) (fun i j oi oj hne hi hj => hI.ne i j oi oj hne hi hj (hl i oi hi) (hl j oj hj))
end Go.Proofs.YtmefjkggibbhoaaGreat
