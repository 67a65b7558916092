/- A part of the proof, several texts in one: Base, Rep. -/
import Derived.WalkKit
import Derived.WalkLawsBesides
import Derived.WalkSpells
import Derived.Handy
import Derived.Outline
import Derived.Maps.RangeWalk
import Derived.Maps.OwnOps
import Derived.DeepKeys4
import Derived.Test.YtifmifjbebpomaaGreatDoorChecked
/- Ground for the walks: what a world keeps, maps read as functions of their keys. No program in sight. -/
namespace Go.Proofs.YtifmifjbebpomaaGreatDoor
open Go.RowKit Go.ChangeMaps Go.MapKept
open Go.WideElems (Fit rd rg pl rd_val elemAt)
open Go.Maps (Keyed)

/-- Outside S nothing that was there has turned. -/
structure Keeps (S : Nat → Prop) (w w' : World) : Prop where
  os : w'.os = w.os
  tape : w'.tape = w.tape
  output : w'.output = w.output
  size : w.heap.size ≤ w'.heap.size
  block : ∀ b, b < w.heap.size → ¬ S b → w'.heap[b]? = w.heap[b]?

theorem Keeps.refl (S : Nat → Prop) (w : World) : Keeps S w w := ⟨rfl, rfl, rfl, Nat.le_refl _, fun _ _ _ => rfl⟩
theorem Keeps.trans {S S' T : Nat → Prop} {a b c : World} (h : Keeps S a b) (k : Keeps S' b c) (h1 : ∀ x, x < a.heap.size → S x → T x) (h2 : ∀ x, x < a.heap.size → S' x → T x) : Keeps T a c :=
  ⟨k.os.trans h.os, k.tape.trans h.tape, k.output.trans h.output, Nat.le_trans h.size k.size, fun x hx hT =>
    (k.block x (Nat.lt_of_lt_of_le hx h.size) (fun e => hT (h2 x hx e))).trans (h.block x hx (fun e => hT (h1 x hx e)))⟩
theorem Keeps.mono {S T : Nat → Prop} {a b : World} (h : Keeps S a b) (h1 : ∀ x, x < a.heap.size → S x → T x) : Keeps T a b := h.trans (Keeps.refl S b) h1 h1
theorem Keeps.of_below {S : Nat → Prop} {a b : World} (h : Below a.heap.size a b) : Keeps S a b := ⟨h.os, h.tape, h.output, h.size, fun x hx _ => h.block x hx⟩
theorem Keeps.below {S : Nat → Prop} {a b : World} {B : Nat} (h : Keeps S a b) (hB : B ≤ a.heap.size) (hS : ∀ x, S x → B ≤ x) : Below B a b :=
  ⟨h.os, h.tape, h.output, h.size, fun x hx => h.block x (by omega) (fun e => by have := hS x e; omega)⟩
theorem Keeps.of_grown {S : Nat → Prop} {a b : World} {row : Option Nat} (h : a.grownBy b row) (hS : ∀ x, row = some x → S x) : Keeps S a b :=
  ⟨h.os, h.tape, h.output, h.size, fun x hx hn => h.block x hx (fun e => hn (hS x e.symm))⟩
theorem Keeps.setCell {S : Nat → Prop} (w : World) (a : Addr) (v : Value) (h : S a.block) : Keeps S w (w.setCell a v) :=
  ⟨rfl, rfl, rfl, by simp [World.setCell], fun x _ hn => Below.heap_setCell _ _ _ _ (fun e => hn (e ▸ h))⟩
theorem Keeps.drew {S : Nat → Prop} {a b : World} (h : Keeps S a b) : Keeps S a b.drew := ⟨h.os, h.tape, h.output, h.size, h.block⟩
theorem Below.keeps {S : Nat → Prop} {a b c : World} (h : Below a.heap.size a b) (k : Keeps S b c) : Keeps S a c := (Keeps.of_below (S := S) h).trans k (fun _ _ h => h) (fun _ _ h => h)
theorem Keeps.then_below {S : Nat → Prop} {a b c : World} (h : Keeps S a b) (k : Below b.heap.size b c) : Keeps S a c := h.trans (Keeps.of_below (S := S) k) (fun _ _ h => h) (fun _ _ h => h)
theorem below_trans {a b c : World} (h : Below a.heap.size a b) (k : Below b.heap.size b c) : Below a.heap.size a c := h.trans (k.mono h.size)

theorem cell_blk {w : World} {b : Nat} {cs : Array Value} {e : TypeId} {fr : Nat × Nat} (h : w.heap[b]? = some (.cells cs e fr)) (i : Nat) : w.cell? ⟨b, i, none⟩ = cs[i]? := by
  simp [World.cell?, h]
theorem frozen_blk {w : World} {b : Nat} {cs : Array Value} {e : TypeId} (h : w.heap[b]? = some (.cells cs e (0, 0))) (i : Nat) : w.frozen? ⟨b, i, none⟩ = false := by
  simp [World.frozen?, h]
theorem blk_lt {w : World} {b : Nat} {o : Obj} (h : w.heap[b]? = some o) : b < w.heap.size := (Array.getElem?_eq_some_iff.1 h).1
theorem blk_setCell {w : World} {b : Nat} {cs : Array Value} {e : TypeId} {fr : Nat × Nat} (h : w.heap[b]? = some (.cells cs e fr)) (i : Nat) (v : Value) : (w.setCell ⟨b, i, none⟩ v).heap[b]? = some (.cells (cs.setIfInBounds i v) e fr) := by
  simp [World.setCell, Array.getElem?_modify, h]
theorem blk_new (w : World) (o : Obj) : (w.alloc o).heap[w.heap.size]? = some o := heap_alloc_new w o
theorem blk_old (w : World) (o : Obj) {b : Nat} {x : Obj} (h : w.heap[b]? = some x) : (w.alloc o).heap[b]? = some x := (Below.heap_alloc w o b (blk_lt h)).trans h
theorem blk_other {w : World} {b : Nat} {x : Obj} (h : w.heap[b]? = some x) (a : Addr) (v : Value) (hne : b ≠ a.block) : (w.setCell a v).heap[b]? = some x := (Below.heap_setCell w a v b hne).trans h

theorem cell_al {w : World} {a : Addr} {v : Value} (h : w.cell? a = some v) (o : Obj) : (w.alloc o).cell? a = some v :=
  (World.cell?_of_block (Below.heap_alloc w o a.block (World.block_lt_of_cell? w a h))).trans h

theorem cells5 {w : World} {b : Nat} {e : TypeId} {v0 v1 v2 v3 v4 : Value} (h : w.heap[b]? = some (.cells #[v0, v1, v2, v3, v4] e (0, 0))) :
    (w.cell? ⟨b, 0, none⟩ = some v0 ∧ w.cell? ⟨b, 1, none⟩ = some v1 ∧ w.cell? ⟨b, 2, none⟩ = some v2 ∧ w.cell? ⟨b, 3, none⟩ = some v3 ∧ w.cell? ⟨b, 4, none⟩ = some v4) ∧
    (w.frozen? ⟨b, 0, none⟩ = false ∧ w.frozen? ⟨b, 1, none⟩ = false ∧ w.frozen? ⟨b, 2, none⟩ = false ∧ w.frozen? ⟨b, 3, none⟩ = false ∧ w.frozen? ⟨b, 4, none⟩ = false) :=
  ⟨⟨by rw [cell_blk h]; rfl, by rw [cell_blk h]; rfl, by rw [cell_blk h]; rfl, by rw [cell_blk h]; rfl, by rw [cell_blk h]; rfl⟩, ⟨frozen_blk h 0, frozen_blk h 1, frozen_blk h 2, frozen_blk h 3, frozen_blk h 4⟩⟩
theorem below_blk {W w1 : World} (hb : Below W.heap.size W w1) {b : Nat} {o : Obj} (h : W.heap[b]? = some o) : w1.heap[b]? = some o := (hb.block b (blk_lt h)).trans h
theorem blk2_old (w : World) (A B : Obj) : ((w.alloc A).alloc B).heap[w.heap.size]? = some A := blk_old _ B (blk_new w A)
theorem blk2_new (w : World) (A B : Obj) : ((w.alloc A).alloc B).heap[w.heap.size + 1]? = some B := by
  have := blk_new (w.alloc A) B
  rwa [World.size_alloc] at this

/-- Behind a call that only makes memory: all cells and marks that were there. -/
theorem bcell {W w1 : World} (hb : Below W.heap.size W w1) : (∀ b o, b < W.heap.size → w1.cell? ⟨b, o, none⟩ = W.cell? ⟨b, o, none⟩) ∧ (∀ b o, b < W.heap.size → w1.frozen? ⟨b, o, none⟩ = W.frozen? ⟨b, o, none⟩) :=
  ⟨fun b o h => hb.cell (p := ⟨b, o, none⟩) h, fun b o h => hb.frozen (p := ⟨b, o, none⟩) h⟩

/-- 's = append(s, y)', s the call's own (or nil): the one cell of y has just been laid. -/
theorem append_one {P : Program} {w : World} {ops : Array Oper} {rest : List Oper} {o : Oper} {a : Act} {Q : Exit → Act → World → Prop} (hgd : o.guard = none) (s x : Operand) (t : TypeId)
    (ho : o.op = .call { callee := .builtin .append, args := #[s, x], argTypes := #[t, t] }) (base : Nat) (e : TypeId) (z : Value) (bytes : Nat) (ht : P.underlying t = some (.slice e))
    (hinfo : (P.info? e).map (fun i => (i.zero, i.size, i.bytes)) = some (some z, 1, bytes)) (hzs : z.cells.size = 1)
    (v : Value) (n : Nat) (xs : List Value) (hs : a.eval s = v) (hown : w.ownsRow base e 1 v n xs) (y : Value) (hx : a.eval x = .slice (some ⟨w.heap.size, 0, none⟩) 1 1) (hy : y.oneCell' = true)
    (hn : (n : Int) ≤ 1099511627777) (hb : bytes ≤ 64) (hbase : base ≤ w.heap.size)
    (h : ∀ v' w', w'.ownsRow base e 1 v' (n + 1) (xs ++ [y]) → w.grownBy w' v.ownBlock → Below base w w' → wpList P ops Q rest (a.put o.dst v') w') : wpList P ops Q (o :: rest) a (w.alloc (.cells #[y] e)) := by
  obtain ⟨i, hi, hz, h1, h2⟩ := info_parts hinfo
  have hb2 : (n + 1) * bytes ≤ (n + 1) * 64 := Nat.mul_le_mul_left _ hb
  refine wpList_append_own _ hgd s x t ho base e i z 1 bytes ht hi hz h1 h2 hzs (by decide) v n xs hs (hown.alloc _) ⟨w.heap.size, 0, none⟩ 1 1 [y] hx rfl (cell_one_new _ _ _) (by simp [hy]) (by unfold maxLen; omega) (by omega) (by simp; omega) ?_
  intro v' w' r1 r2 _
  have hg : w.grownBy w' v.ownBlock := (World.grownBy_alloc w _ _).trans r2
  exact h v' w' r1 hg ⟨hg.os, hg.tape, hg.output, hg.size, fun k hk => hg.block k (by omega) (fun e => by have := hown.lt k e.symm; omega)⟩

/-! ### maps, as functions of the key's value -/
/-- How an element reads: as itself. -/
def tokR (v : Value) : Option (DataW Value × List MemPlace) := some (.held v, [])

theorem tokR_inj {v : Value} {d : DataW Value} {ps : List MemPlace} (h : tokR v = some (d, ps)) : d = .held v ∧ ps = [] := by
  simp only [tokR, Option.some.injEq, Prod.mk.injEq] at h
  exact ⟨h.1.symm, h.2.symm⟩

/-- Block b is a map of n entries that has f key at key. -/
def HasMap (P : Program) (k : TypeId) (w : World) (b : Nat) (f : Value → Option Value) (n : Nat) : Prop :=
  ∃ D : DataW Value, w.ownsMap P k tokR b n D ∧ Maps.size D = n ∧
    ∀ key kl, keyOf P k key = some kl → Maps.has D kl = (f key).isSome ∧ ∀ v, f key = some v → ∀ zd, D.atKey kl zd = .held v

section
variable {P : Program} {k : TypeId} {w : World} {b n : Nat} {f : Value → Option Value}

theorem HasMap.lt (h : HasMap P k w b f n) : b < w.heap.size := by
  obtain ⟨D, h, _⟩ := h
  exact h.lt

theorem HasMap.is (h : HasMap P k w b f n) : ∃ es clock, w.heap[b]? = some (.map es clock) := by
  obtain ⟨D, ⟨es, clock, hb, _⟩, _⟩ := h
  exact ⟨es, clock, hb⟩

theorem HasMap.of_block {w' : World} (h : HasMap P k w b f n) (hb : w'.heap[b]? = w.heap[b]?) : HasMap P k w' b f n := by
  obtain ⟨D, ⟨es, clock, hb0, r⟩, r'⟩ := h
  exact ⟨D, ⟨es, clock, hb.trans hb0, r⟩, r'⟩

theorem HasMap.congr (h : HasMap P k w b f n) {g : Value → Option Value} (hg : ∀ key kl, keyOf P k key = some kl → g key = f key) : HasMap P k w b g n := by
  obtain ⟨D, h1, h2, h3⟩ := h
  exact ⟨D, h1, h2, fun key kl hk => by rw [hg key kl hk]; exact h3 key kl hk⟩

theorem HasMap.made (w : World) (P : Program) (k : TypeId) : HasMap P k (w.alloc (.map #[] 0)) w.heap.size (fun _ => none) 0 :=
  ⟨.map [], World.ownsMap_made w P k tokR, rfl, fun _ _ _ => ⟨rfl, fun _ h => by cases h⟩⟩

theorem HasMap.look {t e : TypeId} (h : HasMap P k w b f n) (K : Keyed P k) (ht : P.underlying t = some (.map k e)) {z : Value} (hz : (zeroValue e).run P w = .ok z w) {key : Value} {kl : Lit} (hk : keyOf P k key = some kl) :
    (Instr.lookup t (.map (some b)) key false).run P w = .ok ((f key).getD z) w := by
  obtain ⟨D, h1, _, h3⟩ := h
  obtain ⟨v, ps, hrun, hv⟩ := h1.lookup K ht hz (zd := .held z) (zp := []) rfl hk
  obtain ⟨ha, hb⟩ := h3 key kl hk
  have e1 := (tokR_inj hv).1
  rw [hrun]
  cases hf : f key with
  | some u =>
    rw [hb u hf] at e1
    cases e1
    rfl
  | none =>
    rw [hf] at ha
    rw [Maps.atKey_of_not_has (by simpa using ha)] at e1
    cases e1
    rfl

theorem HasMap.look_ok {t e : TypeId} (h : HasMap P k w b f n) (K : Keyed P k) (ht : P.underlying t = some (.map k e)) {z : Value} (hz : (zeroValue e).run P w = .ok z w) {key : Value} {kl : Lit} (hk : keyOf P k key = some kl) :
    (Instr.lookup t (.map (some b)) key true).run P w = .ok (.tuple #[(f key).getD z, .bool (f key).isSome]) w := by
  obtain ⟨D, h1, _, h3⟩ := h
  obtain ⟨v, ps, hrun, hv⟩ := h1.look_ok K ht hz (zd := .held z) (zp := []) rfl hk
  obtain ⟨ha, hb⟩ := h3 key kl hk
  have e1 := (tokR_inj hv).1
  rw [hrun, ha]
  cases hf : f key with
  | some u =>
    rw [hb u hf] at e1
    cases e1
    rfl
  | none =>
    rw [hf] at ha
    rw [Maps.atKey_of_not_has (by simpa using ha)] at e1
    cases e1
    rfl

theorem HasMap.len {t e : TypeId} (h : HasMap P k w b f n) (ht : P.underlying t = some (.map k e)) (ty : TypeId) : (Builtin.len_ #[t] ty #[.map (some b)]).run P w = .ok (.int .i64 n) w := by
  obtain ⟨D, h1, h2, _⟩ := h
  rw [h1.len ht, h2]

theorem ne_of_key (K : Keyed P k) {a c : Value} {la lc : Lit} (ha : keyOf P k a = some la) (hc : keyOf P k c = some lc) (hne : a ≠ c) : la ≠ lc := by
  intro e
  subst e
  exact hne (K.inj ha hc)

theorem HasMap.store {t e : TypeId} (h : HasMap P k w b f n) (K : Keyed P k) (ht : P.underlying t = some (.map k e)) (hn : n < maxLen) {key : Value} {kl : Lit} (hk : keyOf P k key = some kl) (val : Value)
    {g : Value → Option Value} (hg : g key = some val) (hg' : ∀ x, x ≠ key → g x = f x) :
    ∃ w', (Instr.mapUpdate t (.map (some b)) key val).run P w = .ok () w' ∧ HasMap P k w' b g (if (f key).isSome then n else n + 1) ∧ w.mapTurned w' b := by
  obtain ⟨D, h1, h2, h3⟩ := h
  obtain ⟨w', hrun, r1, r2⟩ := h1.store K ht hn hk (val := val) (d := .held val) (ps := []) rfl
  have hkl := K.key hk
  refine ⟨w', hrun, ⟨D.put kl (.held val), ?_, ?_, ?_⟩, r2⟩
  · obtain ⟨es, clock, q1, q2, q3, q4⟩ := r1
    have hsz : Maps.size (D.put kl (.held val)) = es.size := by rw [q4]; simp [Maps.size, length_sorted]
    have : es.size = if (f key).isSome then n else n + 1 := by
      rw [← hsz, Maps.size_put (h1.tidy K), (h3 key kl hk).1, h2]
    exact ⟨es, clock, q1, q2, by omega, q4⟩
  · rw [Maps.size_put (h1.tidy K), (h3 key kl hk).1, h2]
  · intro x lx hx
    by_cases hxk : x = key
    · subst hxk
      rw [hk] at hx
      cases hx
      rw [hg]
      exact ⟨Maps.has_put_same h1.isMap hkl _, fun v hv zd => by cases hv; exact Maps.atKey_put_same h1.isMap hkl _ _⟩
    · have hne := ne_of_key K hx hk hxk
      rw [hg' x hxk, Maps.has_put_other hne]
      exact ⟨(h3 x lx hx).1, fun v hv zd => by rw [Maps.atKey_put_other hne]; exact (h3 x lx hx).2 v hv zd⟩

theorem HasMap.drop {t e : TypeId} (h : HasMap P k w b f n) (K : Keyed P k) (ht : P.underlying t = some (.map k e)) {key : Value} {kl : Lit} (hk : keyOf P k key = some kl) (ty : TypeId)
    {g : Value → Option Value} (hg : g key = none) (hg' : ∀ x, x ≠ key → g x = f x) :
    ∃ w', (Builtin.delete_ #[t, k] ty #[.map (some b), key]).run P w = .ok (.tuple #[]) w' ∧ HasMap P k w' b g (if (f key).isSome then n - 1 else n) ∧ w.mapTurned w' b := by
  obtain ⟨D, h1, h2, h3⟩ := h
  obtain ⟨w', hrun, r1, r2⟩ := h1.drop K ht hk ty
  have hsd := Maps.size_del (k := kl) (h1.tidy K)
  rw [(h3 key kl hk).1, h2] at hsd
  have hsz : Maps.size (D.del kl) = if (f key).isSome then n - 1 else n := by
    cases hf : (f key).isSome <;> simp [hf] at hsd ⊢ <;> omega
  refine ⟨w', hrun, ⟨D.del kl, ?_, hsz, ?_⟩, r2⟩
  · obtain ⟨es, clock, q1, q2, q3, q4⟩ := r1
    have : Maps.size (D.del kl) = es.size := by rw [q4]; simp [Maps.size, length_sorted]
    exact ⟨es, clock, q1, q2, by omega, q4⟩
  · intro x lx hx
    by_cases hxk : x = key
    · subst hxk
      rw [hk] at hx
      cases hx
      rw [hg]
      exact ⟨Maps.has_del_same, fun v hv => by cases hv⟩
    · have hne := ne_of_key K hx hk hxk
      rw [hg' x hxk, Maps.has_del_other hne]
      exact ⟨(h3 x lx hx).1, fun v hv zd => by rw [Maps.atKey_del_other hne]; exact (h3 x lx hx).2 v hv zd⟩
end

theorem turned_size {w w' : World} {b : Nat} (h : w.mapTurned w' b) : w'.heap.size = w.heap.size := by
  obtain ⟨_, _, _, _, _, rfl⟩ := h
  simp [setBlock]
theorem turned_keeps {S : Nat → Prop} {w w' : World} {b : Nat} (h : w.mapTurned w' b) (hS : S b) : Keeps S w w' := Keeps.of_grown h.grown (fun x e => by cases e; exact hS)
theorem turned_block {w w' : World} {b : Nat} (h : w.mapTurned w' b) {c : Nat} (hc : c ≠ b) : w'.heap[c]? = w.heap[c]? := by
  obtain ⟨_, _, _, _, hb, rfl⟩ := h
  exact heap_setBlock_other hb _ hc
/-- Of w block b alone has turned, and nothing is new. -/
def Turned (w w' : World) (b : Nat) : Prop := w'.heap.size = w.heap.size ∧ Keeps (fun x => x = b) w w'
theorem Turned.of {w w' : World} {b : Nat} (h : w.mapTurned w' b) : Turned w w' b := ⟨turned_size h, turned_keeps h rfl⟩
theorem Turned.of_drew {w w' : World} {b : Nat} (h : w.drew.mapTurned w' b) : Turned w w' b := ⟨(turned_size (w := w.drew) h : _), have k := turned_keeps (w := w.drew) (S := fun x => x = b) h rfl; ⟨k.os, k.tape, k.output, k.size, k.block⟩⟩
theorem Turned.block {w w' : World} {b : Nat} (h : Turned w w' b) {c : Nat} (hc : c ≠ b) : w'.heap[c]? = w.heap[c]? := by
  by_cases hlt : c < w.heap.size
  · exact h.2.block c hlt hc
  · rw [Array.getElem?_eq_none (by have := h.1; omega), Array.getElem?_eq_none (by omega)]
theorem Turned.cell {w w' : World} {b : Nat} (h : Turned w w' b) {a : Addr} (ha : a.block ≠ b) : w'.cell? a = w.cell? a := World.cell?_of_block (h.block ha)
theorem Turned.free {w w' : World} {b : Nat} (h : Turned w w' b) {a : Addr} (ha : a.block ≠ b) : w'.frozen? a = w.frozen? a := World.frozen?_of_block (h.block ha)
end Go.Proofs.YtifmifjbebpomaaGreatDoor
/- How a world of the program lies in memory, and what it is as plain data. -/
namespace Go.Proofs.YtifmifjbebpomaaGreatDoor
open Go.RowKit Go.ChangeMaps Go.MapKept
open Go.Maps (Keyed)

/-- A value as plain data. -/
structure Val where
  kind : Int
  n : Int
  s : ByteArray
  l : List Val
  r : Int

/-- A slice whose elements, five cells each, are these values, all of it in the blocks F (of whatever type these blocks are). -/
inductive SlAt (w : World) (F : Nat → Prop) : Value → List Val → Prop
  | mk (pa : Option Addr) (c : Nat) (l : List Val) (raw : Nat → Value) (hcp : l.length ≤ c ∧ (pa = none → c = 0))
      (h : ∀ (i : Nat) (v : Val), l[i]? = some v → ∃ b o, pa = some ⟨b, o, none⟩ ∧ F b ∧ w.cell? ⟨b, o + 5 * i, none⟩ = some (.int .u8 v.kind) ∧
        w.cell? ⟨b, o + 5 * i + 1, none⟩ = some (.int .i64 v.n) ∧ w.cell? ⟨b, o + 5 * i + 2, none⟩ = some (.string v.s) ∧ w.cell? ⟨b, o + 5 * i + 3, none⟩ = some (raw i) ∧ w.cell? ⟨b, o + 5 * i + 4, none⟩ = some (.int .i64 v.r))
      (hr : ∀ (i : Nat) (v : Val), l[i]? = some v → SlAt w F (raw i) v.l) : SlAt w F (.slice pa l.length c) l

/-- The types of what lies in lists. -/
def deepTy (e : Nat) : Bool := e == 29 || e == 223 || e == 220 || e == 180 || e == 9
/-- Whatever list lies in F is as it was. -/
def Lists (F : Nat → Prop) (w w' : World) : Prop := ∀ b cs e fr, F b → w.heap[b]? = some (.cells cs e fr) → deepTy e = true → w'.heap[b]? = w.heap[b]?
theorem Lists.of {F : Nat → Prop} {w w' : World} (h : ∀ b, F b → w'.heap[b]? = w.heap[b]?) : Lists F w w' := fun b _ _ _ hF _ _ => h b hF
theorem SlAt.of_blocks {w w' : World} {F F' : Nat → Prop} {s : Value} {l : List Val} (h : SlAt w F s l) (hb : ∀ b, F b → w'.heap[b]? = w.heap[b]?) (hF : ∀ b, F b → F' b) : SlAt w' F' s l := by
  induction h with
  | mk pa c l raw hcp h hr ih =>
    refine .mk pa c l raw hcp (fun i v hv => ?_) ih
    obtain ⟨b, o, h1, h2, h4, h5, h6, h7, h8⟩ := h i v hv
    have e := hb b h2
    exact ⟨b, o, h1, hF b h2, (World.cell?_of_block (a := ⟨b, o + 5 * i, none⟩) e).trans h4, (World.cell?_of_block (a := ⟨b, o + 5 * i + 1, none⟩) e).trans h5,
      (World.cell?_of_block (a := ⟨b, o + 5 * i + 2, none⟩) e).trans h6, (World.cell?_of_block (a := ⟨b, o + 5 * i + 3, none⟩) e).trans h7, (World.cell?_of_block (a := ⟨b, o + 5 * i + 4, none⟩) e).trans h8⟩
theorem SlAt.nil (w : World) (F : Nat → Prop) (pa : Option Addr) (c : Nat) (h : pa = none → c = 0 := by simp) : SlAt w F (.slice pa 0 c) [] :=
  .mk pa c [] (fun _ => undef) ⟨Nat.zero_le _, h⟩ (fun i v h => by simp at h) (fun i v h => by simp at h)
/-- A slice of values at the head of a block of values, all of it in blocks of F that may be written over. -/
inductive SlT (w : World) (F : Nat → Prop) : Value → List Val → Prop
  | zero (pa : Option Addr) (c : Nat) (h0 : pa = none → c = 0) : SlT w F (.slice pa 0 c) []
  | mk (b c : Nat) (cs : Array Value) (l : List Val) (raw : Nat → Value) (hcp : l.length ≤ c) (hF : F b) (hb : w.heap[b]? = some (.cells cs 29 (0, 0)))
      (h : ∀ (i : Nat) (v : Val), l[i]? = some v → cs[5 * i]? = some (.int .u8 v.kind) ∧ cs[5 * i + 1]? = some (.int .i64 v.n) ∧ cs[5 * i + 2]? = some (.string v.s) ∧ cs[5 * i + 3]? = some (raw i) ∧ cs[5 * i + 4]? = some (.int .i64 v.r))
      (hr : ∀ (i : Nat) (v : Val), l[i]? = some v → SlT w F (raw i) v.l) : SlT w F (.slice (some ⟨b, 0, none⟩) l.length c) l
theorem SlT.of_blocks {w w' : World} {F F' : Nat → Prop} {s : Value} {l : List Val} (h : SlT w F s l) (hb : Lists F w w') (hF : ∀ b, F b → F' b) : SlT w' F' s l := by
  induction h with
  | zero pa c h0 => exact .zero pa c h0
  | mk b c cs l raw hcp hFb hbk h hr ih => exact .mk b c cs l raw hcp (hF b hFb) ((hb b cs _ _ hFb hbk (by simp [deepTy])).trans hbk) h ih
theorem SlT.nil (w : World) (F : Nat → Prop) (pa : Option Addr) (c : Nat) (h : pa = none → c = 0 := by simp) : SlT w F (.slice pa 0 c) [] := .zero pa c h

/-- What a thing has: its cells, lists as the slices that they are, with what is in them. -/
structure Th where
  kind : Int
  home : Int
  v : Val
  vl : Value
  vs : List Val
  vals : Value
  n : Int
  lost : Int
  tgt : Int
  bi : Int
  set : Int
  full : Bool
  code : Value
  names : Value

def thc (t : Th) : Array Value :=
  #[.int .u8 t.kind, .int .i64 t.home, .int .u8 t.v.kind, .int .i64 t.v.n, .string t.v.s, t.vl, .int .i64 t.v.r, t.vals, .int .i64 t.n, .int .i64 t.lost, .int .i64 t.tgt, .int .i64 t.bi, .int .u8 t.set, .bool t.full, t.code, t.names]

structure WM where
  parents : List Int
  cuts : List Bool
  things : List (Int × Th)
  last : Int
  made : List Int

def WM.at (M : WM) (r : Int) : Option Th := M.things.lookup r
def WM.find (M : WM) (t s : Int) : Option Int := (M.things.find? (fun x => x.2.kind == 14 && x.2.tgt == t && x.2.set == s)).map (·.1)
def wrapsB (k : Int) : Bool := k == 14 || k == 15 || k == 16

/-- A thing's numbers lie in their kinds' ranges. -/
structure Th.wf (t : Th) : Prop where
  kind : 1 ≤ t.kind ∧ t.kind ≤ 16
  tgt : (Lit.int .i64 t.tgt).wf = true
  bi : (Lit.int .i64 t.bi).wf = true
  set : 0 ≤ t.set ∧ t.set ≤ 255

structure WM.ok (M : WM) : Prop where
  sides : M.parents.length < 16
  cuts : M.cuts.length = M.parents.length + 1
  made : M.made.length = M.parents.length + 1
  tree : ∀ (i : Nat) (p : Int), M.parents[i]? = some p → 0 ≤ p ∧ p ≤ i
  keys : M.things.Pairwise (fun x y => x.1 < y.1)
  range : ∀ x ∈ M.things, 0 < x.1 ∧ x.1 ≤ M.last
  last : 0 ≤ M.last ∧ M.last ≤ 1099511627776
  mades : ∀ (i : Nat) (x : Int), M.made[i]? = some x → 0 ≤ x ∧ x ≤ 512
  wf : ∀ r t, M.at r = some t → t.wf
  homes : ∀ r t, M.at r = some t → t.kind ≠ 14 → 0 ≤ t.home ∧ t.home < M.made.length
  wrap : ∃ rk : Int → Nat, (∀ r, rk r ≤ M.last.toNat) ∧ ∀ r t, M.at r = some t → wrapsB t.kind = true → (∃ u, M.at t.tgt = some u) ∧ rk t.tgt < rk r
  gate : ∀ r t, M.at r = some t → t.kind = 15 → ∃ u, M.at t.bi = some u ∧ u.kind = 13
  purse : ∀ r t, M.at r = some t → t.kind = 9 → ∃ u, M.at t.tgt = some u ∧ u.kind = 8
  facet : ∀ r t r' t', M.at r = some t → M.at r' = some t' → t.kind = 14 → t'.kind = 14 → t.tgt = t'.tgt → t.set = t'.set → r = r'

/-- The deep part of a thing: its lists. (No code, no names.) -/
structure Deep (w : World) (F : Nat → Prop) (t : Th) : Prop where
  v : SlT w F t.vl t.v.l
  vs : SlT w F t.vals t.vs
  code : t.code = .slice none 0 0
  names : t.names = .slice none 0 0
theorem Deep.of_blocks {w w' : World} {F F' : Nat → Prop} {t : Th} (h : Deep w F t) (hb : Lists F w w') (hF : ∀ b, F b → F' b) : Deep w' F' t :=
  ⟨h.v.of_blocks hb hF, h.vs.of_blocks hb hF, h.code, h.names⟩

def thf (M : WM) (bl : Int → Nat) (key : Value) : Option Value :=
  match key with
  | .int .i64 r => (M.at r).map fun _ => .pointer (some ⟨bl r, 0, none⟩)
  | _ => none
def fkey (t s : Int) : Value := .agg #[.int .i64 t, .int .u8 s]
def faf (M : WM) (key : Value) : Option Value :=
  match key with
  | .agg cs => (match cs.toList with | [.int .i64 t, .int .u8 s] => (M.find t s).map (Value.int .i64) | _ => none)
  | _ => none

/-- A row of one-cell elements of the world's own. -/
def Row (w : World) (g : Nat) (e : TypeId) (cap : Nat) (xs : List Value) : Prop :=
  ∃ cur : Array Value, w.heap[g]? = some (.cells cur e (0, 0)) ∧ cur.size = cap ∧ xs.length ≤ cap ∧ cap ≤ maxLen ∧ ∀ (j : Nat) (x : Value), xs[j]? = some x → cur[j]? = some x

structure WV (w : World) (p : Nat) (M : WM) (F : Nat → Prop) (pa : Option Addr) (pc cg cc mg mc tb fb fn : Nat) (bl : Int → Nat) : Prop where
  hp : w.heap[p]? = some (.cells #[.slice pa M.parents.length pc, .slice (some ⟨cg, 0, none⟩) M.cuts.length cc, .map (some tb), .map (some fb), .int .i64 M.last, .slice (some ⟨mg, 0, none⟩) M.made.length mc] 38 (0, 0))
  pars : ∀ (j : Nat) (x : Int), M.parents[j]? = some x → ∃ b o, pa = some ⟨b, o, none⟩ ∧ F b ∧ (∃ cs fr, w.heap[b]? = some (.cells cs 23 fr)) ∧ w.cell? ⟨b, o + j, none⟩ = some (.int .i64 x)
  cut : Row w cg 4 cc (M.cuts.map Value.bool)
  mad : Row w mg 3 mc (M.made.map (Value.int .i64))
  things : HasMap Tryz.prog 24 w tb (thf M bl) M.things.length
  facets : HasMap Tryz.prog 190 w fb (faf M) fn
  fnle : (fn : Int) ≤ M.last
  blk : ∀ r t, M.at r = some t → w.heap[bl r]? = some (.cells (thc t) 73 (0, 0)) ∧ F (bl r) ∧ Deep w F t
  inj : ∀ r r' t t', M.at r = some t → M.at r' = some t' → bl r = bl r' → r = r'
  own : F p ∧ F cg ∧ F mg ∧ F tb ∧ F fb
  tf : tb ≠ fb
  lt : ∀ b, F b → b < w.heap.size
  ok : M.ok

/-- Block p is a world that has M; what it owns is F. -/
def IsW (w : World) (p : Nat) (M : WM) (F : Nat → Prop) : Prop := ∃ pa pc cg cc mg mc tb fb fn bl, WV w p M F pa pc cg cc mg mc tb fb fn bl

theorem Row.of_block {w w' : World} {g : Nat} {e : TypeId} {cap : Nat} {xs : List Value} (h : Row w g e cap xs) (hb : w'.heap[g]? = w.heap[g]?) : Row w' g e cap xs := by
  obtain ⟨cur, h1, r⟩ := h
  exact ⟨cur, hb.trans h1, r⟩
theorem Row.cell {w : World} {g : Nat} {e : TypeId} {cap : Nat} {xs : List Value} (h : Row w g e cap xs) {j : Nat} {x : Value} (hx : xs[j]? = some x) : w.cell? ⟨g, j, none⟩ = some x := by
  obtain ⟨cur, h1, _, _, _, h2⟩ := h
  rw [cell_blk h1]
  exact h2 j x hx
theorem Row.free {w : World} {g : Nat} {e : TypeId} {cap : Nat} {xs : List Value} (h : Row w g e cap xs) (j : Nat) : w.frozen? ⟨g, j, none⟩ = false := by
  obtain ⟨cur, h1, _⟩ := h
  exact frozen_blk h1 j
theorem Row.set {w : World} {g : Nat} {e : TypeId} {cap : Nat} {xs : List Value} (h : Row w g e cap xs) (j : Nat) (v : Value) : Row (w.setCell ⟨g, j, none⟩ v) g e cap (xs.set j v) := by
  obtain ⟨cur, h1, h2, h3, h4, h5⟩ := h
  refine ⟨_, blk_setCell h1 j v, by simpa using h2, by simpa using h3, h4, fun i x hx => ?_⟩
  rw [List.getElem?_set] at hx
  rw [Array.getElem?_setIfInBounds]
  split at hx
  · rename_i e1
    subst e1
    split at hx
    · rename_i hlt
      rw [if_pos rfl, if_pos (by omega)]
      exact hx
    · cases hx
  · rename_i e1
    rw [if_neg e1]
    exact h5 i x hx

section
variable {w : World} {p : Nat} {M : WM} {F : Nat → Prop} {pa : Option Addr} {pc cg cc mg mc tb fb fn : Nat} {bl : Int → Nat}

theorem WV.of_blocks {w' : World} (h : WV w p M F pa pc cg cc mg mc tb fb fn bl) (hsz : w.heap.size ≤ w'.heap.size) (hb : ∀ b, F b → w'.heap[b]? = w.heap[b]?) : WV w' p M F pa pc cg cc mg mc tb fb fn bl where
  hp := (hb p h.own.1).trans h.hp
  pars j x hx := by
    obtain ⟨b, o, h1, h2, ⟨cs, fr, h3⟩, h4⟩ := h.pars j x hx
    exact ⟨b, o, h1, h2, ⟨cs, fr, (hb b h2).trans h3⟩, (World.cell?_of_block (hb b h2)).trans h4⟩
  cut := h.cut.of_block (hb cg h.own.2.1)
  mad := h.mad.of_block (hb mg h.own.2.2.1)
  things := h.things.of_block (hb tb h.own.2.2.2.1)
  facets := h.facets.of_block (hb fb h.own.2.2.2.2)
  fnle := h.fnle
  blk r t ht := by
    obtain ⟨h1, h2, h3⟩ := h.blk r t ht
    exact ⟨(hb _ h2).trans h1, h2, h3.of_blocks (Lists.of hb) fun _ h => h⟩
  inj := h.inj
  own := h.own
  tf := h.tf
  lt b hF := Nat.lt_of_lt_of_le (h.lt b hF) hsz
  ok := h.ok

theorem WV.keeps {w' : World} {S : Nat → Prop} (h : WV w p M F pa pc cg cc mg mc tb fb fn bl) (k : Keeps S w w') (hS : ∀ b, F b → ¬ S b) : WV w' p M F pa pc cg cc mg mc tb fb fn bl :=
  h.of_blocks k.size fun b hF => k.block b (h.lt b hF) (hS b hF)
theorem WV.below {w' : World} (h : WV w p M F pa pc cg cc mg mc tb fb fn bl) (k : Below w.heap.size w w') : WV w' p M F pa pc cg cc mg mc tb fb fn bl :=
  h.of_blocks k.size fun b hF => k.block b (h.lt b hF)
theorem IsW.below {w' : World} (h : IsW w p M F) (k : Below w.heap.size w w') : IsW w' p M F := by
  obtain ⟨pa, pc, cg, cc, mg, mc, tb, fb, fn, bl, h⟩ := h
  exact ⟨pa, pc, cg, cc, mg, mc, tb, fb, fn, bl, h.below k⟩
theorem IsW.keeps {w' : World} {S : Nat → Prop} (h : IsW w p M F) (k : Keeps S w w') (hS : ∀ b, F b → ¬ S b) : IsW w' p M F := by
  obtain ⟨pa, pc, cg, cc, mg, mc, tb, fb, fn, bl, h⟩ := h
  exact ⟨pa, pc, cg, cc, mg, mc, tb, fb, fn, bl, h.keeps k hS⟩
theorem IsW.lt (h : IsW w p M F) : ∀ b, F b → b < w.heap.size := by
  obtain ⟨pa, pc, cg, cc, mg, mc, tb, fb, fn, bl, h⟩ := h
  exact h.lt
theorem IsW.ok (h : IsW w p M F) : M.ok := by
  obtain ⟨pa, pc, cg, cc, mg, mc, tb, fb, fn, bl, h⟩ := h
  exact h.ok
theorem IsW.own (h : IsW w p M F) : F p := by
  obtain ⟨pa, pc, cg, cc, mg, mc, tb, fb, fn, bl, h⟩ := h
  exact h.own.1
theorem WV.c0 (h : WV w p M F pa pc cg cc mg mc tb fb fn bl) : w.cell? ⟨p, 0, none⟩ = some (.slice pa M.parents.length pc) := by rw [cell_blk h.hp]; rfl
theorem WV.c1 (h : WV w p M F pa pc cg cc mg mc tb fb fn bl) : w.cell? ⟨p, 1, none⟩ = some (.slice (some ⟨cg, 0, none⟩) M.cuts.length cc) := by rw [cell_blk h.hp]; rfl
theorem WV.c2 (h : WV w p M F pa pc cg cc mg mc tb fb fn bl) : w.cell? ⟨p, 2, none⟩ = some (.map (some tb)) := by rw [cell_blk h.hp]; rfl
theorem WV.c3 (h : WV w p M F pa pc cg cc mg mc tb fb fn bl) : w.cell? ⟨p, 3, none⟩ = some (.map (some fb)) := by rw [cell_blk h.hp]; rfl
theorem WV.c4 (h : WV w p M F pa pc cg cc mg mc tb fb fn bl) : w.cell? ⟨p, 4, none⟩ = some (.int .i64 M.last) := by rw [cell_blk h.hp]; rfl
theorem WV.c5 (h : WV w p M F pa pc cg cc mg mc tb fb fn bl) : w.cell? ⟨p, 5, none⟩ = some (.slice (some ⟨mg, 0, none⟩) M.made.length mc) := by rw [cell_blk h.hp]; rfl
theorem WV.fr (h : WV w p M F pa pc cg cc mg mc tb fb fn bl) (i : Nat) : w.frozen? ⟨p, i, none⟩ = false := frozen_blk h.hp i
end

theorem keyedRef : Keyed Tryz.prog 24 := Maps.int_keyed Tryz.underlying24
theorem Tryz.laidOut : laidOutB Tryz.prog = true := by kernel_rfl
theorem Tryz.rowFKey : (190 : TypeId) < Tryz.prog.types.size := of_decide_eq_true (by kernel_rfl)
theorem keyedFKey : Keyed Tryz.prog 190 := Keyed.of_law (deep_law_laid Tryz.laidOut (m := 2) (by omega) Tryz.rowFKey (by kernel_rfl) (by
  have h := Tryz.underlying190
  generalize Tryz.prog.underlying 190 = x at h ⊢
  subst h
  rfl))
theorem zeroPWhat (w : World) : (zeroValue 122).run Tryz.prog w = .ok (.pointer none) w := by kernel_rfl
theorem zeroRef (w : World) : (zeroValue 24).run Tryz.prog w = .ok (.int .i64 0) w := by kernel_rfl
theorem key_ref {r : Int} (h : (Lit.int .i64 r).wf = true) : keyOf Tryz.prog 24 (.int .i64 r) = some (.int .i64 r) := Maps.keyOf_int_mk Tryz.underlying24 h

theorem Tryz.fkeyType : Tryz.prog.keyType 190 = true := by kernel_rfl
theorem Tryz.fkeyCells : Tryz.prog.cellsOf 190 = 2 := by kernel_rfl
theorem Tryz.refCells : Tryz.prog.cellsOf 24 = 1 := by kernel_rfl
theorem Tryz.ableCells : Tryz.prog.cellsOf 25 = 1 := by kernel_rfl
theorem keyLits_f {t s : Int} (ht : (Lit.int .i64 t).wf = true) (hs : (Lit.int .u8 s).wf = true) (m : Nat) : Tryz.prog.keyLits (m + 2) 190 (fkey t s).cells.toList = some [.int .i64 t, .int .u8 s] := by
  simp [fkey, Value.cells, Program.keyLits, Tryz.underlying190, Tryz.fkeyCells, Tryz.underlying24, Tryz.underlying25, Tryz.refCells, Tryz.ableCells, ht, hs]
theorem Tryz.typesSize : ∃ m, Tryz.prog.types.size = m + 1 := ⟨_, (Nat.sub_add_cancel (Nat.le_trans (by omega) Tryz.rowFKey)).symm⟩
theorem key_f {t s : Int} (ht : (Lit.int .i64 t).wf = true) (hs : (Lit.int .u8 s).wf = true) : ∃ kl, keyOf Tryz.prog 190 (fkey t s) = some kl := by
  obtain ⟨m, hm⟩ := Tryz.typesSize
  have hform : (fkey t s).formed Tryz.prog 190 = true := by
    simp [fkey, Value.formed, Tryz.underlying190, Tryz.fkeyCells]
  have hl := keyLits_f ht hs m
  have hk := Tryz.fkeyType
  have hu := Tryz.underlying190
  unfold keyOf
  rw [hm]
  generalize Tryz.prog.underlying 190 = x at hu ⊢
  subst hu
  generalize Tryz.prog.keyLits (m + 2) 190 (fkey t s).cells.toList = y at hl
  subst hl
  generalize Tryz.prog.keyType 190 = u at hk ⊢
  subst hk
  generalize (fkey t s).formed Tryz.prog 190 = v at hform ⊢
  subst hform
  exact ⟨_, rfl⟩
theorem infoRef : (Tryz.prog.info? 24).map (fun i => (i.zero, i.size, i.bytes)) = some (some (.int .i64 0), 1, 8) := by kernel_rfl
/-- A list of references that a call makes grows by one. -/
theorem append_ref {w : World} {ops : Array Oper} {rest : List Oper} {o : Oper} {a : Act} {Q : Exit → Act → World → Prop} (hgd : o.guard = none) (s x : Operand)
    (ho : o.op = .call { callee := .builtin .append, args := #[s, x], argTypes := #[112, 112] }) (base : Nat)
    (v : Value) (l : List Int) (hs : a.eval s = v) (hown : w.ownsRow base 24 1 v l.length (l.map (Value.int .i64))) (y : Int) (hx : a.eval x = .slice (some ⟨w.heap.size, 0, none⟩) 1 1)
    (hn : Hid ((l.length : Int) ≤ 1099511627777)) (hbase : base ≤ w.heap.size)
    (h : ∀ v' w', w'.ownsRow base 24 1 v' (l ++ [y]).length ((l ++ [y]).map (Value.int .i64)) → w.grownBy w' v.ownBlock → Below base w w' → wpList Tryz.prog ops Q rest (a.put o.dst v') w') : wpList Tryz.prog ops Q (o :: rest) a (w.alloc (.cells #[.int .i64 y] 24)) :=
  append_one hgd s x 112 ho base 24 (.int .i64 0) 8 Tryz.underlying112 infoRef rfl v l.length _ hs hown (.int .i64 y) hx rfl hn.out (by decide) hbase fun v' w' r1 r2 r3 => h v' w' (by simpa using r1) r2 r3
section
variable {w : World} {p : Nat} {M : WM} {F : Nat → Prop} {pa : Option Addr} {pc cg cc mg mc tb fb fn : Nat} {bl : Int → Nat}
theorem WV.find_ok (h : WV w p M F pa pc cg cc mg mc tb fb fn bl) {t s : Int} (ht : (Lit.int .i64 t).wf = true) (hs : (Lit.int .u8 s).wf = true) :
    (Instr.lookup 35 (.map (some fb)) (.agg #[.int .i64 t, .int .u8 s]) true).run Tryz.prog w = .ok (.tuple #[.int .i64 ((M.find t s).getD 0), .bool (M.find t s).isSome]) w := by
  obtain ⟨kl, hk⟩ := key_f ht hs
  have := h.facets.look_ok keyedFKey Tryz.underlying35 (zeroRef w) hk
  simp only [fkey] at this
  rw [this]
  cases ha : M.find t s <;> simp [faf, ha]
theorem WV.look (h : WV w p M F pa pc cg cc mg mc tb fb fn bl) {r : Int} (hr : (Lit.int .i64 r).wf = true) :
    (Instr.lookup 34 (.map (some tb)) (.int .i64 r) false).run Tryz.prog w = .ok (.pointer ((M.at r).map fun _ => ⟨bl r, 0, none⟩)) w := by
  have := h.things.look keyedRef Tryz.underlying34 (zeroPWhat w) (key_ref hr)
  rw [this]
  cases ha : M.at r <;> simp [thf, ha]
end

@[go_sem] theorem eqMThings (w : World) (r : Option Nat) : (binOp .eql 34 (.map r) (.map none)).run Tryz.prog w = .ok (.bool r.isNone) w := run_eql_map_nil w _ _ _ r Tryz.underlying34
@[go_sem] theorem eqnil_LValue (w : World) (a : Option Addr) (n c n' c' : Nat) : (binOp .eql 27 (.slice a n c) (.slice none n' c')).run Tryz.prog w = .ok (.bool a.isNone) w := Lib.run_eql_slice_nil w _ _ a n c n' c' Tryz.underlying27
@[go_sem] theorem eqnil_LName (w : World) (a : Option Addr) (n c n' c' : Nat) : (binOp .eql 71 (.slice a n c) (.slice none n' c')).run Tryz.prog w = .ok (.bool a.isNone) w := Lib.run_eql_slice_nil w _ _ a n c n' c' Tryz.underlying71
@[go_sem] theorem eqnil_LStmt (w : World) (a : Option Addr) (n c n' c' : Nat) : (binOp .eql 70 (.slice a n c) (.slice none n' c')).run Tryz.prog w = .ok (.bool a.isNone) w := Lib.run_eql_slice_nil w _ _ a n c n' c' Tryz.underlying70
@[go_sem] theorem eqnil_LSide (w : World) (a : Option Addr) (n c n' c' : Nat) : (binOp .eql 32 (.slice a n c) (.slice none n' c')).run Tryz.prog w = .ok (.bool a.isNone) w := Lib.run_eql_slice_nil w _ _ a n c n' c' Tryz.underlying32
@[go_sem] theorem eqnil_Lint (w : World) (a : Option Addr) (n c n' c' : Nat) : (binOp .eql 36 (.slice a n c) (.slice none n' c')).run Tryz.prog w = .ok (.bool a.isNone) w := Lib.run_eql_slice_nil w _ _ a n c n' c' Tryz.underlying36
@[go_sem] theorem eqnil_Lbool (w : World) (a : Option Addr) (n c n' c' : Nat) : (binOp .eql 33 (.slice a n c) (.slice none n' c')).run Tryz.prog w = .ok (.bool a.isNone) w := Lib.run_eql_slice_nil w _ _ a n c n' c' Tryz.underlying33
end Go.Proofs.YtifmifjbebpomaaGreatDoor
