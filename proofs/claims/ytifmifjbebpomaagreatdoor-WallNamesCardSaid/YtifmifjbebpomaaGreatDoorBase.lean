/- Ground for the walks: what a world keeps, maps read as functions of their keys. No program in sight. -/
import Derived.WalkKit
import Derived.WalkLawsBesides
import Derived.WalkSpells
import Derived.Handy
import Derived.Outline
import Derived.Maps.RangeWalk
import Derived.Maps.OwnOps
import Derived.DeepKeys4
namespace Go.Proofs.YtifmifjbebpomaaGreatDoor
open Go.RowKit Go.ChangeMaps Go.MapKept
open Go.WideElems (Fit rd rg pl rd_val elemAt)
open Go.Maps (Keyed)

/-- Outside S nothing that was there has turned. -/
structure Keeps (S : Nat → Prop) (w w' : World) : Prop where
  os : w'.os = w.os
  tape : w'.tape = w.tape
  output : w'.output = w.output
  size : w.heap.size ≤ w'.heap.size
  block : ∀ b, b < w.heap.size → ¬ S b → w'.heap[b]? = w.heap[b]?

theorem Keeps.refl (S : Nat → Prop) (w : World) : Keeps S w w := ⟨rfl, rfl, rfl, Nat.le_refl _, fun _ _ _ => rfl⟩
theorem Keeps.trans {S S' T : Nat → Prop} {a b c : World} (h : Keeps S a b) (k : Keeps S' b c) (h1 : ∀ x, x < a.heap.size → S x → T x) (h2 : ∀ x, x < a.heap.size → S' x → T x) : Keeps T a c :=
  ⟨k.os.trans h.os, k.tape.trans h.tape, k.output.trans h.output, Nat.le_trans h.size k.size, fun x hx hT =>
    (k.block x (Nat.lt_of_lt_of_le hx h.size) (fun e => hT (h2 x hx e))).trans (h.block x hx (fun e => hT (h1 x hx e)))⟩
theorem Keeps.mono {S T : Nat → Prop} {a b : World} (h : Keeps S a b) (h1 : ∀ x, x < a.heap.size → S x → T x) : Keeps T a b := h.trans (Keeps.refl S b) h1 h1
theorem Keeps.of_below {S : Nat → Prop} {a b : World} (h : Below a.heap.size a b) : Keeps S a b := ⟨h.os, h.tape, h.output, h.size, fun x hx _ => h.block x hx⟩
theorem Keeps.below {S : Nat → Prop} {a b : World} {B : Nat} (h : Keeps S a b) (hB : B ≤ a.heap.size) (hS : ∀ x, S x → B ≤ x) : Below B a b :=
  ⟨h.os, h.tape, h.output, h.size, fun x hx => h.block x (by omega) (fun e => by have := hS x e; omega)⟩
theorem Keeps.of_grown {S : Nat → Prop} {a b : World} {row : Option Nat} (h : a.grownBy b row) (hS : ∀ x, row = some x → S x) : Keeps S a b :=
  ⟨h.os, h.tape, h.output, h.size, fun x hx hn => h.block x hx (fun e => hn (hS x e.symm))⟩
theorem Keeps.setCell {S : Nat → Prop} (w : World) (a : Addr) (v : Value) (h : S a.block) : Keeps S w (w.setCell a v) :=
  ⟨rfl, rfl, rfl, by simp [World.setCell], fun x _ hn => Below.heap_setCell _ _ _ _ (fun e => hn (e ▸ h))⟩
theorem Keeps.drew {S : Nat → Prop} {a b : World} (h : Keeps S a b) : Keeps S a b.drew := ⟨h.os, h.tape, h.output, h.size, h.block⟩
theorem Below.keeps {S : Nat → Prop} {a b c : World} (h : Below a.heap.size a b) (k : Keeps S b c) : Keeps S a c := (Keeps.of_below (S := S) h).trans k (fun _ _ h => h) (fun _ _ h => h)
theorem Keeps.then_below {S : Nat → Prop} {a b c : World} (h : Keeps S a b) (k : Below b.heap.size b c) : Keeps S a c := h.trans (Keeps.of_below (S := S) k) (fun _ _ h => h) (fun _ _ h => h)
theorem below_trans {a b c : World} (h : Below a.heap.size a b) (k : Below b.heap.size b c) : Below a.heap.size a c := h.trans (k.mono h.size)

theorem cell_blk {w : World} {b : Nat} {cs : Array Value} {e : TypeId} {fr : Nat × Nat} (h : w.heap[b]? = some (.cells cs e fr)) (i : Nat) : w.cell? ⟨b, i, none⟩ = cs[i]? := by
  simp [World.cell?, h]
theorem frozen_blk {w : World} {b : Nat} {cs : Array Value} {e : TypeId} (h : w.heap[b]? = some (.cells cs e (0, 0))) (i : Nat) : w.frozen? ⟨b, i, none⟩ = false := by
  simp [World.frozen?, h]
theorem blk_lt {w : World} {b : Nat} {o : Obj} (h : w.heap[b]? = some o) : b < w.heap.size := (Array.getElem?_eq_some_iff.1 h).1
theorem blk_setCell {w : World} {b : Nat} {cs : Array Value} {e : TypeId} {fr : Nat × Nat} (h : w.heap[b]? = some (.cells cs e fr)) (i : Nat) (v : Value) : (w.setCell ⟨b, i, none⟩ v).heap[b]? = some (.cells (cs.setIfInBounds i v) e fr) := by
  simp [World.setCell, Array.getElem?_modify, h]
theorem blk_new (w : World) (o : Obj) : (w.alloc o).heap[w.heap.size]? = some o := heap_alloc_new w o
theorem blk_old (w : World) (o : Obj) {b : Nat} {x : Obj} (h : w.heap[b]? = some x) : (w.alloc o).heap[b]? = some x := (Below.heap_alloc w o b (blk_lt h)).trans h
theorem blk_other {w : World} {b : Nat} {x : Obj} (h : w.heap[b]? = some x) (a : Addr) (v : Value) (hne : b ≠ a.block) : (w.setCell a v).heap[b]? = some x := (Below.heap_setCell w a v b hne).trans h

theorem cell_al {w : World} {a : Addr} {v : Value} (h : w.cell? a = some v) (o : Obj) : (w.alloc o).cell? a = some v :=
  (World.cell?_of_block (Below.heap_alloc w o a.block (World.block_lt_of_cell? w a h))).trans h

theorem cells5 {w : World} {b : Nat} {e : TypeId} {v0 v1 v2 v3 v4 : Value} (h : w.heap[b]? = some (.cells #[v0, v1, v2, v3, v4] e (0, 0))) :
    (w.cell? ⟨b, 0, none⟩ = some v0 ∧ w.cell? ⟨b, 1, none⟩ = some v1 ∧ w.cell? ⟨b, 2, none⟩ = some v2 ∧ w.cell? ⟨b, 3, none⟩ = some v3 ∧ w.cell? ⟨b, 4, none⟩ = some v4) ∧
    (w.frozen? ⟨b, 0, none⟩ = false ∧ w.frozen? ⟨b, 1, none⟩ = false ∧ w.frozen? ⟨b, 2, none⟩ = false ∧ w.frozen? ⟨b, 3, none⟩ = false ∧ w.frozen? ⟨b, 4, none⟩ = false) :=
  ⟨⟨by rw [cell_blk h]; rfl, by rw [cell_blk h]; rfl, by rw [cell_blk h]; rfl, by rw [cell_blk h]; rfl, by rw [cell_blk h]; rfl⟩, ⟨frozen_blk h 0, frozen_blk h 1, frozen_blk h 2, frozen_blk h 3, frozen_blk h 4⟩⟩
theorem below_blk {W w1 : World} (hb : Below W.heap.size W w1) {b : Nat} {o : Obj} (h : W.heap[b]? = some o) : w1.heap[b]? = some o := (hb.block b (blk_lt h)).trans h
theorem blk2_old (w : World) (A B : Obj) : ((w.alloc A).alloc B).heap[w.heap.size]? = some A := blk_old _ B (blk_new w A)
theorem blk2_new (w : World) (A B : Obj) : ((w.alloc A).alloc B).heap[w.heap.size + 1]? = some B := by
  have := blk_new (w.alloc A) B
  rwa [World.size_alloc] at this

/-- Behind a call that only makes memory: all cells and marks that were there. -/
theorem bcell {W w1 : World} (hb : Below W.heap.size W w1) : (∀ b o, b < W.heap.size → w1.cell? ⟨b, o, none⟩ = W.cell? ⟨b, o, none⟩) ∧ (∀ b o, b < W.heap.size → w1.frozen? ⟨b, o, none⟩ = W.frozen? ⟨b, o, none⟩) :=
  ⟨fun b o h => hb.cell (p := ⟨b, o, none⟩) h, fun b o h => hb.frozen (p := ⟨b, o, none⟩) h⟩

/-- 's = append(s, y)', s the call's own (or nil): the one cell of y has just been laid. -/
theorem append_one {P : Program} {w : World} {ops : Array Oper} {rest : List Oper} {o : Oper} {a : Act} {Q : Exit → Act → World → Prop} (hgd : o.guard = none) (s x : Operand) (t : TypeId)
    (ho : o.op = .call { callee := .builtin .append, args := #[s, x], argTypes := #[t, t] }) (base : Nat) (e : TypeId) (z : Value) (bytes : Nat) (ht : P.underlying t = some (.slice e))
    (hinfo : (P.info? e).map (fun i => (i.zero, i.size, i.bytes)) = some (some z, 1, bytes)) (hzs : z.cells.size = 1)
    (v : Value) (n : Nat) (xs : List Value) (hs : a.eval s = v) (hown : w.ownsRow base e 1 v n xs) (y : Value) (hx : a.eval x = .slice (some ⟨w.heap.size, 0, none⟩) 1 1) (hy : y.oneCell' = true)
    (hn : (n : Int) ≤ 1099511627777) (hb : bytes ≤ 64) (hbase : base ≤ w.heap.size)
    (h : ∀ v' w', w'.ownsRow base e 1 v' (n + 1) (xs ++ [y]) → w.grownBy w' v.ownBlock → Below base w w' → wpList P ops Q rest (a.put o.dst v') w') : wpList P ops Q (o :: rest) a (w.alloc (.cells #[y] e)) := by
  obtain ⟨i, hi, hz, h1, h2⟩ := info_parts hinfo
  have hb2 : (n + 1) * bytes ≤ (n + 1) * 64 := Nat.mul_le_mul_left _ hb
  refine wpList_append_own _ hgd s x t ho base e i z 1 bytes ht hi hz h1 h2 hzs (by decide) v n xs hs (hown.alloc _) ⟨w.heap.size, 0, none⟩ 1 1 [y] hx rfl (cell_one_new _ _ _) (by simp [hy]) (by unfold maxLen; omega) (by omega) (by simp; omega) ?_
  intro v' w' r1 r2 _
  have hg : w.grownBy w' v.ownBlock := (World.grownBy_alloc w _ _).trans r2
  exact h v' w' r1 hg ⟨hg.os, hg.tape, hg.output, hg.size, fun k hk => hg.block k (by omega) (fun e => by have := hown.lt k e.symm; omega)⟩

/-! ### maps, as functions of the key's value -/
/-- How an element reads: as itself. -/
def tokR (v : Value) : Option (DataW Value × List MemPlace) := some (.held v, [])

theorem tokR_inj {v : Value} {d : DataW Value} {ps : List MemPlace} (h : tokR v = some (d, ps)) : d = .held v ∧ ps = [] := by
  simp only [tokR, Option.some.injEq, Prod.mk.injEq] at h
  exact ⟨h.1.symm, h.2.symm⟩

/-- Block b is a map of n entries that has f key at key. -/
def HasMap (P : Program) (k : TypeId) (w : World) (b : Nat) (f : Value → Option Value) (n : Nat) : Prop :=
  ∃ D : DataW Value, w.ownsMap P k tokR b n D ∧ Maps.size D = n ∧
    ∀ key kl, keyOf P k key = some kl → Maps.has D kl = (f key).isSome ∧ ∀ v, f key = some v → ∀ zd, D.atKey kl zd = .held v

section
variable {P : Program} {k : TypeId} {w : World} {b n : Nat} {f : Value → Option Value}

theorem HasMap.lt (h : HasMap P k w b f n) : b < w.heap.size := by
  obtain ⟨D, h, _⟩ := h
  exact h.lt

theorem HasMap.is (h : HasMap P k w b f n) : ∃ es clock, w.heap[b]? = some (.map es clock) := by
  obtain ⟨D, ⟨es, clock, hb, _⟩, _⟩ := h
  exact ⟨es, clock, hb⟩

theorem HasMap.of_block {w' : World} (h : HasMap P k w b f n) (hb : w'.heap[b]? = w.heap[b]?) : HasMap P k w' b f n := by
  obtain ⟨D, ⟨es, clock, hb0, r⟩, r'⟩ := h
  exact ⟨D, ⟨es, clock, hb.trans hb0, r⟩, r'⟩

theorem HasMap.congr (h : HasMap P k w b f n) {g : Value → Option Value} (hg : ∀ key kl, keyOf P k key = some kl → g key = f key) : HasMap P k w b g n := by
  obtain ⟨D, h1, h2, h3⟩ := h
  exact ⟨D, h1, h2, fun key kl hk => by rw [hg key kl hk]; exact h3 key kl hk⟩

theorem HasMap.made (w : World) (P : Program) (k : TypeId) : HasMap P k (w.alloc (.map #[] 0)) w.heap.size (fun _ => none) 0 :=
  ⟨.map [], World.ownsMap_made w P k tokR, rfl, fun _ _ _ => ⟨rfl, fun _ h => by cases h⟩⟩

theorem HasMap.look {t e : TypeId} (h : HasMap P k w b f n) (K : Keyed P k) (ht : P.underlying t = some (.map k e)) {z : Value} (hz : (zeroValue e).run P w = .ok z w) {key : Value} {kl : Lit} (hk : keyOf P k key = some kl) :
    (Instr.lookup t (.map (some b)) key false).run P w = .ok ((f key).getD z) w := by
  obtain ⟨D, h1, _, h3⟩ := h
  obtain ⟨v, ps, hrun, hv⟩ := h1.lookup K ht hz (zd := .held z) (zp := []) rfl hk
  obtain ⟨ha, hb⟩ := h3 key kl hk
  have e1 := (tokR_inj hv).1
  rw [hrun]
  cases hf : f key with
  | some u =>
    rw [hb u hf] at e1
    cases e1
    rfl
  | none =>
    rw [hf] at ha
    rw [Maps.atKey_of_not_has (by simpa using ha)] at e1
    cases e1
    rfl

theorem HasMap.look_ok {t e : TypeId} (h : HasMap P k w b f n) (K : Keyed P k) (ht : P.underlying t = some (.map k e)) {z : Value} (hz : (zeroValue e).run P w = .ok z w) {key : Value} {kl : Lit} (hk : keyOf P k key = some kl) :
    (Instr.lookup t (.map (some b)) key true).run P w = .ok (.tuple #[(f key).getD z, .bool (f key).isSome]) w := by
  obtain ⟨D, h1, _, h3⟩ := h
  obtain ⟨v, ps, hrun, hv⟩ := h1.look_ok K ht hz (zd := .held z) (zp := []) rfl hk
  obtain ⟨ha, hb⟩ := h3 key kl hk
  have e1 := (tokR_inj hv).1
  rw [hrun, ha]
  cases hf : f key with
  | some u =>
    rw [hb u hf] at e1
    cases e1
    rfl
  | none =>
    rw [hf] at ha
    rw [Maps.atKey_of_not_has (by simpa using ha)] at e1
    cases e1
    rfl

theorem HasMap.len {t e : TypeId} (h : HasMap P k w b f n) (ht : P.underlying t = some (.map k e)) (ty : TypeId) : (Builtin.len_ #[t] ty #[.map (some b)]).run P w = .ok (.int .i64 n) w := by
  obtain ⟨D, h1, h2, _⟩ := h
  rw [h1.len ht, h2]

theorem ne_of_key (K : Keyed P k) {a c : Value} {la lc : Lit} (ha : keyOf P k a = some la) (hc : keyOf P k c = some lc) (hne : a ≠ c) : la ≠ lc := by
  intro e
  subst e
  exact hne (K.inj ha hc)

theorem HasMap.store {t e : TypeId} (h : HasMap P k w b f n) (K : Keyed P k) (ht : P.underlying t = some (.map k e)) (hn : n < maxLen) {key : Value} {kl : Lit} (hk : keyOf P k key = some kl) (val : Value)
    {g : Value → Option Value} (hg : g key = some val) (hg' : ∀ x, x ≠ key → g x = f x) :
    ∃ w', (Instr.mapUpdate t (.map (some b)) key val).run P w = .ok () w' ∧ HasMap P k w' b g (if (f key).isSome then n else n + 1) ∧ w.mapTurned w' b := by
  obtain ⟨D, h1, h2, h3⟩ := h
  obtain ⟨w', hrun, r1, r2⟩ := h1.store K ht hn hk (val := val) (d := .held val) (ps := []) rfl
  have hkl := K.key hk
  refine ⟨w', hrun, ⟨D.put kl (.held val), ?_, ?_, ?_⟩, r2⟩
  · obtain ⟨es, clock, q1, q2, q3, q4⟩ := r1
    have hsz : Maps.size (D.put kl (.held val)) = es.size := by rw [q4]; simp [Maps.size, length_sorted]
    have : es.size = if (f key).isSome then n else n + 1 := by
      rw [← hsz, Maps.size_put (h1.tidy K), (h3 key kl hk).1, h2]
    exact ⟨es, clock, q1, q2, by omega, q4⟩
  · rw [Maps.size_put (h1.tidy K), (h3 key kl hk).1, h2]
  · intro x lx hx
    by_cases hxk : x = key
    · subst hxk
      rw [hk] at hx
      cases hx
      rw [hg]
      exact ⟨Maps.has_put_same h1.isMap hkl _, fun v hv zd => by cases hv; exact Maps.atKey_put_same h1.isMap hkl _ _⟩
    · have hne := ne_of_key K hx hk hxk
      rw [hg' x hxk, Maps.has_put_other hne]
      exact ⟨(h3 x lx hx).1, fun v hv zd => by rw [Maps.atKey_put_other hne]; exact (h3 x lx hx).2 v hv zd⟩

theorem HasMap.drop {t e : TypeId} (h : HasMap P k w b f n) (K : Keyed P k) (ht : P.underlying t = some (.map k e)) {key : Value} {kl : Lit} (hk : keyOf P k key = some kl) (ty : TypeId)
    {g : Value → Option Value} (hg : g key = none) (hg' : ∀ x, x ≠ key → g x = f x) :
    ∃ w', (Builtin.delete_ #[t, k] ty #[.map (some b), key]).run P w = .ok (.tuple #[]) w' ∧ HasMap P k w' b g (if (f key).isSome then n - 1 else n) ∧ w.mapTurned w' b := by
  obtain ⟨D, h1, h2, h3⟩ := h
  obtain ⟨w', hrun, r1, r2⟩ := h1.drop K ht hk ty
  have hsd := Maps.size_del (k := kl) (h1.tidy K)
  rw [(h3 key kl hk).1, h2] at hsd
  have hsz : Maps.size (D.del kl) = if (f key).isSome then n - 1 else n := by
    cases hf : (f key).isSome <;> simp [hf] at hsd ⊢ <;> omega
  refine ⟨w', hrun, ⟨D.del kl, ?_, hsz, ?_⟩, r2⟩
  · obtain ⟨es, clock, q1, q2, q3, q4⟩ := r1
    have : Maps.size (D.del kl) = es.size := by rw [q4]; simp [Maps.size, length_sorted]
    exact ⟨es, clock, q1, q2, by omega, q4⟩
  · intro x lx hx
    by_cases hxk : x = key
    · subst hxk
      rw [hk] at hx
      cases hx
      rw [hg]
      exact ⟨Maps.has_del_same, fun v hv => by cases hv⟩
    · have hne := ne_of_key K hx hk hxk
      rw [hg' x hxk, Maps.has_del_other hne]
      exact ⟨(h3 x lx hx).1, fun v hv zd => by rw [Maps.atKey_del_other hne]; exact (h3 x lx hx).2 v hv zd⟩
end

theorem turned_size {w w' : World} {b : Nat} (h : w.mapTurned w' b) : w'.heap.size = w.heap.size := by
  obtain ⟨_, _, _, _, _, rfl⟩ := h
  simp [setBlock]
theorem turned_keeps {S : Nat → Prop} {w w' : World} {b : Nat} (h : w.mapTurned w' b) (hS : S b) : Keeps S w w' := Keeps.of_grown h.grown (fun x e => by cases e; exact hS)
theorem turned_block {w w' : World} {b : Nat} (h : w.mapTurned w' b) {c : Nat} (hc : c ≠ b) : w'.heap[c]? = w.heap[c]? := by
  obtain ⟨_, _, _, _, hb, rfl⟩ := h
  exact heap_setBlock_other hb _ hc
/-- Of w block b alone has turned, and nothing is new. -/
def Turned (w w' : World) (b : Nat) : Prop := w'.heap.size = w.heap.size ∧ Keeps (fun x => x = b) w w'
theorem Turned.of {w w' : World} {b : Nat} (h : w.mapTurned w' b) : Turned w w' b := ⟨turned_size h, turned_keeps h rfl⟩
theorem Turned.of_drew {w w' : World} {b : Nat} (h : w.drew.mapTurned w' b) : Turned w w' b := ⟨(turned_size (w := w.drew) h : _), have k := turned_keeps (w := w.drew) (S := fun x => x = b) h rfl; ⟨k.os, k.tape, k.output, k.size, k.block⟩⟩
theorem Turned.block {w w' : World} {b : Nat} (h : Turned w w' b) {c : Nat} (hc : c ≠ b) : w'.heap[c]? = w.heap[c]? := by
  by_cases hlt : c < w.heap.size
  · exact h.2.block c hlt hc
  · rw [Array.getElem?_eq_none (by have := h.1; omega), Array.getElem?_eq_none (by omega)]
theorem Turned.cell {w w' : World} {b : Nat} (h : Turned w w' b) {a : Addr} (ha : a.block ≠ b) : w'.cell? a = w.cell? a := World.cell?_of_block (h.block ha)
theorem Turned.free {w w' : World} {b : Nat} (h : Turned w w' b) {a : Addr} (ha : a.block ≠ b) : w'.frozen? a = w.frozen? a := World.frozen?_of_block (h.block ha)
end Go.Proofs.YtifmifjbebpomaaGreatDoor
