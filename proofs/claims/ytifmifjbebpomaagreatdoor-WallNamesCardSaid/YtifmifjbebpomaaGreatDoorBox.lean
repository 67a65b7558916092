/- What walks over Things want, whatever their body: boxes, boxed lists, what a round keeps. -/
import Derived.Test.YtifmifjbebpomaaGreatDoorThings
import Derived.Test.YtifmifjbebpomaaGreatDoorOwn
namespace Go.Proofs.YtifmifjbebpomaaGreatDoor
open Go.RowKit Go.Shelf Go.ChangeMaps Go.MapKept
attribute [local go_sem] Oper.semAt_some

theorem boxed_what (w1 : World) (xs : Array Value) (hs : xs.size = 16) (h1 : xs.all (·.oneCell') = true) :
    (stW (.pointer (some ⟨w1.heap.size, 0, none⟩)) (.agg xs)).run Tryz.prog (w1.alloc (.cells #[.int .u8 0, .int .i64 0, .int .u8 0, .int .i64 0, .string ⟨#[]⟩, .slice none 0 0, .int .i64 0, .slice none 0 0, .int .i64 0, .int .i64 0, .int .i64 0, .int .i64 0, .int .u8 0, .bool false, .slice none 0 0, .slice none 0 0] 73)) = .ok .skip ((w1.alloc (.cells #[.int .u8 0, .int .i64 0, .int .u8 0, .int .i64 0, .string ⟨#[]⟩, .slice none 0 0, .int .i64 0, .slice none 0 0, .int .i64 0, .int .i64 0, .int .i64 0, .int .i64 0, .int .u8 0, .bool false, .slice none 0 0, .slice none 0 0] 73)).setRow w1.heap.size xs) ∧
    Below w1.heap.size w1 ((w1.alloc (.cells #[.int .u8 0, .int .i64 0, .int .u8 0, .int .i64 0, .string ⟨#[]⟩, .slice none 0 0, .int .i64 0, .slice none 0 0, .int .i64 0, .int .i64 0, .int .i64 0, .int .i64 0, .int .u8 0, .bool false, .slice none 0 0, .slice none 0 0] 73)).setRow w1.heap.size xs) ∧
    ((w1.alloc (.cells #[.int .u8 0, .int .i64 0, .int .u8 0, .int .i64 0, .string ⟨#[]⟩, .slice none 0 0, .int .i64 0, .slice none 0 0, .int .i64 0, .int .i64 0, .int .i64 0, .int .i64 0, .int .u8 0, .bool false, .slice none 0 0, .slice none 0 0] 73)).setRow w1.heap.size xs).heap[w1.heap.size]? = some (.cells xs 73 (0, 0)) :=
  ⟨storeWhat_blk (blk_new w1 _) rfl hs h1, Below.setRow ((Below.refl _ _).alloc (Nat.le_refl _) _) (Nat.le_refl _) _, heap_setRow_at (blk_new w1 _)⟩

theorem Things_W (w : World) (p : Nat) : Calls Tryz.prog 44 #[.pointer (some ⟨p, 0, none⟩)] w fun e w' => e = .returned (.func (.func 79) #[] #[.pointer (some ⟨w.heap.size, 0, none⟩)]) ∧ w' = w.alloc (.cells #[.pointer (some ⟨p, 0, none⟩)] 31) := by
  go_enter Tryz.func44, Tryz.ntmps44
  go_wp2
  go_ret
  exact ⟨rfl, rfl⟩

theorem boxed_what' (w1 : World) (xs : Array Value) (hs : xs.size = 16) (h1 : xs.all (·.oneCell') = true) :
    ∃ w2, (stW (.pointer (some ⟨w1.heap.size, 0, none⟩)) (.agg xs)).run Tryz.prog (w1.alloc (.cells #[.int .u8 0, .int .i64 0, .int .u8 0, .int .i64 0, .string ⟨#[]⟩, .slice none 0 0, .int .i64 0, .slice none 0 0, .int .i64 0, .int .i64 0, .int .i64 0, .int .i64 0, .int .u8 0, .bool false, .slice none 0 0, .slice none 0 0] 73)) = .ok .skip w2 ∧
      Below w1.heap.size w1 w2 ∧ w2.heap[w1.heap.size]? = some (.cells xs 73 (0, 0)) ∧ w2.heap.size = w1.heap.size + 1 := by
  obtain ⟨a, b, c⟩ := boxed_what w1 xs hs h1
  exact ⟨_, a, b, c, by simp⟩

/-- The blocks that a boxed list is held in. -/
def boxOwn (B : Nat) (W : World) (b : Nat) : Prop := b = B ∨ ∃ v, W.cell? ⟨B, 0, none⟩ = some v ∧ v.ownBlock = some b
theorem row_from {W W' : World} {row : Option Nat} {base : Nat} {e : TypeId} {v : Value} {k : Nat} {xs : List Value} (h : W.ownsRow base e 1 v k xs) (hg : W.grownBy W' row)
    (hr : ∀ r, row = some r → ∃ o : Obj, W.heap[r]? = some o ∧ o.isCells = false) : W'.ownsRow base e 1 v k xs := by
  refine h.kept hg ?_
  rcases h.2 with ⟨rfl, _⟩ | ⟨g, cap, cur, rfl, _, hgb, _⟩
  · exact .inl rfl
  · refine .inr fun e' => ?_
    obtain ⟨o, ho, hc⟩ := hr g e'.symm
    rw [hgb] at ho
    cases ho
    cases hc
theorem boxOwn_put {B n : Nat} (hB : B < n) (W : World) (l : Nat) (o o' : Obj) (hl : n ≤ l) (ho : W.heap[l]? = some o) (hc : o.isCells = false) : KpO (boxOwn B) W (W.putObj l o') where
  size := by simp
  cells := fun b cs e fr hb _ => (World.putObj_heap_other (fun h => by subst h; rw [hb] at ho; cases ho; cases hc)).trans hb
  own' := fun b hb => by
    rcases hb with rfl | ⟨v, hv, hb⟩
    · exact .inl (.inl rfl)
    · have : (W.putObj l o').cell? ⟨B, 0, none⟩ = W.cell? ⟨B, 0, none⟩ := World.cell?_of_block (World.putObj_heap_other (by show B ≠ l; omega))
      exact .inl (.inr ⟨v, this ▸ hv, hb⟩)
theorem KpO.refl (own : World → Nat → Prop) (W : World) : KpO own W W := ⟨Nat.le_refl _, fun _ _ _ _ h _ => h, fun _ h => .inl h⟩
theorem keepsOthers_of_below {A B : World} (h : Below A.heap.size A B) : KeepsOthers A B := ⟨h.size, fun x _ ho _ => (h.block x (blk_lt ho)).trans ho⟩
theorem append_oneA {F : Fence} {nF : Nat} {P : Program} {w : World} {ops : Array Oper} {rest : List Oper} {o : Oper} {a : Act} {Q : Exit → Act → World → Prop} (hgd : o.guard = none) (s x : Operand) (t : TypeId)
    (ho : o.op = .call { callee := .builtin .append, args := #[s, x], argTypes := #[t, t] }) (base : Nat) (e : TypeId) (z : Value) (bytes : Nat) (ht : P.underlying t = some (.slice e))
    (hinfo : (P.info? e).map (fun i => (i.zero, i.size, i.bytes)) = some (some z, 1, bytes)) (hzs : z.cells.size = 1)
    (v : Value) (n : Nat) (xs : List Value) (hs : a.eval s = v) (hown : Hid (w.ownsRow base e 1 v n xs)) (y : Value) (hx : a.eval x = .slice (some ⟨w.heap.size, 0, none⟩) 1 1) (hy : y.oneCell' = true)
    (hn : Hid ((n : Int) ≤ 1099511627777)) (hb : bytes ≤ 64) (hbase : Hid (base ≤ w.heap.size))
    (h : ∀ v' w', Hid (w'.ownsRow base e 1 v' (n + 1) (xs ++ [y])) → Hid (w.grownBy w' v.ownBlock) → Hid (Below base w w') → Hid (v'.ownBlock = v.ownBlock ∨ v'.ownBlock = some (w.heap.size + 1)) → wpListIn F nF P ops Q rest (a.put o.dst v') w') : wpListIn F nF P ops Q (o :: rest) a (w.alloc (.cells #[y] e)) := by
  obtain ⟨i, hi, hz, h1, h2⟩ := info_parts hinfo
  have hn' := hn.out
  have hb2 : (n + 1) * bytes ≤ (n + 1) * 64 := Nat.mul_le_mul_left _ hb
  refine wpListIn_append_own_at _ hgd s x t ho base e i z 1 bytes ht hi hz h1 h2 hzs (by decide) v n xs hs (hown.out.alloc _) ⟨w.heap.size, 0, none⟩ 1 1 [y] hx rfl (cell_one_new _ _ _) (by simp [hy]) (by unfold maxLen; omega) (by omega) (by have := hbase.out; simp; omega) ?_
  intro v' w' r1 r2 _ r4
  have hg : w.grownBy w' v.ownBlock := (World.grownBy_alloc w _ _).trans r2
  exact h v' w' r1 hg ⟨hg.os, hg.tape, hg.output, hg.size, fun k hk => hg.block k (by have := hbase.out; omega) (fun e => by have := hown.out.lt k e.symm; omega)⟩ (by show _ ∨ _; simpa using r4)
theorem heap_setCell_box {W : World} {B : Nat} {v : Value} {t : TypeId} (v' : Value) (h : W.heap[B]? = some (.cells #[v] t (0, 0))) : (W.setCell ⟨B, 0, none⟩ v').heap[B]? = some (.cells #[v'] t (0, 0)) := by
  obtain ⟨hlt, hk⟩ := Array.getElem?_eq_some_iff.1 h
  show (W.heap.modify B _)[B]? = _
  rw [Array.getElem?_eq_getElem (by rw [Array.size_modify]; exact hlt), Array.getElem_modify_self, hk]
  rfl
theorem KpO_of_below {B : Nat} {W W' : World} (hB : B < W.heap.size) (h : Below W.heap.size W W') : KpO (boxOwn B) W W' where
  size := h.size
  cells := fun b _ _ _ hb _ => (h.block b (blk_lt hb)).trans hb
  own' := fun b hb => by
    rcases hb with rfl | ⟨v, hv, hb⟩
    · exact .inl (.inl rfl)
    · have : W'.cell? ⟨B, 0, none⟩ = W.cell? ⟨B, 0, none⟩ := World.cell?_of_block (h.block B hB)
      exact .inl (.inr ⟨v, this ▸ hv, hb⟩)
theorem box_facts {W : World} {B : Nat} {v : Value} {t : TypeId} (h : W.heap[B]? = some (.cells #[v] t (0, 0))) : W.cell? ⟨B, 0, none⟩ = some v ∧ W.frozen? ⟨B, 0, none⟩ = false := by
  constructor <;> simp [World.cell?, World.frozen?, h]
theorem row_base {W : World} {base base' : Nat} {e : TypeId} {v : Value} {k : Nat} {xs : List Value} (hb : base' ≤ base) (h : W.ownsRow base e 1 v k xs) : W.ownsRow base' e 1 v k xs := by
  refine ⟨h.1, ?_⟩
  rcases h.2 with h0 | ⟨g, cap, cur, h0, h1, h2⟩
  · exact .inl h0
  · exact .inr ⟨g, cap, cur, h0, Nat.le_trans hb h1, h2⟩
end Go.Proofs.YtifmifjbebpomaaGreatDoor
