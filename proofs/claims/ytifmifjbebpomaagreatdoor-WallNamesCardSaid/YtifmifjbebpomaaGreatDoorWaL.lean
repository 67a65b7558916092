/- Walls: lists of numbers that a call makes: append, turned round. -/
import Derived.Test.YtifmifjbebpomaaGreatDoorWaA
import Derived.Test.YtifmifjbebpomaaGreatDoorCopyA
import Derived.Test.YtifmifjbebpomaaGreatDoorWholes
import Derived.Shelf.Slices.Cells
import Derived.Maps.AppendAt
import Derived.Laws.AppendOwnNone
import Derived.Test.YtifmifjbebpomaaGreatDoorClass
namespace Go.Proofs.YtifmifjbebpomaaGreatDoor
open Go.RowKit Go.Shelf Go.ChangeMaps Go.MapKept

def Tryz.revLay_ren : Go.Shelf.Ren := ⟨fun | 112 => 54 | n => n + 100000, fun | 0 => 0 | 3 => 3 | 4 => 4 | 28 => 36 | n => n + 100000, fun n => n⟩
theorem Tryz.revLay : Lays.n112 Tryz.prog Tryz.revLay_ren := {
  mixed := by kernel_rfl
  f112 := Tryz.func54.trans (congrArg some (by kernel_rfl))
  t0 := Tryz.underlying0
  a0 := Tryz.isAgg0
  z0 := Tryz.sizeOf0
  v0 := Tryz.zeroValue0
  t3 := Tryz.underlying3
  a3 := Tryz.isAgg3
  z3 := Tryz.sizeOf3
  v3 := Tryz.zeroValue3
  t4 := Tryz.underlying4
  a4 := Tryz.isAgg4
  z4 := Tryz.sizeOf4
  v4 := Tryz.zeroValue4
  t28 := Tryz.underlying36
  a28 := Tryz.isAgg36
  z28 := Tryz.sizeOf36
  v28 := Tryz.zeroValue36 }

/-- A list of ints that a call makes grows by one; where it lies then. -/
theorem append_intT {w : World} {ops : Array Oper} {rest : List Oper} {o : Oper} {a : Act} {Q : Exit → Act → World → Prop} (hgd : o.guard = none) (s x : Operand)
    (ho : o.op = .call { callee := .builtin .append, args := #[s, x], argTypes := #[36, 36] }) (base : Nat)
    (v : Value) (l : List Int) (n : Nat) (hs : a.eval s = v) (hown : Hid (w.ownsRow base 3 1 v n (l.map (Value.int .i64)))) (y : Int) (hx : a.eval x = .slice (some ⟨w.heap.size, 0, none⟩) 1 1)
    (hn : Hid ((n : Int) ≤ 1099511627776)) (hbase : Hid (base ≤ w.heap.size))
    (h : ∀ v' w', Hid (w'.ownsRow base 3 1 v' (n + 1) ((l ++ [y]).map (Value.int .i64))) → Hid (w.grownBy w' v.ownBlock) → Hid (v'.ownBlock = v.ownBlock ∨ v'.ownBlock = some (w.heap.size + 1)) → wpList Tryz.prog ops Q rest (a.put o.dst v') w') : wpList Tryz.prog ops Q (o :: rest) a (w.alloc (.cells #[.int .i64 y] 3)) := by
  obtain ⟨i, hi, hz, h1, h2⟩ := info_parts infoInt
  have hn' := hn.out
  have hb2 : (n + 1) * 8 ≤ 1099511627777 * 8 := Nat.mul_le_mul_right _ (by omega)
  refine wpList_append_own_at _ hgd s x 36 ho base 3 i (.int .i64 0) 1 8 Tryz.underlying36 hi hz h1 h2 rfl (by decide) v n _ hs (hown.out.alloc _) ⟨w.heap.size, 0, none⟩ 1 1 [.int .i64 y] hx rfl (cell_one_new _ _ _) (by simp [Value.oneCell']) (by unfold maxLen; omega) (by omega) (by have := hbase.out; simp; omega) ?_
  intro v' w' r1 r2 _ r4
  exact h v' w' (by show World.ownsRow _ _ _ _ _ _ _; simpa using r1) ((World.grownBy_alloc w _ _).trans r2) (by show _ ∨ _; simpa using r4)

/-- A list of ints is put behind another one. -/
theorem append_intsT {w : World} {ops : Array Oper} {rest : List Oper} {o : Oper} {a : Act} {Q : Exit → Act → World → Prop} (hgd : o.guard = none) (s x : Operand)
    (ho : o.op = .call { callee := .builtin .append, args := #[s, x], argTypes := #[36, 36] }) (base : Nat)
    (v : Value) (l : List Int) (hs : a.eval s = v) (hown : Hid (w.ownsRow base 3 1 v l.length (l.map (Value.int .i64)))) (u : Value) (m : List Int) (hx : a.eval x = u) (hu : Hid (w.ownsRow base 3 1 u m.length (m.map (Value.int .i64))))
    (hn : Hid (l.length ≤ 1000 ∧ m.length ≤ 1000)) (hbase : Hid (base ≤ w.heap.size))
    (h : ∀ v' w', Hid (w'.ownsRow base 3 1 v' (l ++ m).length ((l ++ m).map (Value.int .i64))) → Hid (w.grownBy w' v.ownBlock) → wpList Tryz.prog ops Q rest (a.put o.dst v') w') : wpList Tryz.prog ops Q (o :: rest) a w := by
  obtain ⟨i, hi, hz, h1, h2⟩ := info_parts infoInt
  have hn' := hn.out
  rcases hu.out.2 with ⟨rfl, h0⟩ | ⟨g, cap, cur, rfl, hbg, hg, k1, k2, k3, k4⟩
  · obtain rfl : m = [] := List.eq_nil_of_length_eq_zero h0
    refine wpList_append_own_none hgd s x 36 ho base 3 i 1 Tryz.underlying36 hi v l.length _ hs hown.out hx ?_
    exact h v w (by show World.ownsRow _ _ _ _ _ _ _; simpa using hown.out) (World.grownBy.refl _ _)
  · refine wpList_append_own_at _ hgd s x 36 ho base 3 i (.int .i64 0) 1 8 Tryz.underlying36 hi hz h1 h2 rfl (by decide) v l.length _ hs hown.out ⟨g, 0, none⟩ m.length cap (m.map (Value.int .i64)) hx (by simp) (fun j y hy => ?_) (by simp [Value.oneCell']) (by unfold maxLen; omega) (by omega) hbase.out ?_
    · have := hu.out.cellAt j (by have := (List.getElem?_eq_some_iff.1 hy).1; simpa using this)
      have e : (⟨g, 0, none⟩ : Addr).add j = ⟨g, j, none⟩ := by unfold Addr.add; split <;> simp_all
      rw [e, this]
      simpa using hy
    · intro v' w' r1 r2 _ r4
      exact h v' w' (by show World.ownsRow _ _ _ _ _ _ _; simpa using r1) r2
theorem blk_setCellsW {e : TypeId} : ∀ (cs : List Value) (o : Nat) (w : World) (b : Nat) (cur : Array Value), w.heap[b]? = some (.cells cur e (0, 0)) → o + cs.length ≤ cur.size →
    ∃ cur' : Array Value, (w.setCells b o cs).heap[b]? = some (.cells cur' e (0, 0)) ∧ cur'.size = cur.size ∧ cur'.toList = cur.toList.take o ++ cs ++ cur.toList.drop (o + cs.length)
  | [], o, w, b, cur, h, _ => ⟨cur, h, rfl, by simp⟩
  | v :: cs, o, w, b, cur, h, hl => by
    have hl' : o + (cs.length + 1) ≤ cur.size := by simpa using hl
    obtain ⟨cur', h1, h2, h3⟩ := blk_setCellsW cs (o + 1) (w.setCell ⟨b, o, none⟩ v) b (cur.setIfInBounds o v) (blk_setCell h o v) (by simp; omega)
    refine ⟨cur', h1, by rw [h2]; simp, ?_⟩
    rw [h3]
    have e1 : (cur.setIfInBounds o v).toList = cur.toList.set o v := by simp
    rw [e1, List.take_set, List.drop_set]
    rw [if_pos (by omega)]
    have ho : o < cur.toList.length := by simp; omega
    have e2 : (cur.toList.take (o + 1)).set o v = cur.toList.take o ++ [v] := by
      rw [List.take_add_one, List.getElem?_eq_getElem ho]
      show (cur.toList.take o ++ [_]).set o v = _
      rw [List.set_append, if_neg (by rw [List.length_take]; omega)]
      congr 1
      rw [List.length_take, Nat.min_eq_left (by omega), Nat.sub_self]
      rfl
    rw [e2, List.length_cons, show o + 1 + cs.length = o + (cs.length + 1) by omega]
    simp
theorem keeps_setCellsW {F : Nat → Prop} {b : Nat} (hF : F b) : ∀ (cs : List Value) (o : Nat) (w : World), Keeps F w (w.setCells b o cs)
  | [], _, w => Keeps.refl F w
  | v :: r, o, w => (Keeps.setCell (S := F) w ⟨b, o, none⟩ v hF).trans (keeps_setCellsW hF r (o + 1) (w.setCell ⟨b, o, none⟩ v)) (fun _ _ h => h) (fun _ _ h => h)
/-- slices.Reverse of a list that the call made. -/
theorem rev_W (w : World) {base : Nat} {v : Value} {l : List Int} (hr : w.ownsRow base 3 1 v l.length (l.map (Value.int .i64))) (hl : l.length ≤ 1000) :
    Calls Tryz.prog 54 #[v] w fun e w' => e = .returned (.tuple #[]) ∧ Hid (w'.ownsRow base 3 1 v l.length (l.reverse.map (Value.int .i64))) ∧ Hid (Keeps (fun b => v.ownBlock = some b) w w') := by
  rcases hr.2 with ⟨rfl, h0⟩ | ⟨g, cap, cur, rfl, hbg, hg, k1, k2, k3, k4⟩
  · obtain rfl : l = [] := List.eq_nil_of_length_eq_zero h0
    refine (Any.slices_Reverse_int_empty Tryz.revLay _ _ w).mono ?_
    rintro e _ ⟨rfl, rfl⟩
    exact ⟨rfl, hr, Keeps.refl _ _⟩
  · refine (Any.slices_Reverse_int_cells Tryz.revLay g 0 l.length cap l w (Nat.le_refl _) (by omega) (fun j hj => ?_) (fun j _ => frozen_blk hg _)).mono ?_
    · have := hr.cellAt j (by omega)
      rw [Nat.zero_add, this]
      simp [List.getElem?_eq_getElem hj, List.getD_eq_getElem?_getD]
    · rintro e w' ⟨rfl, q, rfl⟩
      rw [List.take_length]
      have hk : Keeps (fun b => (Value.slice (some ⟨g, 0, none⟩) l.length cap).ownBlock = some b) w ((w.drewN q).setCells g 0 (l.reverse.map (Value.int .i64))) :=
        Below.keeps (S := fun b => (Value.slice (some ⟨g, 0, none⟩) l.length cap).ownBlock = some b) (below_drewN q) (keeps_setCellsW (F := fun b => (Value.slice (some ⟨g, 0, none⟩) l.length cap).ownBlock = some b) rfl _ _ _)
      obtain ⟨cur', c1, c2, c3⟩ := blk_setCellsW (l.reverse.map (Value.int .i64)) 0 (w.drewN q) g cur hg (by simp; omega)
      refine ⟨rfl, ⟨by simp, .inr ⟨g, cap, cur', rfl, hbg, c1, by omega, k2, by rw [c2]; exact k3, ?_⟩⟩, hk⟩
      rw [c3]
      simp
end Go.Proofs.YtifmifjbebpomaaGreatDoor
