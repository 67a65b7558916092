/- A part of the proof, several texts in one: Held, Own, WaB. -/
import Derived.Test.YtifmifjbebpomaaGreatDoormAF
import Derived.Deep.QuietTactic
import Derived.BigQuiet
/- What a light What holds: no references. The small tests on values. -/
namespace Go.Proofs.YtifmifjbebpomaaGreatDoor
open Go.RowKit Go.ChangeMaps Go.MapKept

/-- A What without lists. -/
abbrev lite (k h vk vn n l tg bi s : Int) (fu : Bool) : Array Value := #[.int .u8 k, .int .i64 h, .int .u8 vk, .int .i64 vn, .string ⟨#[]⟩, .slice none 0 0, .int .i64 0, .slice none 0 0, .int .i64 n, .int .i64 l, .int .i64 tg, .int .i64 bi, .int .u8 s, .bool fu, .slice none 0 0, .slice none 0 0]

set_option maxRecDepth 8000 in
theorem held_W (w : World) (k h vk vn n l tg bi s : Int) (fu : Bool) (hp : Plain vk vn) : Calls Tryz.prog 88 #[.agg #[.int .u8 k, .int .i64 h, .int .u8 vk, .int .i64 vn, .string ⟨#[]⟩, .slice none 0 0, .int .i64 0, .slice none 0 0, .int .i64 n, .int .i64 l, .int .i64 tg, .int .i64 bi, .int .u8 s, .bool fu, .slice none 0 0, .slice none 0 0]] w fun e w' => e = .returned (.slice none 0 0) ∧ Below w.heap.size w w' := by
  go_enter Tryz.func88, Tryz.ntmps88
  go_wp2_with fail
  refine (vRefs_W _ vk vn hp).mono ?_
  rintro e w1 ⟨rfl, hb1⟩
  have B1 := below_blk hb1 (blk_new _ _)
  have c7 : w1.cell? ⟨w.heap.size, 7, none⟩ = some (.slice none 0 0) := by rw [cell_blk B1]; rfl
  have c15 : w1.cell? ⟨w.heap.size, 15, none⟩ = some (.slice none 0 0) := by rw [cell_blk B1]; rfl
  have HB : Hid (Below w.heap.size w w1) := ((Below.refl _ _).alloc (Nat.le_refl _) _).trans (hb1.mono (by simp; try omega))
  clear hb1 B1
  go_wp2_with fail
  go_rounds 1
  go_wp2_with fail
  go_rounds 1
  go_ret
  exact ⟨rfl, HB.out⟩

set_option maxRecDepth 8000 in
theorem names_W (w : World) (q : Option Addr) (k h vk vn n l tg bi s : Int) (fu : Bool) (hp : Plain vk vn) : Calls Tryz.prog 48 #[.pointer q, .agg #[.int .u8 k, .int .i64 h, .int .u8 vk, .int .i64 vn, .string ⟨#[]⟩, .slice none 0 0, .int .i64 0, .slice none 0 0, .int .i64 n, .int .i64 l, .int .i64 tg, .int .i64 bi, .int .u8 s, .bool fu, .slice none 0 0, .slice none 0 0]] w fun e w' => e = .returned (.bool true) ∧ Below w.heap.size w w' := by
  go_enter Tryz.func48, Tryz.ntmps48
  go_wp2_with fail
  refine (held_W _ k h vk vn n l tg bi s fu hp).mono ?_
  rintro e w1 ⟨rfl, hb1⟩
  have HB : Hid (Below w.heap.size w w1) := (((Below.refl _ _).alloc (Nat.le_refl _) _).alloc (by simp) _).trans (hb1.mono (by simp; try omega))
  clear hb1
  go_wp2_with fail
  refine (containsRef_W _ _).mono ?_
  rintro e w2 ⟨rfl, rfl⟩
  go_wp2_with fail
  go_ret
  exact ⟨rfl, HB.out⟩

set_option maxRecDepth 8000 in

set_option maxRecDepth 8000 in
theorem blank0_W (w : World) : Calls Tryz.prog 82 #[.agg #[.int .u8 0, .int .i64 0, .string ⟨#[]⟩, .slice none 0 0, .int .i64 0]] w fun e w' => e = .returned (.bool true) ∧ Below w.heap.size w w' := by
  go_enter Tryz.func82, Tryz.ntmps82
  go_wp2
  go_ret
  exact ⟨rfl, by go_grown⟩
set_option maxRecDepth 8000 in
theorem blank1_W (w : World) (n : Int) : Calls Tryz.prog 82 #[.agg #[.int .u8 1, .int .i64 n, .string ⟨#[]⟩, .slice none 0 0, .int .i64 0]] w fun e w' => e = .returned (.bool false) ∧ Below w.heap.size w w' := by
  go_enter Tryz.func82, Tryz.ntmps82
  go_wp2
  go_ret
  exact ⟨rfl, by go_grown⟩

set_option maxRecDepth 8000 in
theorem vall_W (w : World) : Calls Tryz.prog 121 #[.slice none 0 0] w fun e w' => e = .returned (.bool true) ∧ w = w' := by
  go_enter Tryz.func121, Tryz.ntmps121
  go_wp2_with fail
  go_in
  go_wp2_with fail
  go_in
  go_wp2_with fail
  go_rounds 1
  go_ret
  exact ⟨rfl, rfl⟩

set_option maxRecDepth 8000 in
theorem vMayL_W (w : World) : Calls Tryz.prog 83 #[.agg #[.int .u8 3, .int .i64 0, .string ⟨#[]⟩, .slice none 0 0, .int .i64 0]] w fun e w' => e = .returned (.bool true) ∧ Below w.heap.size w w' := by
  go_enter Tryz.func83, Tryz.ntmps83
  go_wp2
  go_region
  go_wp2
  go_rounds 1
  go_ret
  exact ⟨rfl, by go_grown⟩

set_option maxRecDepth 8000 in
theorem vOf_W (w : World) : Calls Tryz.prog 84 #[.slice none 0 0] w fun e w' => e = .returned (.tuple #[.agg #[.int .u8 3, .int .i64 0, .string ⟨#[]⟩, .slice none 0 0, .int .i64 0], .int .i64 0]) ∧ Below w.heap.size w w' := by
  go_enter Tryz.func84, Tryz.ntmps84
  go_wp2_with fail
  refine (vall_W _).mono ?_
  rintro e w0 ⟨rfl, rfl⟩
  go_wp2_with fail
  refine (vMayL_W _).mono ?_
  rintro e w1 ⟨rfl, hb1⟩
  have B0 := below_blk hb1 (blk2_old _ _ _)
  obtain ⟨⟨a0, a1, a2, a3, a4⟩, f0, f1, f2, f3, f4⟩ := cells5 (below_blk hb1 (blk2_new _ _ _))
  have hz : w.heap.size + 1 < w1.heap.size := by have := hb1.size; simp at this; omega
  have HB : Hid (Below w.heap.size w w1) := (((Below.refl _ _).alloc (Nat.le_refl _) _).alloc (by simp) _).trans (hb1.mono (by simp; omega))
  clear hb1
  go_wp2_with fail
  refine (vown_W _ 3 0).mono ?_
  rintro e w2 ⟨rfl, hb2⟩
  obtain ⟨⟨e0, e1, e2, e3, e4⟩, g0, g1, g2, g3, g4⟩ := cells5 (below_blk hb2 B0)
  have hz2 : w.heap.size < w2.heap.size := by have := hb2.size; omega
  have HB2 : Hid (Below w.heap.size w w2) := HB.out.trans (hb2.mono HB.out.size)
  clear hb2 B0
  go_wp2_with fail
  have hB := HB2.out
  exact bodyPost_ret (v := .tuple #[.agg #[.int .u8 3, .int .i64 0, .string ⟨#[]⟩, .slice none 0 0, .int .i64 0], .int .i64 0]) (by simp [results, Tryz.results84, go_sem, e0, e1, e2, e3, e4]) rfl ⟨rfl, by go_grown⟩
theorem cells16 {w : World} {b : Nat} {x0 x1 x2 x3 x4 x5 x6 x7 x8 x9 x10 x11 x12 x13 x14 x15 : Value} {e : TypeId} (h : w.heap[b]? = some (.cells #[x0, x1, x2, x3, x4, x5, x6, x7, x8, x9, x10, x11, x12, x13, x14, x15] e (0, 0))) :
    w.cell? ⟨b, 0, none⟩ = some x0 ∧ w.cell? ⟨b, 1, none⟩ = some x1 ∧ w.cell? ⟨b, 2, none⟩ = some x2 ∧ w.cell? ⟨b, 3, none⟩ = some x3 ∧ w.cell? ⟨b, 4, none⟩ = some x4 ∧ w.cell? ⟨b, 5, none⟩ = some x5 ∧ w.cell? ⟨b, 6, none⟩ = some x6 ∧ w.cell? ⟨b, 7, none⟩ = some x7 ∧ w.cell? ⟨b, 8, none⟩ = some x8 ∧ w.cell? ⟨b, 9, none⟩ = some x9 ∧ w.cell? ⟨b, 10, none⟩ = some x10 ∧ w.cell? ⟨b, 11, none⟩ = some x11 ∧ w.cell? ⟨b, 12, none⟩ = some x12 ∧ w.cell? ⟨b, 13, none⟩ = some x13 ∧ w.cell? ⟨b, 14, none⟩ = some x14 ∧ w.cell? ⟨b, 15, none⟩ = some x15 := by
  refine ⟨?_, ?_, ?_, ?_, ?_, ?_, ?_, ?_, ?_, ?_, ?_, ?_, ?_, ?_, ?_, ?_⟩ <;> (rw [cell_blk h]; rfl)
end Go.Proofs.YtifmifjbebpomaaGreatDoor
/- ownWhat of a light What: the same. -/
namespace Go.Proofs.YtifmifjbebpomaaGreatDoor
open Go.RowKit Go.ChangeMaps Go.MapKept

theorem setCell_same {w : World} {b i : Nat} {cs : Array Value} {e : TypeId} {fr : Nat × Nat} {v : Value} (h : w.heap[b]? = some (.cells cs e fr)) (hv : cs[i]? = some v) : w.setCell ⟨b, i, none⟩ v = w := by
  obtain ⟨hb, hg⟩ := Array.getElem?_eq_some_iff.1 h
  obtain ⟨hi, hgi⟩ := Array.getElem?_eq_some_iff.1 hv
  have key : ∀ (w2 : World), w2.heap = w.heap → { w2 with heap := w2.heap.modify b (fun _ => .cells cs e fr) } = w2 := by
    intro w2 h2
    have : w2.heap.modify b (fun _ => Obj.cells cs e fr) = w2.heap := by
      apply Array.ext_getElem?
      intro k
      rw [Array.getElem?_modify]
      split
      · rename_i hk
        subst hk
        rw [h2, h]
        rfl
      · rfl
    rw [this]
  have hs : cs.setIfInBounds i v = cs := by
    apply Array.ext_getElem?
    intro k
    rw [Array.getElem?_setIfInBounds]
    split
    · rename_i hk
      subst hk
      simp [hi, hgi]
    · rfl
  have hw : (w.setCell ⟨b, i, none⟩ v).heap = w.heap := by
    apply Array.ext_getElem?
    intro k
    by_cases hk : k = b
    · subst hk
      rw [blk_setCell h i v, h, hs]
    · exact Below.heap_setCell w ⟨b, i, none⟩ v k hk
  have : (w.setCell ⟨b, i, none⟩ v) = { w with heap := (w.setCell ⟨b, i, none⟩ v).heap } := rfl
  rw [this, hw]

theorem storeAt_same {P : Program} {w : World} {b i : Nat} {cs vs : Array Value} {e ty : TypeId} (h : w.heap[b]? = some (.cells cs e (0, 0))) (hi : (P.info? ty).map (·.size) = some vs.size) (hl : i + vs.size ≤ cs.size)
    (h1 : vs.all (·.oneCell') = true) (hs : (cs.toList.take i ++ vs.toList ++ cs.toList.drop (i + vs.size)) = cs.toList) : (Instr.storeAt ty (.pointer (some ⟨b, i, none⟩)) (.agg vs)).run P w = .ok () w := by
  simp only [Instr.storeAt, Instr.sureAddr, Sem.run_bind, Sem.run_pure, Result.andThen]
  have := run_storeCells_at (P := P) b i e vs.toList 0 cs w h (by simpa using hl) (fun v hv => (Array.all_eq_true_iff_forall_mem.1 h1) v (by simpa using hv))
  simp only [Nat.add_zero, Array.length_toList, hs, Array.toArray_toList, setRow_self w b cs e (0, 0) h] at this
  cases hq : P.info? ty with
  | none => simp [hq] at hi
  | some k =>
    have hs : vs.size = k.size := by simp [hq] at hi; omega
    simp [storeVar, sizeOf, typeInfo, hq, Value.cells, hs, this]
/-- A whole Value written: closed to the walk's simp. -/
def stV (a x : Value) : Sem Next := do Instr.storeAt 29 a x; pure .skip
theorem execOp_stV (ρ : Operand → Value) (d : Option Tmp) (a x : Operand) (ty : TypeId) (pos : String) (af : Array Edge) (g : Option (Nat × Bool)) :
    execOp ρ { dst := d, op := .store 29 a x, type := ty, pos := pos, after := af, guard := g } = stV (ρ a) (ρ x) := rfl
theorem stV_same {w : World} {b i : Nat} {cs vs : Array Value} {e : TypeId} (h : w.heap[b]? = some (.cells cs e (0, 0))) (h5 : vs.size = 5) (hl : i + vs.size ≤ cs.size)
    (h1 : vs.all (·.oneCell') = true) (hs : (cs.toList.take i ++ vs.toList ++ cs.toList.drop (i + vs.size)) = cs.toList) : (stV (.pointer (some ⟨b, i, none⟩)) (.agg vs)).run Tryz.prog w = .ok .skip w := by
  simp only [stV, Sem.run_bind, storeAt_same h (by rw [h5]; exact sizeValue) hl h1 hs, Result.andThen, Sem.run_pure]

theorem heap_setRow_other (w : World) (b : Nat) (c : Array Value) (k : Nat) (h : k ≠ b) : (w.setRow b c).heap[k]? = w.heap[k]? := by
  simp only [World.setRow, Array.getElem?_modify]
  rw [if_neg (Ne.symm h)]
theorem heap_setRow_at {w : World} {b : Nat} {c c' : Array Value} {e : TypeId} {fr : Nat × Nat} (h : w.heap[b]? = some (.cells c e fr)) : (w.setRow b c').heap[b]? = some (.cells c' e fr) := by
  simp only [World.setRow, Array.getElem?_modify]
  rw [if_pos trivial, h]
  rfl
theorem Below.setRow {B : Nat} {a w : World} (h : Below B a w) {b : Nat} (hb : B ≤ b) (c : Array Value) : Below B a (w.setRow b c) :=
  ⟨h.os, h.tape, h.output, by have := h.size; simpa [World.setRow] using this, fun k hk => (heap_setRow_other w b c k (by omega)).trans (h.block k hk)⟩

attribute [local go_sem ↓] execOp_stV in
set_option maxHeartbeats 1000000 in
set_option maxRecDepth 8000 in
theorem ownWhat_W (w : World) (k h vk vn n l tg bi s : Int) (fu : Bool) (hp : Plain vk vn) : Calls Tryz.prog 53 #[.agg #[.int .u8 k, .int .i64 h, .int .u8 vk, .int .i64 vn, .string ⟨#[]⟩, .slice none 0 0, .int .i64 0, .slice none 0 0, .int .i64 n, .int .i64 l, .int .i64 tg, .int .i64 bi, .int .u8 s, .bool fu, .slice none 0 0, .slice none 0 0]] w fun e w' =>
    e = .returned (.agg #[.int .u8 k, .int .i64 h, .int .u8 vk, .int .i64 vn, .string ⟨#[]⟩, .slice none 0 0, .int .i64 0, .slice none 0 0, .int .i64 n, .int .i64 l, .int .i64 tg, .int .i64 bi, .int .u8 s, .bool fu, .slice none 0 0, .slice none 0 0]) ∧ Below w.heap.size w w' := by
  go_enter Tryz.func53, Tryz.ntmps53
  go_wp2_with fail
  refine (wown_W _ vk vn hp).mono ?_
  rintro e w1 ⟨rfl, hb1⟩
  have B1 := below_blk hb1 (blk2_old _ _ _)
  have R1 := below_blk hb1 (blk2_new _ _ _)
  obtain ⟨a0, a1, a2, a3, a4, a5, a6, a7, a8, a9, a10, a11, a12, a13, a14, a15⟩ := cells16 B1
  have hsv := stV_same (i := 2) (vs := #[.int .u8 vk, .int .i64 vn, .string ⟨#[]⟩, .slice none 0 0, .int .i64 0]) B1 rfl (by simp) (by simp [go_sem]) (by simp)
  have hz : w.heap.size + 1 < w1.heap.size := by have := hb1.size; simp at this; omega
  have HB : Hid (Below w.heap.size w w1) := (((Below.refl _ _).alloc (Nat.le_refl _) _).alloc (by simp) _).trans (hb1.mono (by simp; omega))
  clear hb1
  go_wp2_with fail
  refine (cloneVal_W _).mono ?_
  rintro e w2 ⟨rfl, hb2⟩
  have B2 := below_blk hb2 B1
  have R2 := below_blk hb2 R1
  clear a0 a1 a2 a3 a4 a5 a6 a7 a8 a9 a10 a11 a12 a13 a14 a15 hsv
  have a7 : w2.cell? ⟨w.heap.size, 7, none⟩ = some (.slice none 0 0) := by rw [cell_blk B2]; rfl
  have a14 : w2.cell? ⟨w.heap.size, 14, none⟩ = some (.slice none 0 0) := by rw [cell_blk B2]; rfl
  have a15 : w2.cell? ⟨w.heap.size, 15, none⟩ = some (.slice none 0 0) := by rw [cell_blk B2]; rfl
  have f7 := frozen_blk B2 7
  have f14 := frozen_blk B2 14
  have f15 := frozen_blk B2 15
  have q7 : w2.setCell ⟨w.heap.size, 7, none⟩ (.slice none 0 0) = w2 := setCell_same B2 rfl
  have q14 : w2.setCell ⟨w.heap.size, 14, none⟩ (.slice none 0 0) = w2 := setCell_same B2 rfl
  have q15 : w2.setCell ⟨w.heap.size, 15, none⟩ (.slice none 0 0) = w2 := setCell_same B2 rfl
  have HB2 : Hid (Below w.heap.size w w2) := HB.out.trans (hb2.mono HB.out.size)
  clear hb2 HB B1 R1 hz
  have hld := loadWhat_blk B2 rfl
  have hst := storeWhat_blk (c' := #[.int .u8 k, .int .i64 h, .int .u8 vk, .int .i64 vn, .string ⟨#[]⟩, .slice none 0 0, .int .i64 0, .slice none 0 0, .int .i64 n, .int .i64 l, .int .i64 tg, .int .i64 bi, .int .u8 s, .bool fu, .slice none 0 0, .slice none 0 0]) R2 rfl rfl (by simp [go_sem])
  have G3a := heap_setRow_at (c' := #[.int .u8 k, .int .i64 h, .int .u8 vk, .int .i64 vn, .string ⟨#[]⟩, .slice none 0 0, .int .i64 0, .slice none 0 0, .int .i64 n, .int .i64 l, .int .i64 tg, .int .i64 bi, .int .u8 s, .bool fu, .slice none 0 0, .slice none 0 0]) R2
  have G3 : Hid ((w2.setRow (w.heap.size + 1) #[.int .u8 k, .int .i64 h, .int .u8 vk, .int .i64 vn, .string ⟨#[]⟩, .slice none 0 0, .int .i64 0, .slice none 0 0, .int .i64 n, .int .i64 l, .int .i64 tg, .int .i64 bi, .int .u8 s, .bool fu, .slice none 0 0, .slice none 0 0]).heap[w.heap.size + 1]? = some (.cells #[.int .u8 k, .int .i64 h, .int .u8 vk, .int .i64 vn, .string ⟨#[]⟩, .slice none 0 0, .int .i64 0, .slice none 0 0, .int .i64 n, .int .i64 l, .int .i64 tg, .int .i64 bi, .int .u8 s, .bool fu, .slice none 0 0, .slice none 0 0] 73 (0, 0))) := G3a
  clear G3a
  have HB3 : Hid (Below w.heap.size w (w2.setRow (w.heap.size + 1) #[.int .u8 k, .int .i64 h, .int .u8 vk, .int .i64 vn, .string ⟨#[]⟩, .slice none 0 0, .int .i64 0, .slice none 0 0, .int .i64 n, .int .i64 l, .int .i64 tg, .int .i64 bi, .int .u8 s, .bool fu, .slice none 0 0, .slice none 0 0])) := Below.setRow HB2.out (Nat.le_succ _) _
  clear B2 R2 HB2
  go_wp2_with fail
  refine wp_loop_rounds 1 ?_
  rw [rounds_succ]
  go_wp2_with fail
  refine (cloneName_W _).mono ?_
  rintro e _ ⟨rfl, rfl⟩
  go_wp2_with fail
  refine wp_loop_rounds 1 ?_
  rw [rounds_succ]
  go_wp2_with fail
  refine (ownCode_W _).mono ?_
  rintro e _ ⟨rfl, rfl⟩
  go_wp2_with fail
  refine bodyPost_ret (results_What rfl _ _ _ _ _ rfl G3.out rfl) rfl ⟨rfl, HB3.out⟩
end Go.Proofs.YtifmifjbebpomaaGreatDoor
/- Walls: a world that is there, sides, parents, paths. -/
namespace Go.Proofs.YtifmifjbebpomaaGreatDoor
open Go.RowKit Go.Shelf Go.ChangeMaps Go.MapKept
variable {w : World} {p : Nat} {M : WM} {F : Nat → Prop}
theorem measure_down' {n k : Nat} (h : k < n) : n - ((k : Int) + 1).toNat < n - (k : Int).toNat := by omega
theorem blkNew (w : World) (o : Obj) {g : Nat} (h : g = w.heap.size) : (w.alloc o).heap[g]? = some o := by rw [h]; exact blk_new w o

theorem WM.ok.sides_pos (h : M.ok) : 0 < M.made.length := by have := h.made; omega
theorem WM.ok.sides_le (h : M.ok) : M.made.length ≤ 16 := by have := h.made; have := h.sides; omega
theorem wthere_W (hW : IsW w p M F) : Calls Tryz.prog 20 #[.pointer (some ⟨p, 0, none⟩)] w fun e w' => e = .returned (.bool true) ∧ w = w' := by
  have hS := Sides_W hW
  have hm : (0 : Int) < M.made.length := by have := hW.ok.sides_pos; omega
  have Hm := (show Hid (0 < M.made.length) from hW.ok.sides_pos)
  go_enter Tryz.func20, Tryz.ntmps20
  go_wp2_with (go_at_call 31; refine hS.mono ?_; rintro e w' ⟨rfl, rfl⟩)
  go_ret
  exact ⟨by simp; exact Hm.out, rfl⟩
theorem wside_W (hW : IsW w p M F) (s : Int) : Calls Tryz.prog 21 #[.pointer (some ⟨p, 0, none⟩), .int .i64 s] w fun e w' => e = .returned (.bool (sideB M s)) ∧ w = w' := by
  have hS := Sides_W hW
  by_cases h0 : 0 ≤ s
  · by_cases h1 : s < M.made.length
    · have e : sideB M s = true := sideB_iff.2 ⟨h0, h1⟩
      rw [e]
      go_enter Tryz.func21, Tryz.ntmps21
      go_wp2_with (go_at_call 31; refine hS.mono ?_; rintro e w' ⟨rfl, rfl⟩)
      go_ret
      exact ⟨by simp, rfl⟩
    · have e : sideB M s = false := by
        cases h : sideB M s with
        | false => rfl
        | true => exact absurd (sideB_iff.1 h).2 h1
      rw [e]
      go_enter Tryz.func21, Tryz.ntmps21
      go_wp2_with (go_at_call 31; refine hS.mono ?_; rintro e w' ⟨rfl, rfl⟩)
      go_ret
      exact ⟨by simp; omega, rfl⟩
  · have e : sideB M s = false := by
      cases h : sideB M s with
      | false => rfl
      | true => exact absurd (sideB_iff.1 h).1 h0
    rw [e]
    go_enter Tryz.func21, Tryz.ntmps21
    go_wp2
    go_ret
    exact ⟨rfl, rfl⟩

/-! ### a whole [16]int -/
theorem sizeA16 : (Tryz.prog.info? 95).map (·.size) = some 16 := by kernel_rfl
def ldA (a : Value) : Sem Next := do pure (.value (← Instr.loadAt 95 a))
def stA (a x : Value) : Sem Next := do Instr.storeAt 95 a x; pure .skip
@[go_sem ↓] theorem execOp_ldA (ρ : Operand → Value) (d : Option Tmp) (a : Operand) (ty : TypeId) (pos : String) (af : Array Edge) (g : Option (Nat × Bool)) :
    execOp ρ { dst := d, op := .load 95 a, type := ty, pos := pos, after := af, guard := g } = ldA (ρ a) := rfl
@[go_sem ↓] theorem execOp_stA (ρ : Operand → Value) (d : Option Tmp) (a x : Operand) (ty : TypeId) (pos : String) (af : Array Edge) (g : Option (Nat × Bool)) :
    execOp ρ { dst := d, op := .store 95 a x, type := ty, pos := pos, after := af, guard := g } = stA (ρ a) (ρ x) := rfl
theorem loadA_blk {w : World} {b : Nat} {cs : Array Value} {fr : Nat × Nat} (hg : w.heap[b]? = some (.cells cs 95 fr)) (hs : cs.size = 16) : (ldA (.pointer (some ⟨b, 0, none⟩))).run Tryz.prog w = .ok (.value (.agg cs)) w := by
  have := run_loadAt_blk hg Tryz.underlying95 rfl (by rw [hs]; exact sizeA16)
  simp only [ldA, Sem.run_bind, this, Result.andThen, Sem.run_pure]
theorem storeA_blk {w : World} {b : Nat} {c c' : Array Value} (hg : w.heap[b]? = some (.cells c 95 (0, 0))) (hs : c.size = 16) (hs' : c'.size = 16) (h1 : c'.all (·.oneCell') = true) :
    (stA (.pointer (some ⟨b, 0, none⟩)) (.agg c')).run Tryz.prog w = .ok .skip (w.setRow b c') := by
  have := run_storeAt_blk (P := Tryz.prog) hg (by rw [hs']; exact sizeA16) (by rw [hs, hs']) h1
  simp only [stA, Sem.run_bind, this, Result.andThen, Sem.run_pure]
/-- The parents in their cells, as far as they are told. -/
def parC (M : WM) (k : Nat) : Array Value := ((M.parsA k).map (Value.int .i64)).toArray
theorem parC_size (M : WM) (k : Nat) : (parC M k).size = 16 := by simp [parC, WM.parsA]
theorem parC_at (M : WM) (k s : Nat) (h : s < 16) : (parC M k)[s]? = some (.int .i64 (if s = 0 then -1 else if s < k then M.par (s - 1) else 0)) := by
  simp [parC, WM.parsA, h]
theorem parC_set (M : WM) (k : Nat) (h0 : 1 ≤ k) (h : k < 16) : (parC M k).setIfInBounds k (.int .i64 (M.par (k - 1))) = parC M (k + 1) := by
  apply Array.ext_getElem?
  intro i
  rw [Array.getElem?_setIfInBounds]
  by_cases hi : i < 16
  · rw [parC_at M (k + 1) i hi]
    by_cases e : k = i
    · subst e
      rw [if_pos rfl, if_pos (by rw [parC_size]; exact h), if_neg (by omega), if_pos (by omega)]
    · rw [if_neg e, parC_at M k i hi]
      congr 2
      by_cases hz : i = 0
      · rw [if_pos hz, if_pos hz]
      · rw [if_neg hz, if_neg hz]
        by_cases hk : i < k
        · rw [if_pos hk, if_pos (by omega)]
        · rw [if_neg hk, if_neg (by omega)]
  · rw [if_neg (by omega), Array.getElem?_eq_none (by rw [parC_size]; omega), Array.getElem?_eq_none (by rw [parC_size]; omega)]
theorem parC_cells (M : WM) (k : Nat) : (parC M k).all (·.oneCell') = true := by
  rw [Array.all_eq_true]
  intro i hi
  have h := parC_at M k i (by rw [parC_size] at hi; exact hi)
  rw [Array.getElem?_eq_getElem hi] at h
  rw [Option.some.inj h]
  rfl
theorem parC_one (M : WM) : (parC M 1) = #[.int .i64 (-1), .int .i64 0, .int .i64 0, .int .i64 0, .int .i64 0, .int .i64 0, .int .i64 0, .int .i64 0, .int .i64 0, .int .i64 0, .int .i64 0, .int .i64 0, .int .i64 0, .int .i64 0, .int .i64 0, .int .i64 0] := by
  apply Array.ext_getElem?
  intro i
  by_cases hi : i < 16
  · rw [parC_at M 1 i hi]
    match i, hi with
    | 0, _ => rfl
    | 1, _ => rfl
    | 2, _ => rfl
    | 3, _ => rfl
    | 4, _ => rfl
    | 5, _ => rfl
    | 6, _ => rfl
    | 7, _ => rfl
    | 8, _ => rfl
    | 9, _ => rfl
    | 10, _ => rfl
    | 11, _ => rfl
    | 12, _ => rfl
    | 13, _ => rfl
    | 14, _ => rfl
    | 15, _ => rfl
    | k + 16, h => omega
  · rw [Array.getElem?_eq_none (by rw [parC_size]; omega), Array.getElem?_eq_none (by simp; omega)]
def zero16 : Array Value := #[.int .i64 0, .int .i64 0, .int .i64 0, .int .i64 0, .int .i64 0, .int .i64 0, .int .i64 0, .int .i64 0, .int .i64 0, .int .i64 0, .int .i64 0, .int .i64 0, .int .i64 0, .int .i64 0, .int .i64 0, .int .i64 0]
/-- While parents is at work. -/
structure ParAt (M : WM) (w wr : World) (k : Nat) : Prop where
  size : wr.heap.size = w.heap.size + 2
  below : Below w.heap.size w wr
  out : wr.heap[w.heap.size]? = some (.cells zero16 95 (0, 0))
  arr : wr.heap[w.heap.size + 1]? = some (.cells (parC M k) 95 (0, 0))
theorem results_A16 {fn : Func} {q : Tmp} (h : fn.results = #[.cell q 95]) (tmps : Array Value) (W : World) (g : Nat) (cs : Array Value) (fr : Nat × Nat) (hp : tmps.getD q undef = .pointer (some ⟨g, 0, none⟩))
    (hg : W.heap[g]? = some (.cells cs 95 fr)) (hs : cs.size = 16) : (results fn tmps).run Tryz.prog W = .ok (.agg cs) W :=
  results_cell_row (P := Tryz.prog) h tmps W g 95 cs fr _ hp hg Tryz.underlying95 rfl (by rw [hs]; exact sizeA16)

theorem ParAt.put {M : WM} {w wr : World} {k : Nat} (h : ParAt M w wr k) (h0 : 1 ≤ k) (hk : k < 16) : ParAt M w (wr.setCell ⟨w.heap.size + 1, k, none⟩ (.int .i64 (M.par (k - 1)))) (k + 1) where
  size := by rw [World.size_setCell]; exact h.size
  below := h.below.setCell (by show w.heap.size ≤ w.heap.size + 1; omega) _
  out := blk_other h.out ⟨w.heap.size + 1, k, none⟩ _ (by show w.heap.size ≠ w.heap.size + 1; omega)
  arr := by rw [← parC_set M k h0 hk]; exact blk_setCell h.arr k _
set_option maxRecDepth 8000 in
theorem wparents_W (hW : IsW w p M F) : Calls Tryz.prog 32 #[.pointer (some ⟨p, 0, none⟩)] w fun e w' => e = .returned (.agg (parC M M.made.length)) ∧ Below w.heap.size w w' := by
  have HW := (show Hid (IsW w p M F) from hW)
  have Hp := (show Hid (0 < M.made.length ∧ M.made.length ≤ 16) from ⟨hW.ok.sides_pos, hW.ok.sides_le⟩)
  clear hW
  go_enter Tryz.func32, Tryz.ntmps32
  go_wp2_with fail
  go_loopw [4] (fun vk wr => ∃ k : Nat, vk = .int .i64 k ∧ 1 ≤ k ∧ k ≤ M.made.length ∧ Hid (ParAt M w wr k)) (fun vk _ => M.made.length - (intOf vk).toNat)
  case atStart =>
    refine ⟨1, rfl, Nat.le_refl _, Hp.out.1, by simp, ((Below.refl _ _).alloc (Nat.le_refl _) _).alloc (by simp) _, blk_old _ _ (blk_new w _), ?_⟩
    rw [parC_one]
    exact blkNew _ _ (by simp)
  case round =>
    obtain ⟨k, rfl, hk0, hk, HP⟩ := hrel
    have HWr : Hid (IsW wr p M F) := HW.out.below HP.out.below
    by_cases hkm : k < M.made.length
    · have hkz : (k : Int) < (M.made.length : Int) := by omega
      have hk16 : k < 16 := by have := Hp.out; omega
      have hk16z : (k : Int) < 16 := by omega
      have hc : wr.cell? ⟨w.heap.size + 1, k, none⟩ = some (.int .i64 (if k = 0 then -1 else if k < k then M.par (k - 1) else 0)) := by
        rw [cell_blk HP.out.arr, parC_at M k k hk16]
      have hf : wr.frozen? ⟨w.heap.size + 1, k, none⟩ = false := frozen_blk HP.out.arr k
      have hwk : wrap64 ((k : Int) + 1) = (k : Int) + 1 := by unfold wrap64; omega
      have HPn := HP.out.put hk0 hk16
      have hn := (show Hid _ from HPn)
      clear HPn
      go_wp2_with fail
      refine (Sides_W HWr.out).mono ?_
      rintro e _ ⟨rfl, rfl⟩
      go_wp2_with fail
      refine (Parent_W HWr.out k (by omega)).mono ?_
      rw [Int.toNat_natCast]
      rintro e _ ⟨rfl, rfl⟩
      go_wp2_with fail
      go_roundw
      case rel => exact ⟨k + 1, by go_num, by omega, by omega, hn⟩
      case measure => exact measure_down' hkm
    · obtain rfl : k = M.made.length := by omega
      go_wp2_with fail
      refine (Sides_W HWr.out).mono ?_
      rintro e _ ⟨rfl, rfl⟩
      have hld := loadA_blk HP.out.arr (parC_size M _)
      have hst := storeA_blk HP.out.out rfl (parC_size M M.made.length) (parC_cells M _)
      have HR : Hid ((wr.setRow w.heap.size (parC M M.made.length)).heap[w.heap.size]? = some (.cells (parC M M.made.length) 95 (0, 0))) := heap_setRow_at HP.out.out
      have HB : Hid (Below w.heap.size w (wr.setRow w.heap.size (parC M M.made.length))) := Below.setRow HP.out.below (Nat.le_refl _) _
      go_wp2_with fail
      exact ⟨rfl, _, results_A16 rfl _ _ w.heap.size _ _ rfl HR.out (parC_size M _), rfl, HB.out⟩

/-! ### paths -/
/-- The lists up and down of a path that is being gone. -/
structure UpDn (b0 : Nat) (w : World) (vu vd : Value) (u d : List Int) : Prop where
  up : w.ownsRow b0 3 1 vu u.length (u.map (Value.int .i64))
  dn : w.ownsRow b0 3 1 vd d.length (d.map (Value.int .i64))
  apart : vu.ownBlock = none ∨ vu.ownBlock ≠ vd.ownBlock
theorem row_some {w : World} {base : Nat} {e : TypeId} {v : Value} {n b : Nat} {xs : List Value} (h : w.ownsRow base e 1 v n xs) (hb : v.ownBlock = some b) : base ≤ b ∧ b < w.heap.size := h.lt b hb
theorem UpDn.upPut {b0 : Nat} {w w' : World} {vu vd v' : Value} {u d : List Int} {x : Int} (h : UpDn b0 w vu vd u d) (r1 : w'.ownsRow b0 3 1 v' (u.length + 1) ((u ++ [x]).map (Value.int .i64))) (r2 : w.grownBy w' vu.ownBlock)
    (r4 : v'.ownBlock = vu.ownBlock ∨ v'.ownBlock = some (w.heap.size + 1)) : UpDn b0 w' v' vd (u ++ [x]) d where
  up := by simpa using r1
  dn := h.dn.kept r2 (by
    rcases h.apart with e | e
    · rw [e]; cases vd.ownBlock <;> simp
    · exact .inr (fun e' => e e'.symm))
  apart := by
    rcases r4 with e | e
    · rw [e]; exact h.apart
    · rw [e]
      refine .inr fun e' => ?_
      have := h.dn.lt _ e'.symm
      omega
theorem UpDn.dnPut {b0 : Nat} {w w' : World} {vu vd v' : Value} {u d : List Int} {x : Int} (h : UpDn b0 w vu vd u d) (r1 : w'.ownsRow b0 3 1 v' (d.length + 1) ((d ++ [x]).map (Value.int .i64))) (r2 : w.grownBy w' vd.ownBlock)
    (r4 : v'.ownBlock = vd.ownBlock ∨ v'.ownBlock = some (w.heap.size + 1)) : UpDn b0 w' vu v' u (d ++ [x]) where
  up := h.up.kept r2 h.apart
  dn := by simpa using r1
  apart := by
    rcases r4 with e | e
    · rw [e]; exact h.apart
    · rw [e]
      cases hu : vu.ownBlock with
      | none => exact .inl rfl
      | some b =>
        refine .inr fun e' => ?_
        have := h.up.lt _ hu
        simp only [Option.some.injEq] at e'
        omega
/-- While path goes up. -/
structure PthAt (M : WM) (w : World) (B : Nat) (wr : World) : Prop where
  size : B < wr.heap.size
  below : Below w.heap.size w wr
  arr : wr.heap[B]? = some (.cells (parC M M.made.length) 95 (0, 0))
theorem PthAt.put {M : WM} {w wr w' : World} {B : Nat} {row : Option Nat} (h : PthAt M w B wr) (hw : w.heap.size ≤ B) (hg : wr.grownBy w' row) (hr : ∀ b, row = some b → B + 1 ≤ b) : PthAt M w B w' where
  size := Nat.lt_of_lt_of_le h.size hg.size
  below := h.below.grown hg h.below.size (fun k e => by have := hr k e; omega)
  arr := (hg.block B h.size (fun e => by have := hr B e.symm; omega)).trans h.arr
set_option maxHeartbeats 1000000 in
set_option maxRecDepth 8000 in
theorem wpath_W (hW : IsW w p M F) {a b : Nat} (ha : a < M.made.length) (hb : b < M.made.length) {u d : List Int} (hp : PathIs M a b u d) : Calls Tryz.prog 22 #[.pointer (some ⟨p, 0, none⟩), .int .i64 a, .int .i64 b] w fun e w' =>
    ∃ v, e = .returned v ∧ w'.ownsRow w.heap.size 3 1 v (u ++ d.reverse).length ((u ++ d.reverse).map (Value.int .i64)) ∧ Below w.heap.size w w' := by
  have HW := (show Hid (IsW w p M F) from hW)
  have H16 := (show Hid (M.made.length ≤ 16 ∧ M.ok) from ⟨hW.ok.sides_le, hW.ok⟩)
  have HP := (show Hid (PathIs M a b u d) from hp)
  have Hlen : Hid (u.length ≤ 16 ∧ d.length ≤ 16) := by
    have h1 := hp.len hW.ok ha hb
    have h2 := hW.ok.sides_le
    show _ ∧ _
    omega
  have Hab := (show Hid (a < M.made.length ∧ b < M.made.length) from ⟨ha, hb⟩)
  clear hW hp ha hb
  go_enter Tryz.func22, Tryz.ntmps22
  go_wp2_with fail
  refine (wparents_W HW.out).mono ?_
  rintro e w1 ⟨rfl, hb1⟩
  have HB1 := (show Hid (Below w.heap.size w w1) from hb1)
  have hst := storeA_blk (c := zero16) (blk_new w1 _) rfl (parC_size M M.made.length) (parC_cells M _)
  rw [World.setRow_alloc_new] at hst
  simp only [zero16] at hst
  have HA0 : Hid (PthAt M w w1.heap.size (w1.alloc (.cells (parC M M.made.length) 95))) := ⟨by simp, hb1.alloc hb1.size _, blk_new _ _⟩
  have HS : Hid (w.heap.size ≤ w1.heap.size) := hb1.size
  clear hb1
  go_wp2_with fail
  clear hst
  revert HA0
  generalize w1.alloc _ = w2
  generalize w1.heap.size = B at *
  intro HA0
  go_loopw [8, 9, 10, 11] (fun vu vd vx vy wr => ∃ (x y : Nat) (u1 d1 u2 d2 : List Int), vx = .int .i64 x ∧ vy = .int .i64 y ∧ Hid (UpDn (B + 1) wr vu vd u1 d1) ∧ Hid (PathIs M x y u2 d2) ∧ Hid (u = u1 ++ u2 ∧ d = d1 ++ d2) ∧ Hid (x < M.made.length ∧ y < M.made.length) ∧ Hid (PthAt M w B wr)) (fun _ _ vx vy _ => (intOf vx).toNat + (intOf vy).toNat)
  case atStart => exact ⟨a, b, [], [], u, d, rfl, rfl, ⟨World.ownsRow_nil _ _ _ _, World.ownsRow_nil _ _ _ _, .inl rfl⟩, HP.out, ⟨rfl, rfl⟩, ⟨Hab.out.1, Hab.out.2⟩, HA0.out⟩
  case round =>
    obtain ⟨x, y, u1, d1, u2, d2, rfl, rfl, HU, HQ, HE, HL, HA⟩ := hrel
    rcases Nat.lt_trichotomy x y with hl | hl | hl
    · obtain ⟨q, d2', hd2, hq, hQ'⟩ := HQ.out.inv_down hl
      obtain ⟨q', hq', hql⟩ := H16.out.2.par_nat (x := y) (by omega) HL.out.2
      obtain rfl : q = q' := by rw [hq] at hq'; omega
      have hy0 : y < 16 := by have := H16.out.1; have := HL.out.2; omega
      have hyz : (y : Int) < 16 := by omega
      have hne : ¬ ((x : Int) = y) := by omega
      have hgt : ¬ ((x : Int) > y) := by omega
      have HN : Hid ((d1.length : Int) ≤ 1099511627776) := by
        have h1 := Hlen.out.2
        rw [HE.out.2, List.length_append] at h1
        show _ ≤ _
        omega
      have HBs : Hid (B + 1 ≤ wr.heap.size) := HA.out.size
      have HD : Hid (wr.ownsRow (B + 1) 3 1 u9 d1.length (d1.map (Value.int .i64))) := HU.out.dn
      have hcy : ∀ W : World, PthAt M w B W → W.cell? ⟨B, y, none⟩ = some (.int .i64 (q : Int)) := fun W h => by
        rw [cell_blk h.arr, parC_at _ _ _ hy0, if_neg (by omega), if_pos HL.out.2, hq]
      have HC := (show Hid _ from hcy)
      have HX := (show Hid (d2 = (y : Int) :: d2' ∧ PathIs M x q u2 d2' ∧ q < y) from ⟨hd2, hQ', hql⟩)
      clear hcy hd2 hQ' hql hq hq'
      go_wp2_with (at_builtin; refine append_intT rfl _ _ rfl (B + 1) u9 d1 d1.length rfl HD (y : Int) rfl HN HBs ?_; intro v' w3 r1 r2 r4
                   have HA3 : Hid (PthAt M w B w3) := HA.out.put HS.out r2.out (fun b e => (HD.out.lt b e).1)
                   have hc3 := HC.out w3 HA3.out
                   have HU3 : Hid (UpDn (B + 1) w3 u8 v' u1 (d1 ++ [(y : Int)])) := HU.out.dnPut r1.out r2.out r4.out)
      go_roundw
      case rel =>
        refine ⟨x, q, u1, d1 ++ [(y : Int)], u2, d2', rfl, rfl, HU3.out, HX.out.2.1, ⟨HE.out.1, by rw [HE.out.2, HX.out.1]; simp⟩, ⟨HL.out.1, by have := HX.out.2.2; have := HL.out.2; omega⟩, HA3.out⟩
      case measure =>
        have := HX.out.2.2
        simp only [intOf]
        omega
    · subst hl
      obtain ⟨rfl, rfl⟩ := HQ.out.inv_eq
      have HE1 : Hid (u = u1 ∧ d = d1) := by
        have := HE.out
        show _ ∧ _
        simpa using this
      have hrv := rev_W wr HU.out.dn (by have := Hlen.out.2; rw [HE1.out.2] at this; omega)
      go_wp2_with fail
      refine hrv.mono ?_
      rintro e w3 ⟨rfl, r1, r2⟩
      have HU3 : Hid (w3.ownsRow (B + 1) 3 1 u8 u1.length (u1.map (Value.int .i64))) := by
        rcases HU.out.up.2 with ⟨rfl, h0⟩ | ⟨g, cap, cur, rfl, hbg, hg, hrest⟩
        · exact ⟨HU.out.up.1, .inl ⟨rfl, h0⟩⟩
        · refine ⟨HU.out.up.1, .inr ⟨g, cap, cur, rfl, hbg, (r2.out.block g (blk_lt hg) (fun e => ?_)).trans hg, hrest⟩⟩
          rcases HU.out.apart with h | h
          · cases h
          · exact h e.symm
      have HB3 : Hid (Below w.heap.size w w3) := by
        refine HA.out.below.trans (Keeps.below r2.out HA.out.below.size (fun b hb => ?_))
        have := (HU.out.dn.lt b hb).1
        have := HS.out
        omega
      have HR3 : Hid (w3.ownsRow (B + 1) 3 1 u9 d1.reverse.length (d1.reverse.map (Value.int .i64))) := by
        show World.ownsRow _ _ _ _ _ _ _
        rw [List.length_reverse]
        exact r1.out
      have HN3 : Hid (u1.length ≤ 1000 ∧ d1.reverse.length ≤ 1000) := by
        have := Hlen.out
        rw [HE1.out.1, HE1.out.2] at this
        show _ ∧ _
        rw [List.length_reverse]
        omega
      have HBs : Hid (B + 1 ≤ w3.heap.size) := Nat.le_trans HA.out.size r2.out.size
      clear hrv r1
      go_wp2_with (at_builtin; refine append_intsT rfl _ _ rfl (B + 1) u8 u1 rfl HU3 u9 d1.reverse rfl HR3 HN3 HBs ?_; intro v' w4 s1 s2)
      go_ret
      refine ⟨v', rfl, ?_, ?_⟩
      · rw [HE1.out.1, HE1.out.2]
        exact ⟨s1.out.1, by
          rcases s1.out.2 with h | ⟨g, cap, cur, h1, h2, h3⟩
          · exact .inl h
          · exact .inr ⟨g, cap, cur, h1, by have := HS.out; omega, h3⟩⟩
      · refine HB3.out.grown s2.out HB3.out.size (fun k e => ?_)
        have := (HU3.out.lt k e).1
        have := HS.out
        omega
    · obtain ⟨q, u2', hu2, hq, hQ'⟩ := HQ.out.inv_up hl
      obtain ⟨q', hq', hql⟩ := H16.out.2.par_nat (x := x) (by omega) HL.out.1
      obtain rfl : q = q' := by rw [hq] at hq'; omega
      have hx0 : x < 16 := by have := H16.out.1; have := HL.out.1; omega
      have hxz : (x : Int) < 16 := by omega
      have hne : ¬ ((x : Int) = y) := by omega
      have hgt : (x : Int) > y := by omega
      have HN : Hid ((u1.length : Int) ≤ 1099511627776) := by
        have h1 := Hlen.out.1
        rw [HE.out.1, List.length_append] at h1
        show _ ≤ _
        omega
      have HBs : Hid (B + 1 ≤ wr.heap.size) := HA.out.size
      have HD : Hid (wr.ownsRow (B + 1) 3 1 u8 u1.length (u1.map (Value.int .i64))) := HU.out.up
      have hcx : ∀ W : World, PthAt M w B W → W.cell? ⟨B, x, none⟩ = some (.int .i64 (q : Int)) := fun W h => by
        rw [cell_blk h.arr, parC_at _ _ _ hx0, if_neg (by omega), if_pos HL.out.1, hq]
      have HC := (show Hid _ from hcx)
      have HX := (show Hid (u2 = (x : Int) :: u2' ∧ PathIs M q y u2' d2 ∧ q < x) from ⟨hu2, hQ', hql⟩)
      clear hcx hu2 hQ' hql hq hq'
      go_wp2_with (at_builtin; refine append_intT rfl _ _ rfl (B + 1) u8 u1 u1.length rfl HD (x : Int) rfl HN HBs ?_; intro v' w3 r1 r2 r4
                   have HA3 : Hid (PthAt M w B w3) := HA.out.put HS.out r2.out (fun b e => (HD.out.lt b e).1)
                   have hc3 := HC.out w3 HA3.out
                   have HU3 : Hid (UpDn (B + 1) w3 v' u9 (u1 ++ [(x : Int)]) d1) := HU.out.upPut r1.out r2.out r4.out)
      go_roundw
      case rel =>
        exact ⟨q, y, u1 ++ [(x : Int)], d1, u2', d2, rfl, rfl, HU3.out, HX.out.2.1, ⟨by rw [HE.out.1, HX.out.1]; simp, HE.out.2⟩, ⟨by have := HX.out.2.2; have := HL.out.1; omega, HL.out.2⟩, HA3.out⟩
      case measure =>
        have := HX.out.2.2
        simp only [intOf]
        omega
set_option maxRecDepth 8000 in
theorem wPath_W (hW : IsW w p M F) {a b : Nat} (ha : a < M.made.length) (hb : b < M.made.length) {u d : List Int} (hp : PathIs M a b u d) : Calls Tryz.prog 7 #[.pointer (some ⟨p, 0, none⟩), .int .i64 a, .int .i64 b] w fun e w' =>
    ∃ v, e = .returned (.tuple #[v, .int .i64 0]) ∧ w'.ownsRow w.heap.size 3 1 v (u ++ d.reverse).length ((u ++ d.reverse).map (Value.int .i64)) ∧ Below w.heap.size w w' := by
  have h1 := wthere_W hW
  have h2 := wside_W hW a
  have h3 := wside_W hW b
  have h4 := wpath_W hW ha hb hp
  rw [sideB_iff.2 ⟨by omega, by omega⟩] at h2 h3
  go_enter Tryz.func7, Tryz.ntmps7
  go_wp2_with fail
  refine h1.mono ?_
  rintro e _ ⟨rfl, rfl⟩
  go_wp2_with fail
  refine h2.mono ?_
  rintro e _ ⟨rfl, rfl⟩
  go_wp2_with fail
  refine h3.mono ?_
  rintro e _ ⟨rfl, rfl⟩
  go_wp2_with fail
  refine h4.mono ?_
  rintro e w1 ⟨v, rfl, hr, hb⟩
  have H := (show Hid (w1.ownsRow w.heap.size 3 1 v (u ++ d.reverse).length ((u ++ d.reverse).map (Value.int .i64)) ∧ Below w.heap.size w w1) from ⟨hr, hb⟩)
  clear hr hb
  go_wp2_with fail
  go_ret2
  exact ⟨v, rfl, H.out⟩
end Go.Proofs.YtifmifjbebpomaaGreatDoor
