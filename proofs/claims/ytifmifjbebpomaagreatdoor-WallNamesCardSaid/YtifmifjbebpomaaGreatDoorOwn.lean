/- ownWhat of a light What: the same. -/
import Derived.Test.YtifmifjbebpomaaGreatDoorHeld
import Derived.Test.YtifmifjbebpomaaGreatDoorWholes
import Derived.Deep.QuietTactic
import Derived.BigQuiet
namespace Go.Proofs.YtifmifjbebpomaaGreatDoor
open Go.RowKit Go.ChangeMaps Go.MapKept

theorem setCell_same {w : World} {b i : Nat} {cs : Array Value} {e : TypeId} {fr : Nat × Nat} {v : Value} (h : w.heap[b]? = some (.cells cs e fr)) (hv : cs[i]? = some v) : w.setCell ⟨b, i, none⟩ v = w := by
  obtain ⟨hb, hg⟩ := Array.getElem?_eq_some_iff.1 h
  obtain ⟨hi, hgi⟩ := Array.getElem?_eq_some_iff.1 hv
  have key : ∀ (w2 : World), w2.heap = w.heap → { w2 with heap := w2.heap.modify b (fun _ => .cells cs e fr) } = w2 := by
    intro w2 h2
    have : w2.heap.modify b (fun _ => Obj.cells cs e fr) = w2.heap := by
      apply Array.ext_getElem?
      intro k
      rw [Array.getElem?_modify]
      split
      · rename_i hk
        subst hk
        rw [h2, h]
        rfl
      · rfl
    rw [this]
  have hs : cs.setIfInBounds i v = cs := by
    apply Array.ext_getElem?
    intro k
    rw [Array.getElem?_setIfInBounds]
    split
    · rename_i hk
      subst hk
      simp [hi, hgi]
    · rfl
  have hw : (w.setCell ⟨b, i, none⟩ v).heap = w.heap := by
    apply Array.ext_getElem?
    intro k
    by_cases hk : k = b
    · subst hk
      rw [blk_setCell h i v, h, hs]
    · exact Below.heap_setCell w ⟨b, i, none⟩ v k hk
  have : (w.setCell ⟨b, i, none⟩ v) = { w with heap := (w.setCell ⟨b, i, none⟩ v).heap } := rfl
  rw [this, hw]

theorem storeAt_same {P : Program} {w : World} {b i : Nat} {cs vs : Array Value} {e ty : TypeId} (h : w.heap[b]? = some (.cells cs e (0, 0))) (hi : (P.info? ty).map (·.size) = some vs.size) (hl : i + vs.size ≤ cs.size)
    (h1 : vs.all (·.oneCell') = true) (hs : (cs.toList.take i ++ vs.toList ++ cs.toList.drop (i + vs.size)) = cs.toList) : (Instr.storeAt ty (.pointer (some ⟨b, i, none⟩)) (.agg vs)).run P w = .ok () w := by
  simp only [Instr.storeAt, Instr.sureAddr, Sem.run_bind, Sem.run_pure, Result.andThen]
  have := run_storeCells_at (P := P) b i e vs.toList 0 cs w h (by simpa using hl) (fun v hv => (Array.all_eq_true_iff_forall_mem.1 h1) v (by simpa using hv))
  simp only [Nat.add_zero, Array.length_toList, hs, Array.toArray_toList, setRow_self w b cs e (0, 0) h] at this
  cases hq : P.info? ty with
  | none => simp [hq] at hi
  | some k =>
    have hs : vs.size = k.size := by simp [hq] at hi; omega
    simp [storeVar, sizeOf, typeInfo, hq, Value.cells, hs, this]
/-- A whole Value written: closed to the walk's simp. -/
def stV (a x : Value) : Sem Next := do Instr.storeAt 29 a x; pure .skip
theorem execOp_stV (ρ : Operand → Value) (d : Option Tmp) (a x : Operand) (ty : TypeId) (pos : String) (af : Array Edge) (g : Option (Nat × Bool)) :
    execOp ρ { dst := d, op := .store 29 a x, type := ty, pos := pos, after := af, guard := g } = stV (ρ a) (ρ x) := rfl
theorem stV_same {w : World} {b i : Nat} {cs vs : Array Value} {e : TypeId} (h : w.heap[b]? = some (.cells cs e (0, 0))) (h5 : vs.size = 5) (hl : i + vs.size ≤ cs.size)
    (h1 : vs.all (·.oneCell') = true) (hs : (cs.toList.take i ++ vs.toList ++ cs.toList.drop (i + vs.size)) = cs.toList) : (stV (.pointer (some ⟨b, i, none⟩)) (.agg vs)).run Tryz.prog w = .ok .skip w := by
  simp only [stV, Sem.run_bind, storeAt_same h (by rw [h5]; exact sizeValue) hl h1 hs, Result.andThen, Sem.run_pure]

theorem heap_setRow_other (w : World) (b : Nat) (c : Array Value) (k : Nat) (h : k ≠ b) : (w.setRow b c).heap[k]? = w.heap[k]? := by
  simp only [World.setRow, Array.getElem?_modify]
  rw [if_neg (Ne.symm h)]
theorem heap_setRow_at {w : World} {b : Nat} {c c' : Array Value} {e : TypeId} {fr : Nat × Nat} (h : w.heap[b]? = some (.cells c e fr)) : (w.setRow b c').heap[b]? = some (.cells c' e fr) := by
  simp only [World.setRow, Array.getElem?_modify]
  rw [if_pos trivial, h]
  rfl
theorem Below.setRow {B : Nat} {a w : World} (h : Below B a w) {b : Nat} (hb : B ≤ b) (c : Array Value) : Below B a (w.setRow b c) :=
  ⟨h.os, h.tape, h.output, by have := h.size; simpa [World.setRow] using this, fun k hk => (heap_setRow_other w b c k (by omega)).trans (h.block k hk)⟩

attribute [local go_sem ↓] execOp_stV in
set_option maxHeartbeats 1000000 in
set_option maxRecDepth 8000 in
theorem ownWhat_W (w : World) (k h vk vn n l tg bi s : Int) (fu : Bool) (hp : Plain vk vn) : Calls Tryz.prog 53 #[.agg #[.int .u8 k, .int .i64 h, .int .u8 vk, .int .i64 vn, .string ⟨#[]⟩, .slice none 0 0, .int .i64 0, .slice none 0 0, .int .i64 n, .int .i64 l, .int .i64 tg, .int .i64 bi, .int .u8 s, .bool fu, .slice none 0 0, .slice none 0 0]] w fun e w' =>
    e = .returned (.agg #[.int .u8 k, .int .i64 h, .int .u8 vk, .int .i64 vn, .string ⟨#[]⟩, .slice none 0 0, .int .i64 0, .slice none 0 0, .int .i64 n, .int .i64 l, .int .i64 tg, .int .i64 bi, .int .u8 s, .bool fu, .slice none 0 0, .slice none 0 0]) ∧ Below w.heap.size w w' := by
  go_enter Tryz.func53, Tryz.ntmps53
  go_wp2_with fail
  refine (wown_W _ vk vn hp).mono ?_
  rintro e w1 ⟨rfl, hb1⟩
  have B1 := below_blk hb1 (blk2_old _ _ _)
  have R1 := below_blk hb1 (blk2_new _ _ _)
  obtain ⟨a0, a1, a2, a3, a4, a5, a6, a7, a8, a9, a10, a11, a12, a13, a14, a15⟩ := cells16 B1
  have hsv := stV_same (i := 2) (vs := #[.int .u8 vk, .int .i64 vn, .string ⟨#[]⟩, .slice none 0 0, .int .i64 0]) B1 rfl (by simp) (by simp [go_sem]) (by simp)
  have hz : w.heap.size + 1 < w1.heap.size := by have := hb1.size; simp at this; omega
  have HB : Hid (Below w.heap.size w w1) := (((Below.refl _ _).alloc (Nat.le_refl _) _).alloc (by simp) _).trans (hb1.mono (by simp; omega))
  clear hb1
  go_wp2_with fail
  refine (cloneVal_W _).mono ?_
  rintro e w2 ⟨rfl, hb2⟩
  have B2 := below_blk hb2 B1
  have R2 := below_blk hb2 R1
  clear a0 a1 a2 a3 a4 a5 a6 a7 a8 a9 a10 a11 a12 a13 a14 a15 hsv
  have a7 : w2.cell? ⟨w.heap.size, 7, none⟩ = some (.slice none 0 0) := by rw [cell_blk B2]; rfl
  have a14 : w2.cell? ⟨w.heap.size, 14, none⟩ = some (.slice none 0 0) := by rw [cell_blk B2]; rfl
  have a15 : w2.cell? ⟨w.heap.size, 15, none⟩ = some (.slice none 0 0) := by rw [cell_blk B2]; rfl
  have f7 := frozen_blk B2 7
  have f14 := frozen_blk B2 14
  have f15 := frozen_blk B2 15
  have q7 : w2.setCell ⟨w.heap.size, 7, none⟩ (.slice none 0 0) = w2 := setCell_same B2 rfl
  have q14 : w2.setCell ⟨w.heap.size, 14, none⟩ (.slice none 0 0) = w2 := setCell_same B2 rfl
  have q15 : w2.setCell ⟨w.heap.size, 15, none⟩ (.slice none 0 0) = w2 := setCell_same B2 rfl
  have HB2 : Hid (Below w.heap.size w w2) := HB.out.trans (hb2.mono HB.out.size)
  clear hb2 HB B1 R1 hz
  have hld := loadWhat_blk B2 rfl
  have hst := storeWhat_blk (c' := #[.int .u8 k, .int .i64 h, .int .u8 vk, .int .i64 vn, .string ⟨#[]⟩, .slice none 0 0, .int .i64 0, .slice none 0 0, .int .i64 n, .int .i64 l, .int .i64 tg, .int .i64 bi, .int .u8 s, .bool fu, .slice none 0 0, .slice none 0 0]) R2 rfl rfl (by simp [go_sem])
  have G3a := heap_setRow_at (c' := #[.int .u8 k, .int .i64 h, .int .u8 vk, .int .i64 vn, .string ⟨#[]⟩, .slice none 0 0, .int .i64 0, .slice none 0 0, .int .i64 n, .int .i64 l, .int .i64 tg, .int .i64 bi, .int .u8 s, .bool fu, .slice none 0 0, .slice none 0 0]) R2
  have G3 : Hid ((w2.setRow (w.heap.size + 1) #[.int .u8 k, .int .i64 h, .int .u8 vk, .int .i64 vn, .string ⟨#[]⟩, .slice none 0 0, .int .i64 0, .slice none 0 0, .int .i64 n, .int .i64 l, .int .i64 tg, .int .i64 bi, .int .u8 s, .bool fu, .slice none 0 0, .slice none 0 0]).heap[w.heap.size + 1]? = some (.cells #[.int .u8 k, .int .i64 h, .int .u8 vk, .int .i64 vn, .string ⟨#[]⟩, .slice none 0 0, .int .i64 0, .slice none 0 0, .int .i64 n, .int .i64 l, .int .i64 tg, .int .i64 bi, .int .u8 s, .bool fu, .slice none 0 0, .slice none 0 0] 73 (0, 0))) := G3a
  clear G3a
  have HB3 : Hid (Below w.heap.size w (w2.setRow (w.heap.size + 1) #[.int .u8 k, .int .i64 h, .int .u8 vk, .int .i64 vn, .string ⟨#[]⟩, .slice none 0 0, .int .i64 0, .slice none 0 0, .int .i64 n, .int .i64 l, .int .i64 tg, .int .i64 bi, .int .u8 s, .bool fu, .slice none 0 0, .slice none 0 0])) := Below.setRow HB2.out (Nat.le_succ _) _
  clear B2 R2 HB2
  go_wp2_with fail
  refine wp_loop_rounds 1 ?_
  rw [rounds_succ]
  go_wp2_with fail
  refine (cloneName_W _).mono ?_
  rintro e _ ⟨rfl, rfl⟩
  go_wp2_with fail
  refine wp_loop_rounds 1 ?_
  rw [rounds_succ]
  go_wp2_with fail
  refine (ownCode_W _).mono ?_
  rintro e _ ⟨rfl, rfl⟩
  go_wp2_with fail
  refine bodyPost_ret (results_What rfl _ _ _ _ _ rfl G3.out rfl) rfl ⟨rfl, HB3.out⟩
end Go.Proofs.YtifmifjbebpomaaGreatDoor
