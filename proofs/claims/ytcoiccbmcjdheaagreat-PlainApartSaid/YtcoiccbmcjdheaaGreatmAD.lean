/- A part of the proof, several texts in one: Held, Own, WalkA, WalkB. -/
import Derived.Test.YtcoiccbmcjdheaaGreatmAC
import Derived.Deep.QuietTactic
import Derived.BigQuiet
import Derived.Test.YtcoiccbmcjdheaaGreatmAB
import Derived.Test.YtcoiccbmcjdheaaGreatmAA
/- What a light What holds: no references. The small tests on values. -/
namespace Go.Proofs.YtcoiccbmcjdheaaGreat
open Go.RowKit Go.ChangeMaps Go.MapKept

/-- A What without lists. -/
abbrev lite (k h vk vn n l tg bi s : Int) (fu : Bool) : Array Value := #[.int .u8 k, .int .i64 h, .int .u8 vk, .int .i64 vn, .string ⟨#[]⟩, .slice none 0 0, .int .i64 0, .slice none 0 0, .int .i64 n, .int .i64 l, .int .i64 tg, .int .i64 bi, .int .u8 s, .bool fu, .slice none 0 0, .slice none 0 0]

set_option maxRecDepth 8000 in
theorem held_W (w : World) (k h vk vn n l tg bi s : Int) (fu : Bool) (hp : Plain vk vn) : Calls Tryz.prog 96 #[.agg #[.int .u8 k, .int .i64 h, .int .u8 vk, .int .i64 vn, .string ⟨#[]⟩, .slice none 0 0, .int .i64 0, .slice none 0 0, .int .i64 n, .int .i64 l, .int .i64 tg, .int .i64 bi, .int .u8 s, .bool fu, .slice none 0 0, .slice none 0 0]] w fun e w' => e = .returned (.slice none 0 0) ∧ Below w.heap.size w w' := by
  go_enter Tryz.func96, Tryz.ntmps96
  go_wp2_with fail
  refine (vRefs_W _ vk vn hp).mono ?_
  rintro e w1 ⟨rfl, hb1⟩
  have B1 := below_blk hb1 (blk_new _ _)
  have c7 : w1.cell? ⟨w.heap.size, 7, none⟩ = some (.slice none 0 0) := by rw [cell_blk B1]; rfl
  have c15 : w1.cell? ⟨w.heap.size, 15, none⟩ = some (.slice none 0 0) := by rw [cell_blk B1]; rfl
  have HB : Hid (Below w.heap.size w w1) := ((Below.refl _ _).alloc (Nat.le_refl _) _).trans (hb1.mono (by simp; try omega))
  clear hb1 B1
  go_wp2_with fail
  go_rounds 1
  go_wp2_with fail
  go_rounds 1
  go_ret
  exact ⟨rfl, HB.out⟩

set_option maxRecDepth 8000 in
theorem names_W (w : World) (q : Option Addr) (k h vk vn n l tg bi s : Int) (fu : Bool) (hp : Plain vk vn) : Calls Tryz.prog 72 #[.pointer q, .agg #[.int .u8 k, .int .i64 h, .int .u8 vk, .int .i64 vn, .string ⟨#[]⟩, .slice none 0 0, .int .i64 0, .slice none 0 0, .int .i64 n, .int .i64 l, .int .i64 tg, .int .i64 bi, .int .u8 s, .bool fu, .slice none 0 0, .slice none 0 0]] w fun e w' => e = .returned (.bool true) ∧ Below w.heap.size w w' := by
  go_enter Tryz.func72, Tryz.ntmps72
  go_wp2_with fail
  refine (held_W _ k h vk vn n l tg bi s fu hp).mono ?_
  rintro e w1 ⟨rfl, hb1⟩
  have HB : Hid (Below w.heap.size w w1) := (((Below.refl _ _).alloc (Nat.le_refl _) _).alloc (by simp) _).trans (hb1.mono (by simp; try omega))
  clear hb1
  go_wp2_with fail
  refine (containsRef_W _ _).mono ?_
  rintro e w2 ⟨rfl, rfl⟩
  go_wp2_with fail
  go_ret
  exact ⟨rfl, HB.out⟩

set_option maxRecDepth 8000 in

set_option maxRecDepth 8000 in
theorem blank0_W (w : World) : Calls Tryz.prog 92 #[.agg #[.int .u8 0, .int .i64 0, .string ⟨#[]⟩, .slice none 0 0, .int .i64 0]] w fun e w' => e = .returned (.bool true) ∧ Below w.heap.size w w' := by
  go_enter Tryz.func92, Tryz.ntmps92
  go_wp2
  go_ret
  exact ⟨rfl, by go_grown⟩
set_option maxRecDepth 8000 in
theorem blank1_W (w : World) (n : Int) : Calls Tryz.prog 92 #[.agg #[.int .u8 1, .int .i64 n, .string ⟨#[]⟩, .slice none 0 0, .int .i64 0]] w fun e w' => e = .returned (.bool false) ∧ Below w.heap.size w w' := by
  go_enter Tryz.func92, Tryz.ntmps92
  go_wp2
  go_ret
  exact ⟨rfl, by go_grown⟩

set_option maxRecDepth 8000 in
theorem vall_W (w : World) : Calls Tryz.prog 43 #[.slice none 0 0] w fun e w' => e = .returned (.bool true) ∧ w = w' := by
  go_enter Tryz.func43, Tryz.ntmps43
  go_wp2_with fail
  go_in
  go_wp2_with fail
  go_in
  go_wp2_with fail
  go_rounds 1
  go_ret
  exact ⟨rfl, rfl⟩

set_option maxRecDepth 8000 in
theorem vMayL_W (w : World) : Calls Tryz.prog 27 #[.agg #[.int .u8 3, .int .i64 0, .string ⟨#[]⟩, .slice none 0 0, .int .i64 0]] w fun e w' => e = .returned (.bool true) ∧ Below w.heap.size w w' := by
  go_enter Tryz.func27, Tryz.ntmps27
  go_wp2
  go_region
  go_wp2
  go_rounds 1
  go_ret
  exact ⟨rfl, by go_grown⟩

set_option maxRecDepth 8000 in
theorem vOf_W (w : World) : Calls Tryz.prog 21 #[.slice none 0 0] w fun e w' => e = .returned (.tuple #[.agg #[.int .u8 3, .int .i64 0, .string ⟨#[]⟩, .slice none 0 0, .int .i64 0], .int .i64 0]) ∧ Below w.heap.size w w' := by
  go_enter Tryz.func21, Tryz.ntmps21
  go_wp2_with fail
  refine (vall_W _).mono ?_
  rintro e w0 ⟨rfl, rfl⟩
  go_wp2_with fail
  refine (vMayL_W _).mono ?_
  rintro e w1 ⟨rfl, hb1⟩
  have B0 := below_blk hb1 (blk2_old _ _ _)
  obtain ⟨⟨a0, a1, a2, a3, a4⟩, f0, f1, f2, f3, f4⟩ := cells5 (below_blk hb1 (blk2_new _ _ _))
  have hz : w.heap.size + 1 < w1.heap.size := by have := hb1.size; simp at this; omega
  have HB : Hid (Below w.heap.size w w1) := (((Below.refl _ _).alloc (Nat.le_refl _) _).alloc (by simp) _).trans (hb1.mono (by simp; omega))
  clear hb1
  go_wp2_with fail
  refine (vown_W _ 3 0).mono ?_
  rintro e w2 ⟨rfl, hb2⟩
  obtain ⟨⟨e0, e1, e2, e3, e4⟩, g0, g1, g2, g3, g4⟩ := cells5 (below_blk hb2 B0)
  have hz2 : w.heap.size < w2.heap.size := by have := hb2.size; omega
  have HB2 : Hid (Below w.heap.size w w2) := HB.out.trans (hb2.mono HB.out.size)
  clear hb2 B0
  go_wp2_with fail
  have hB := HB2.out
  exact bodyPost_ret (v := .tuple #[.agg #[.int .u8 3, .int .i64 0, .string ⟨#[]⟩, .slice none 0 0, .int .i64 0], .int .i64 0]) (by simp [results, Tryz.results21, go_sem, e0, e1, e2, e3, e4]) rfl ⟨rfl, by go_grown⟩
theorem cells16 {w : World} {b : Nat} {x0 x1 x2 x3 x4 x5 x6 x7 x8 x9 x10 x11 x12 x13 x14 x15 : Value} {e : TypeId} (h : w.heap[b]? = some (.cells #[x0, x1, x2, x3, x4, x5, x6, x7, x8, x9, x10, x11, x12, x13, x14, x15] e (0, 0))) :
    w.cell? ⟨b, 0, none⟩ = some x0 ∧ w.cell? ⟨b, 1, none⟩ = some x1 ∧ w.cell? ⟨b, 2, none⟩ = some x2 ∧ w.cell? ⟨b, 3, none⟩ = some x3 ∧ w.cell? ⟨b, 4, none⟩ = some x4 ∧ w.cell? ⟨b, 5, none⟩ = some x5 ∧ w.cell? ⟨b, 6, none⟩ = some x6 ∧ w.cell? ⟨b, 7, none⟩ = some x7 ∧ w.cell? ⟨b, 8, none⟩ = some x8 ∧ w.cell? ⟨b, 9, none⟩ = some x9 ∧ w.cell? ⟨b, 10, none⟩ = some x10 ∧ w.cell? ⟨b, 11, none⟩ = some x11 ∧ w.cell? ⟨b, 12, none⟩ = some x12 ∧ w.cell? ⟨b, 13, none⟩ = some x13 ∧ w.cell? ⟨b, 14, none⟩ = some x14 ∧ w.cell? ⟨b, 15, none⟩ = some x15 := by
  refine ⟨?_, ?_, ?_, ?_, ?_, ?_, ?_, ?_, ?_, ?_, ?_, ?_, ?_, ?_, ?_, ?_⟩ <;> (rw [cell_blk h]; rfl)
end Go.Proofs.YtcoiccbmcjdheaaGreat
/- ownWhat of a light What: the same. -/
namespace Go.Proofs.YtcoiccbmcjdheaaGreat
open Go.RowKit Go.ChangeMaps Go.MapKept

theorem setCell_same {w : World} {b i : Nat} {cs : Array Value} {e : TypeId} {fr : Nat × Nat} {v : Value} (h : w.heap[b]? = some (.cells cs e fr)) (hv : cs[i]? = some v) : w.setCell ⟨b, i, none⟩ v = w := by
  obtain ⟨hb, hg⟩ := Array.getElem?_eq_some_iff.1 h
  obtain ⟨hi, hgi⟩ := Array.getElem?_eq_some_iff.1 hv
  have key : ∀ (w2 : World), w2.heap = w.heap → { w2 with heap := w2.heap.modify b (fun _ => .cells cs e fr) } = w2 := by
    intro w2 h2
    have : w2.heap.modify b (fun _ => Obj.cells cs e fr) = w2.heap := by
      apply Array.ext_getElem?
      intro k
      rw [Array.getElem?_modify]
      split
      · rename_i hk
        subst hk
        rw [h2, h]
        rfl
      · rfl
    rw [this]
  have hs : cs.setIfInBounds i v = cs := by
    apply Array.ext_getElem?
    intro k
    rw [Array.getElem?_setIfInBounds]
    split
    · rename_i hk
      subst hk
      simp [hi, hgi]
    · rfl
  have hw : (w.setCell ⟨b, i, none⟩ v).heap = w.heap := by
    apply Array.ext_getElem?
    intro k
    by_cases hk : k = b
    · subst hk
      rw [blk_setCell h i v, h, hs]
    · exact Below.heap_setCell w ⟨b, i, none⟩ v k hk
  have : (w.setCell ⟨b, i, none⟩ v) = { w with heap := (w.setCell ⟨b, i, none⟩ v).heap } := rfl
  rw [this, hw]

theorem storeAt_same {P : Program} {w : World} {b i : Nat} {cs vs : Array Value} {e ty : TypeId} (h : w.heap[b]? = some (.cells cs e (0, 0))) (hi : (P.info? ty).map (·.size) = some vs.size) (hl : i + vs.size ≤ cs.size)
    (h1 : vs.all (·.oneCell') = true) (hs : (cs.toList.take i ++ vs.toList ++ cs.toList.drop (i + vs.size)) = cs.toList) : (Instr.storeAt ty (.pointer (some ⟨b, i, none⟩)) (.agg vs)).run P w = .ok () w := by
  simp only [Instr.storeAt, Instr.sureAddr, Sem.run_bind, Sem.run_pure, Result.andThen]
  have := run_storeCells_at (P := P) b i e vs.toList 0 cs w h (by simpa using hl) (fun v hv => (Array.all_eq_true_iff_forall_mem.1 h1) v (by simpa using hv))
  simp only [Nat.add_zero, Array.length_toList, hs, Array.toArray_toList, setRow_self w b cs e (0, 0) h] at this
  cases hq : P.info? ty with
  | none => simp [hq] at hi
  | some k =>
    have hs : vs.size = k.size := by simp [hq] at hi; omega
    simp [storeVar, sizeOf, typeInfo, hq, Value.cells, hs, this]
/-- A whole Value written: closed to the walk's simp. -/
def stV (a x : Value) : Sem Next := do Instr.storeAt 34 a x; pure .skip
theorem execOp_stV (ρ : Operand → Value) (d : Option Tmp) (a x : Operand) (ty : TypeId) (pos : String) (af : Array Edge) (g : Option (Nat × Bool)) :
    execOp ρ { dst := d, op := .store 34 a x, type := ty, pos := pos, after := af, guard := g } = stV (ρ a) (ρ x) := rfl
theorem stV_same {w : World} {b i : Nat} {cs vs : Array Value} {e : TypeId} (h : w.heap[b]? = some (.cells cs e (0, 0))) (h5 : vs.size = 5) (hl : i + vs.size ≤ cs.size)
    (h1 : vs.all (·.oneCell') = true) (hs : (cs.toList.take i ++ vs.toList ++ cs.toList.drop (i + vs.size)) = cs.toList) : (stV (.pointer (some ⟨b, i, none⟩)) (.agg vs)).run Tryz.prog w = .ok .skip w := by
  simp only [stV, Sem.run_bind, storeAt_same h (by rw [h5]; exact sizeValue) hl h1 hs, Result.andThen, Sem.run_pure]

theorem heap_setRow_other (w : World) (b : Nat) (c : Array Value) (k : Nat) (h : k ≠ b) : (w.setRow b c).heap[k]? = w.heap[k]? := by
  simp only [World.setRow, Array.getElem?_modify]
  rw [if_neg (Ne.symm h)]
theorem heap_setRow_at {w : World} {b : Nat} {c c' : Array Value} {e : TypeId} {fr : Nat × Nat} (h : w.heap[b]? = some (.cells c e fr)) : (w.setRow b c').heap[b]? = some (.cells c' e fr) := by
  simp only [World.setRow, Array.getElem?_modify]
  rw [if_pos trivial, h]
  rfl
theorem Below.setRow {B : Nat} {a w : World} (h : Below B a w) {b : Nat} (hb : B ≤ b) (c : Array Value) : Below B a (w.setRow b c) :=
  ⟨h.os, h.tape, h.output, by have := h.size; simpa [World.setRow] using this, fun k hk => (heap_setRow_other w b c k (by omega)).trans (h.block k hk)⟩

attribute [local go_sem ↓] execOp_stV in
set_option maxHeartbeats 1000000 in
set_option maxRecDepth 8000 in
theorem ownWhat_W (w : World) (k h vk vn n l tg bi s : Int) (fu : Bool) (hp : Plain vk vn) : Calls Tryz.prog 36 #[.agg #[.int .u8 k, .int .i64 h, .int .u8 vk, .int .i64 vn, .string ⟨#[]⟩, .slice none 0 0, .int .i64 0, .slice none 0 0, .int .i64 n, .int .i64 l, .int .i64 tg, .int .i64 bi, .int .u8 s, .bool fu, .slice none 0 0, .slice none 0 0]] w fun e w' =>
    e = .returned (.agg #[.int .u8 k, .int .i64 h, .int .u8 vk, .int .i64 vn, .string ⟨#[]⟩, .slice none 0 0, .int .i64 0, .slice none 0 0, .int .i64 n, .int .i64 l, .int .i64 tg, .int .i64 bi, .int .u8 s, .bool fu, .slice none 0 0, .slice none 0 0]) ∧ Below w.heap.size w w' := by
  go_enter Tryz.func36, Tryz.ntmps36
  go_wp2_with fail
  refine (wown_W _ vk vn hp).mono ?_
  rintro e w1 ⟨rfl, hb1⟩
  have B1 := below_blk hb1 (blk2_old _ _ _)
  have R1 := below_blk hb1 (blk2_new _ _ _)
  obtain ⟨a0, a1, a2, a3, a4, a5, a6, a7, a8, a9, a10, a11, a12, a13, a14, a15⟩ := cells16 B1
  have hsv := stV_same (i := 2) (vs := #[.int .u8 vk, .int .i64 vn, .string ⟨#[]⟩, .slice none 0 0, .int .i64 0]) B1 rfl (by simp) (by simp [go_sem]) (by simp)
  have hz : w.heap.size + 1 < w1.heap.size := by have := hb1.size; simp at this; omega
  have HB : Hid (Below w.heap.size w w1) := (((Below.refl _ _).alloc (Nat.le_refl _) _).alloc (by simp) _).trans (hb1.mono (by simp; omega))
  clear hb1
  go_wp2_with fail
  refine (cloneVal_W _).mono ?_
  rintro e w2 ⟨rfl, hb2⟩
  have B2 := below_blk hb2 B1
  have R2 := below_blk hb2 R1
  clear a0 a1 a2 a3 a4 a5 a6 a7 a8 a9 a10 a11 a12 a13 a14 a15 hsv
  have a7 : w2.cell? ⟨w.heap.size, 7, none⟩ = some (.slice none 0 0) := by rw [cell_blk B2]; rfl
  have a14 : w2.cell? ⟨w.heap.size, 14, none⟩ = some (.slice none 0 0) := by rw [cell_blk B2]; rfl
  have a15 : w2.cell? ⟨w.heap.size, 15, none⟩ = some (.slice none 0 0) := by rw [cell_blk B2]; rfl
  have f7 := frozen_blk B2 7
  have f14 := frozen_blk B2 14
  have f15 := frozen_blk B2 15
  have q7 : w2.setCell ⟨w.heap.size, 7, none⟩ (.slice none 0 0) = w2 := setCell_same B2 rfl
  have q14 : w2.setCell ⟨w.heap.size, 14, none⟩ (.slice none 0 0) = w2 := setCell_same B2 rfl
  have q15 : w2.setCell ⟨w.heap.size, 15, none⟩ (.slice none 0 0) = w2 := setCell_same B2 rfl
  have HB2 : Hid (Below w.heap.size w w2) := HB.out.trans (hb2.mono HB.out.size)
  clear hb2 HB B1 R1 hz
  have hld := loadWhat_blk B2 rfl
  have hst := storeWhat_blk (c' := #[.int .u8 k, .int .i64 h, .int .u8 vk, .int .i64 vn, .string ⟨#[]⟩, .slice none 0 0, .int .i64 0, .slice none 0 0, .int .i64 n, .int .i64 l, .int .i64 tg, .int .i64 bi, .int .u8 s, .bool fu, .slice none 0 0, .slice none 0 0]) R2 rfl rfl (by simp [go_sem])
  have G3a := heap_setRow_at (c' := #[.int .u8 k, .int .i64 h, .int .u8 vk, .int .i64 vn, .string ⟨#[]⟩, .slice none 0 0, .int .i64 0, .slice none 0 0, .int .i64 n, .int .i64 l, .int .i64 tg, .int .i64 bi, .int .u8 s, .bool fu, .slice none 0 0, .slice none 0 0]) R2
  have G3 : Hid ((w2.setRow (w.heap.size + 1) #[.int .u8 k, .int .i64 h, .int .u8 vk, .int .i64 vn, .string ⟨#[]⟩, .slice none 0 0, .int .i64 0, .slice none 0 0, .int .i64 n, .int .i64 l, .int .i64 tg, .int .i64 bi, .int .u8 s, .bool fu, .slice none 0 0, .slice none 0 0]).heap[w.heap.size + 1]? = some (.cells #[.int .u8 k, .int .i64 h, .int .u8 vk, .int .i64 vn, .string ⟨#[]⟩, .slice none 0 0, .int .i64 0, .slice none 0 0, .int .i64 n, .int .i64 l, .int .i64 tg, .int .i64 bi, .int .u8 s, .bool fu, .slice none 0 0, .slice none 0 0] 42 (0, 0))) := G3a
  clear G3a
  have HB3 : Hid (Below w.heap.size w (w2.setRow (w.heap.size + 1) #[.int .u8 k, .int .i64 h, .int .u8 vk, .int .i64 vn, .string ⟨#[]⟩, .slice none 0 0, .int .i64 0, .slice none 0 0, .int .i64 n, .int .i64 l, .int .i64 tg, .int .i64 bi, .int .u8 s, .bool fu, .slice none 0 0, .slice none 0 0])) := Below.setRow HB2.out (Nat.le_succ _) _
  clear B2 R2 HB2
  go_wp2_with fail
  refine wp_loop_rounds 1 ?_
  rw [rounds_succ]
  go_wp2_with fail
  refine (cloneName_W _).mono ?_
  rintro e _ ⟨rfl, rfl⟩
  go_wp2_with fail
  refine wp_loop_rounds 1 ?_
  rw [rounds_succ]
  go_wp2_with fail
  refine (ownCode_W _).mono ?_
  rintro e _ ⟨rfl, rfl⟩
  go_wp2_with fail
  refine bodyPost_ret (results_What rfl _ _ _ _ _ rfl G3.out rfl) rfl ⟨rfl, HB3.out⟩
end Go.Proofs.YtcoiccbmcjdheaaGreat
/- The small calls on a world: who is there, what kind it is, what a kind can. -/
namespace Go.Proofs.YtcoiccbmcjdheaaGreat
open Go.RowKit Go.ChangeMaps Go.MapKept

section
variable {w : World} {p : Nat} {M : WM} {F : Nat → Prop}

theorem none_W (hW : IsW w p M F) : Calls Tryz.prog 32 #[.pointer (some ⟨p, 0, none⟩)] w fun e w' => e = .returned (.bool false) ∧ w = w' := by
  obtain ⟨pa, pc, cg, cc, mg, mc, tb, fb, fn, bl, h⟩ := hW
  have c2 := h.c2
  go_enter Tryz.func32, Tryz.ntmps32
  go_wp2
  go_ret
  exact ⟨rfl, rfl⟩

theorem Sides_W (hW : IsW w p M F) : Calls Tryz.prog 69 #[.pointer (some ⟨p, 0, none⟩)] w fun e w' => e = .returned (.int .i64 M.made.length) ∧ w = w' := by
  have hn := none_W hW
  obtain ⟨pa, pc, cg, cc, mg, mc, tb, fb, fn, bl, h⟩ := hW
  have c5 := h.c5
  go_enter Tryz.func69, Tryz.ntmps69
  go_wp2_with (go_at_call 32; refine hn.mono ?_; rintro e w' ⟨rfl, rfl⟩)
  go_ret
  exact ⟨rfl, rfl⟩

def sideB (M : WM) (s : Int) : Bool := decide (0 ≤ s ∧ s < M.made.length)
theorem sideB_iff {M : WM} {s : Int} : sideB M s = true ↔ 0 ≤ s ∧ s < M.made.length := by simp [sideB]

theorem side_W (hW : IsW w p M F) (s : Int) : Calls Tryz.prog 70 #[.pointer (some ⟨p, 0, none⟩), .int .i64 s] w fun e w' => e = .returned (.bool (sideB M s)) ∧ w = w' := by
  have hn := Sides_W hW
  by_cases h0 : 0 ≤ s
  · go_enter Tryz.func70, Tryz.ntmps70
    go_wp2_with (go_at_call 69; refine hn.mono ?_; rintro e w' ⟨rfl, rfl⟩)
    go_ret
    exact ⟨by simp [sideB, h0], rfl⟩
  · go_enter Tryz.func70, Tryz.ntmps70
    go_wp2_with (go_at_call 69; refine hn.mono ?_; rintro e w' ⟨rfl, rfl⟩)
    go_ret
    exact ⟨by simp [sideB]; omega, rfl⟩

def edgeB (M : WM) (n : Int) : Bool := decide (0 < n ∧ n < M.made.length)

theorem Is_W (hW : IsW w p M F) {r : Int} (hr : (Lit.int .i64 r).wf = true) : Calls Tryz.prog 39 #[.pointer (some ⟨p, 0, none⟩), .int .i64 r] w fun e w' => e = .returned (.bool (M.at r).isSome) ∧ w = w' := by
  have hn := none_W hW
  obtain ⟨pa, pc, cg, cc, mg, mc, tb, fb, fn, bl, h⟩ := hW
  have c2 := h.c2
  have hl := h.look hr
  cases ha : M.at r with
  | none =>
    rw [ha] at hl
    simp only [Option.map_none] at hl
    go_enter Tryz.func39, Tryz.ntmps39
    go_wp2_with (go_at_call 32; refine hn.mono ?_; rintro e w' ⟨rfl, rfl⟩)
    go_ret
    exact ⟨rfl, rfl⟩
  | some t =>
    rw [ha] at hl
    simp only [Option.map_some] at hl
    go_enter Tryz.func39, Tryz.ntmps39
    go_wp2_with (go_at_call 32; refine hn.mono ?_; rintro e w' ⟨rfl, rfl⟩)
    go_ret
    exact ⟨rfl, rfl⟩

theorem thc_cell {w : World} {b : Nat} {t : Th} (h : w.heap[b]? = some (.cells (thc t) 42 (0, 0))) :
    w.cell? ⟨b, 0, none⟩ = some (.int .u8 t.kind) ∧ w.cell? ⟨b, 1, none⟩ = some (.int .i64 t.home) ∧ w.cell? ⟨b, 8, none⟩ = some (.int .i64 t.n) ∧ w.cell? ⟨b, 9, none⟩ = some (.int .i64 t.lost) ∧
    w.cell? ⟨b, 10, none⟩ = some (.int .i64 t.tgt) ∧ w.cell? ⟨b, 11, none⟩ = some (.int .i64 t.bi) ∧ w.cell? ⟨b, 12, none⟩ = some (.int .u8 t.set) ∧ w.cell? ⟨b, 13, none⟩ = some (.bool t.full) :=
  ⟨by rw [cell_blk h]; rfl, by rw [cell_blk h]; rfl, by rw [cell_blk h]; rfl, by rw [cell_blk h]; rfl, by rw [cell_blk h]; rfl, by rw [cell_blk h]; rfl, by rw [cell_blk h]; rfl, by rw [cell_blk h]; rfl⟩

def WM.kindOf (M : WM) (r : Int) : Int := ((M.at r).map Th.kind).getD 0

theorem Kind_W (hW : IsW w p M F) {r : Int} (hr : (Lit.int .i64 r).wf = true) : Calls Tryz.prog 100 #[.pointer (some ⟨p, 0, none⟩), .int .i64 r] w fun e w' => e = .returned (.int .u8 (M.kindOf r)) ∧ w = w' := by
  have hn := Is_W hW hr
  obtain ⟨pa, pc, cg, cc, mg, mc, tb, fb, fn, bl, h⟩ := hW
  have c2 := h.c2
  have hl := h.look hr
  cases ha : M.at r with
  | none =>
    rw [ha] at hn
    go_enter Tryz.func100, Tryz.ntmps100
    go_wp2_with (go_at_call 39; refine hn.mono ?_; rintro e w' ⟨rfl, rfl⟩)
    go_ret
    exact ⟨by simp [WM.kindOf, ha], rfl⟩
  | some t =>
    rw [ha] at hl hn
    simp only [Option.map_some] at hl
    obtain ⟨k0, k1, -, -, k6, k7, k8, k9⟩ := thc_cell (h.blk r t ha).1
    go_enter Tryz.func100, Tryz.ntmps100
    go_wp2_with (go_at_call 39; refine hn.mono ?_; rintro e w' ⟨rfl, rfl⟩)
    go_ret
    exact ⟨by simp [WM.kindOf, ha], rfl⟩

def WM.homeOf (M : WM) (r : Int) : Int := match M.at r with | some t => if t.kind = 14 then 0 else t.home | none => 0
def WM.hasHome (M : WM) (r : Int) : Bool := match M.at r with | some t => !decide (t.kind = 14) | none => false



theorem Made_W (hW : IsW w p M F) (s : Int) : Calls Tryz.prog 48 #[.pointer (some ⟨p, 0, none⟩), .int .i64 s] w fun e w' =>
    e = .returned (.int .i64 (if sideB M s = true then M.made.getD s.toNat 0 else 0)) ∧ w = w' := by
  have hn := side_W hW s
  obtain ⟨pa, pc, cg, cc, mg, mc, tb, fb, fn, bl, h⟩ := hW
  have c5 := h.c5
  cases hs : sideB M s with
  | false =>
    rw [hs] at hn
    go_enter Tryz.func48, Tryz.ntmps48
    go_wp2_with (go_at_call 70; refine hn.mono ?_; rintro e w' ⟨rfl, rfl⟩)
    go_ret
    exact ⟨rfl, rfl⟩
  | true =>
    rw [hs] at hn
    obtain ⟨h1, h2⟩ := sideB_iff.1 hs
    obtain ⟨n, rfl⟩ := Int.eq_ofNat_of_zero_le h1
    have hc : w.cell? ⟨mg, n, none⟩ = some (.int .i64 (M.made.getD n 0)) := h.mad.cell (by rw [List.getElem?_map, List.getElem?_eq_getElem (by omega), List.getD_eq_getElem?_getD, List.getElem?_eq_getElem (by omega)]; rfl)
    obtain ⟨v, hv⟩ : ∃ v, v = M.made.getD n 0 := ⟨_, rfl⟩
    rw [← hv] at hc
    rw [Int.toNat_natCast, ← hv]
    clear hv
    go_enter Tryz.func48, Tryz.ntmps48
    go_wp2_with (go_at_call 70; refine hn.mono ?_; rintro e w' ⟨rfl, rfl⟩)
    go_ret
    exact ⟨rfl, rfl⟩
end

theorem asksBy_W (k : Int) (w : World) : Calls Tryz.prog 74 #[.int .u8 k] w fun e w' => e = .returned (.bool (k == 15 || k == 16)) ∧ w = w' := by
  by_cases h1 : k = 15
  · subst h1
    go_enter Tryz.func74, Tryz.ntmps74
    go_wp2
    go_ret
    exact ⟨rfl, rfl⟩
  · have h1 : (k == 15) = false := by simp [h1]
    go_enter Tryz.func74, Tryz.ntmps74
    go_wp2
    go_ret
    exact ⟨by simp [h1], rfl⟩
theorem wraps_W (k : Int) (w : World) : Calls Tryz.prog 98 #[.int .u8 k] w fun e w' => e = .returned (.bool (wrapsB k)) ∧ w = w' := by
  by_cases h1 : k = 14
  · subst h1
    go_enter Tryz.func98, Tryz.ntmps98
    go_wp2
    go_ret
    exact ⟨rfl, rfl⟩
  · have h1 : (k == 14) = false := by simp [h1]
    by_cases h2 : k = 15
    · subst h2
      go_enter Tryz.func98, Tryz.ntmps98
      go_wp2
      go_ret
      exact ⟨rfl, rfl⟩
    · have h2 : (k == 15) = false := by simp [h2]
      go_enter Tryz.func98, Tryz.ntmps98
      go_wp2
      go_ret
      exact ⟨by simp [wrapsB, h1, h2], rfl⟩
def asksOfB (k : Int) : Bool := k == 6 || k == 7 || k == 9 || k == 11 || wrapsB k
end Go.Proofs.YtcoiccbmcjdheaaGreat
/- What a thing is able to, its way, its base; the sides' tree. -/
namespace Go.Proofs.YtcoiccbmcjdheaaGreat
open Go.RowKit Go.ChangeMaps Go.MapKept

def meet2 (a b : Int) : Int := bits BinOp.and IntKind.u8 (bits BinOp.and IntKind.u8 63 a) b
def canM (k : Int) : Int :=
  if k = 1 then 3 else if k = 2 then 9 else if k = 3 then 9 else if k = 4 then 12 else if k = 5 then 16 else if k = 6 then 16 else if k = 8 then 16 else if k = 12 then 16 else if k = 9 then 13 else if k = 10 then 1 else if k = 11 then 8 else if k = 13 then 33 else 0

theorem Meet_new (w : World) (a b : Int) :
    Calls Tryz.prog 108 #[.slice (some ⟨w.heap.size, 0, none⟩) 2 2] (w.alloc (.cells #[.int .u8 a, .int .u8 b] 38)) fun e w' => e = .returned (.int .u8 (meet2 a b)) ∧ w.alloc (.cells #[.int .u8 a, .int .u8 b] 38) = w' := by
  have h0 : (w.alloc (.cells #[.int .u8 a, .int .u8 b] 38)).cell? ⟨w.heap.size, 0, none⟩ = some (.int .u8 a) := by rw [cell_blk (blk_new w _)]; rfl
  have h1 : (w.alloc (.cells #[.int .u8 a, .int .u8 b] 38)).cell? ⟨w.heap.size, 1, none⟩ = some (.int .u8 b) := by rw [cell_blk (blk_new w _)]; rfl
  generalize w.alloc (.cells #[.int .u8 a, .int .u8 b] 38) = w1 at h0 h1 ⊢
  go_enter Tryz.func108, Tryz.ntmps108
  go_wp2
  go_rounds 3
  go_ret
  exact ⟨rfl, rfl⟩

theorem can_W (k : Int) (w : World) : Calls Tryz.prog 109 #[.int .u8 k] w fun e w' => e = .returned (.int .u8 (canM k)) ∧ Below w.heap.size w w' := by
  by_cases h1 : k = 1
  · subst h1
    go_enter Tryz.func109, Tryz.ntmps109
    go_wp2
    go_rounds 3
    go_ret
    exact ⟨rfl, by go_grown⟩
  by_cases h2 : k = 2
  · subst h2
    clear h1
    go_enter Tryz.func109, Tryz.ntmps109
    go_wp2
    go_rounds 3
    go_ret
    exact ⟨rfl, by go_grown⟩
  by_cases h3 : k = 3
  · subst h3
    clear h1 h2
    go_enter Tryz.func109, Tryz.ntmps109
    go_wp2
    go_rounds 3
    go_ret
    exact ⟨rfl, by go_grown⟩
  by_cases h4 : k = 4
  · subst h4
    clear h1 h2 h3
    go_enter Tryz.func109, Tryz.ntmps109
    go_wp2
    go_rounds 3
    go_ret
    exact ⟨rfl, by go_grown⟩
  by_cases h9 : k = 9
  · subst h9
    clear h1 h2 h3 h4
    go_enter Tryz.func109, Tryz.ntmps109
    go_wp2
    go_rounds 4
    go_ret
    exact ⟨rfl, by go_grown⟩
  by_cases h13 : k = 13
  · subst h13
    clear h1 h2 h3 h4 h9
    go_enter Tryz.func109, Tryz.ntmps109
    go_wp2
    go_rounds 3
    go_ret
    exact ⟨rfl, by go_grown⟩
  have g1 : (k == 1) = false := by simp [h1]
  have g2 : (k == 2) = false := by simp [h2]
  have g3 : (k == 3) = false := by simp [h3]
  have g4 : (k == 4) = false := by simp [h4]
  have g9 : (k == 9) = false := by simp [h9]
  have g13 : (k == 13) = false := by simp [h13]
  have H : Hid (canM k = if k = 5 then 16 else if k = 6 then 16 else if k = 8 then 16 else if k = 12 then 16 else if k = 10 then 1 else if k = 11 then 8 else 0) := by
    show canM k = _
    simp only [canM, if_neg h1, if_neg h2, if_neg h3, if_neg h4, if_neg h9, if_neg h13]
  clear h1 h2 h3 h4 h9 h13
  by_cases h5 : k = 5
  · subst h5
    go_enter Tryz.func109, Tryz.ntmps109
    go_wp2
    go_ret
    exact ⟨by rw [H.out]; rfl, by go_grown⟩
  by_cases h6 : k = 6
  · subst h6
    go_enter Tryz.func109, Tryz.ntmps109
    go_wp2
    go_ret
    exact ⟨by rw [H.out]; rfl, by go_grown⟩
  by_cases h8 : k = 8
  · subst h8
    go_enter Tryz.func109, Tryz.ntmps109
    go_wp2
    go_ret
    exact ⟨by rw [H.out]; rfl, by go_grown⟩
  by_cases h12 : k = 12
  · subst h12
    go_enter Tryz.func109, Tryz.ntmps109
    go_wp2
    go_ret
    exact ⟨by rw [H.out]; rfl, by go_grown⟩
  by_cases h10 : k = 10
  · subst h10
    go_enter Tryz.func109, Tryz.ntmps109
    go_wp2
    go_ret
    exact ⟨by rw [H.out]; rfl, by go_grown⟩
  by_cases h11 : k = 11
  · subst h11
    go_enter Tryz.func109, Tryz.ntmps109
    go_wp2
    go_ret
    exact ⟨by rw [H.out]; rfl, by go_grown⟩
  have H2 : Hid (canM k = 0) := by
    show canM k = 0
    rw [H.out, if_neg h5, if_neg h6, if_neg h8, if_neg h12, if_neg h10, if_neg h11]
  have g5 : (k == 5) = false := by simp [h5]
  have g6 : (k == 6) = false := by simp [h6]
  have g8 : (k == 8) = false := by simp [h8]
  have g12 : (k == 12) = false := by simp [h12]
  have g10 : (k == 10) = false := by simp [h10]
  have g11 : (k == 11) = false := by simp [h11]
  clear h5 h6 h8 h12 h10 h11 H
  go_enter Tryz.func109, Tryz.ntmps109
  go_wp2
  go_ret
  exact ⟨by rw [H2.out]; rfl, by go_grown⟩

def ableF (M : WM) : Nat → Int → Int → Int
  | 0, _, _ => 0
  | f + 1, s, r => match M.at r with
    | none => 0
    | some t => if t.kind = 14 then ableF M f (meet2 s t.set) t.tgt else if t.kind = 15 ∨ t.kind = 16 then ableF M f s t.tgt else meet2 s (canM t.kind)
def AbleIs (M : WM) (s r v : Int) : Prop := ∃ f0, ∀ f, f0 ≤ f → ableF M f s r = v

theorem AbleIs.uniq {M : WM} {s r v v' : Int} (h : AbleIs M s r v) (h' : AbleIs M s r v') : v = v' := by
  obtain ⟨f, h⟩ := h
  obtain ⟨f', h'⟩ := h'
  exact (h (f + f') (by omega)).symm.trans (h' (f + f') (by omega))
theorem AbleIs.none {M : WM} {s r v : Int} (h : AbleIs M s r v) (hr : M.at r = none) : v = 0 := by
  obtain ⟨f, h⟩ := h
  have := h (f + 1) (by omega)
  simpa [ableF, hr] using this.symm
theorem AbleIs.facet {M : WM} {s r v : Int} {t : Th} (h : AbleIs M s r v) (hr : M.at r = some t) (hk : t.kind = 14) : AbleIs M (meet2 s t.set) t.tgt v := by
  obtain ⟨f, h⟩ := h
  refine ⟨f, fun g hg => ?_⟩
  have := h (g + 1) (by omega)
  simpa [ableF, hr, hk] using this
theorem AbleIs.wrap {M : WM} {s r v : Int} {t : Th} (h : AbleIs M s r v) (hr : M.at r = some t) (hk : t.kind = 15 ∨ t.kind = 16) : AbleIs M s t.tgt v := by
  obtain ⟨f, h⟩ := h
  refine ⟨f, fun g hg => ?_⟩
  have := h (g + 1) (by omega)
  have h14 : t.kind ≠ 14 := by omega
  simpa [ableF, hr, hk, h14] using this
theorem AbleIs.base {M : WM} {s r v : Int} {t : Th} (h : AbleIs M s r v) (hr : M.at r = some t) (h14 : ¬ t.kind = 14) (hk : ¬ (t.kind = 15 ∨ t.kind = 16)) : v = meet2 s (canM t.kind) := by
  obtain ⟨f, h⟩ := h
  have := h (f + 1) (by omega)
  simpa [ableF, hr, hk, h14] using this.symm
theorem AbleIs.mk_none {M : WM} {s r : Int} (hr : M.at r = .none) : AbleIs M s r 0 := ⟨1, fun f hf => by obtain ⟨g, rfl⟩ : ∃ g, f = g + 1 := ⟨f - 1, by omega⟩; simp [ableF, hr]⟩
theorem AbleIs.mk_facet {M : WM} {s r v : Int} {t : Th} (hr : M.at r = some t) (hk : t.kind = 14) (h : AbleIs M (meet2 s t.set) t.tgt v) : AbleIs M s r v := by
  obtain ⟨f0, h⟩ := h
  exact ⟨f0 + 1, fun f hf => by obtain ⟨g, rfl⟩ : ∃ g, f = g + 1 := ⟨f - 1, by omega⟩; simp [ableF, hr, hk, h g (by omega)]⟩
theorem AbleIs.mk_wrap {M : WM} {s r v : Int} {t : Th} (hr : M.at r = some t) (hk : t.kind = 15 ∨ t.kind = 16) (h : AbleIs M s t.tgt v) : AbleIs M s r v := by
  obtain ⟨f0, h⟩ := h
  have h14 : t.kind ≠ 14 := by omega
  exact ⟨f0 + 1, fun f hf => by obtain ⟨g, rfl⟩ : ∃ g, f = g + 1 := ⟨f - 1, by omega⟩; simp [ableF, hr, hk, h14, h g (by omega)]⟩
theorem AbleIs.mk_base {M : WM} {s r : Int} {t : Th} (hr : M.at r = some t) (h14 : ¬ t.kind = 14) (hk : ¬ (t.kind = 15 ∨ t.kind = 16)) : AbleIs M s r (meet2 s (canM t.kind)) :=
  ⟨1, fun f hf => by obtain ⟨g, rfl⟩ : ∃ g, f = g + 1 := ⟨f - 1, by omega⟩; simp [ableF, hr, hk, h14]⟩

theorem able_ex {M : WM} (hok : M.ok) (s r : Int) : ∃ v, AbleIs M s r v := by
  obtain ⟨rk, -, hrk⟩ := hok.wrap
  generalize hm : rk r = m
  induction m using Nat.strongRecOn generalizing s r with
  | ind m ih =>
    subst hm
    cases hr : M.at r with
    | none => exact ⟨0, AbleIs.mk_none hr⟩
    | some t =>
      by_cases h14 : t.kind = 14
      · obtain ⟨v, hv⟩ := ih _ (hrk r t hr (by simp [wrapsB, h14])).2 (meet2 s t.set) t.tgt rfl
        exact ⟨v, AbleIs.mk_facet hr h14 hv⟩
      · by_cases hk : t.kind = 15 ∨ t.kind = 16
        · obtain ⟨v, hv⟩ := ih _ (hrk r t hr (by rcases hk with h | h <;> simp [wrapsB, h])).2 s t.tgt rfl
          exact ⟨v, AbleIs.mk_wrap hr hk hv⟩
        · exact ⟨_, AbleIs.mk_base hr h14 hk⟩

set_option maxRecDepth 4000 in
theorem Able_W {w : World} {p : Nat} {M : WM} {F : Nat → Prop} (hW : IsW w p M F) {r v : Int} (hr : (Lit.int .i64 r).wf = true) (hv : AbleIs M 63 r v) :
    Calls Tryz.prog 102 #[.pointer (some ⟨p, 0, none⟩), .int .i64 r] w fun e w' => e = .returned (.int .u8 v) ∧ Below w.heap.size w w' := by
  obtain ⟨rk, -, hrk⟩ := hW.ok.wrap
  have HW := (show Hid (IsW w p M F) from hW)
  clear hW
  have Hv := (show Hid (AbleIs M 63 r v) from hv)
  clear hv
  have Hrk := (show Hid (∀ (r : Int) (t : Th), M.at r = some t → wrapsB t.kind = true → (∃ u, M.at t.tgt = some u) ∧ rk t.tgt < rk r) from hrk)
  clear hrk
  go_enter Tryz.func102, Tryz.ntmps102
  go_wp2
  go_step3
  go_wp2
  go_step3
  go_wp2
  go_loopw [1, 5] (fun vr vs wr => ∃ q s, vr = .int .i64 q ∧ vs = .int .u8 s ∧ (Lit.int .i64 q).wf = true ∧ AbleIs M s q v ∧ Below w.heap.size w wr) (fun vr _ _ => rk (intOf vr))
  case atStart => exact ⟨r, 63, rfl, rfl, hr, Hv.out, Below.refl _ _⟩
  case round =>
    obtain ⟨q, s, rfl, rfl, hq, hv, hB⟩ := hrel
    have Hv := (show Hid (AbleIs M s q v) from hv)
    have HB := (show Hid (Below w.heap.size w wr) from hB)
    have hWr := HW.out.below hB
    have hn := Is_W hWr hq
    clear hv hB
    obtain ⟨pa, pc, cg, cc, mg, mc, tb, fb, fn, bl, h⟩ := id hWr
    have c2 := h.c2
    have hl := h.look hq
    cases ha : M.at q with
    | none =>
      rw [ha] at hn
      clear hl
      go_wp2_with (go_at_call 39; refine hn.mono ?_; rintro e w' ⟨rfl, rfl⟩)
      rw [Exit.noGoto_ret]
      go_ret
      exact ⟨by rw [Hv.out.none ha]; rfl, HB.out⟩
    | some t =>
      rw [ha] at hl hn
      simp only [Option.map_some] at hl
      obtain ⟨k0, -, -, -, k6, -, k8, -⟩ := thc_cell (h.blk q t ha).1
      have hwf := h.ok.wf q t ha
      have htgt := hwf.tgt
      have k6a := fun o => cell_al k6 o
      by_cases h14 : t.kind = 14
      · have H14 : Hid (t.kind = 14) := h14
        rw [h14] at k0
        clear h14 hwf
        go_wp2_with (first | (go_at_call 39; refine hn.mono ?_; rintro e w' ⟨rfl, rfl⟩) | (go_at_call 108; refine (Meet_new _ _ _).mono ?_; rintro e w' ⟨rfl, rfl⟩))
        go_roundw
        case rel => exact ⟨t.tgt, _, rfl, rfl, htgt, Hv.out.facet ha H14.out, HB.out.alloc HB.out.size _⟩
        case measure => exact (Hrk.out q t ha (by simp [wrapsB, H14.out])).2
      · by_cases hk : t.kind = 15 ∨ t.kind = 16
        · have H14 : Hid (t.kind = 15 ∨ t.kind = 16) := hk
          clear h14 hwf
          rcases hk with h15 | h16
          · rw [h15] at k0
            clear h15
            go_wp2_with (go_at_call 39; refine hn.mono ?_; rintro e w' ⟨rfl, rfl⟩)
            go_roundw
            case rel => exact ⟨t.tgt, _, rfl, rfl, htgt, Hv.out.wrap ha H14.out, HB.out⟩
            case measure => exact (Hrk.out q t ha (by rcases H14.out with h | h <;> simp [wrapsB, h])).2
          · rw [h16] at k0
            clear h16
            go_wp2_with (go_at_call 39; refine hn.mono ?_; rintro e w' ⟨rfl, rfl⟩)
            go_roundw
            case rel => exact ⟨t.tgt, _, rfl, rfl, htgt, Hv.out.wrap ha H14.out, HB.out⟩
            case measure => exact (Hrk.out q t ha (by rcases H14.out with h | h <;> simp [wrapsB, h])).2
        · have g14 : (t.kind == 14) = false := by simp [h14]
          have g15 : (t.kind == 15) = false := by simp; omega
          have g16 : (t.kind == 16) = false := by simp; omega
          have H : Hid (v = meet2 s (canM t.kind)) := Hv.out.base ha h14 hk
          clear h14 hk hwf
          go_wp2_with (first | (go_at_call 39; refine hn.mono ?_; rintro e w' ⟨rfl, rfl⟩) | (go_at_call 108; refine (Meet_new _ _ _).mono ?_; rintro e w' ⟨rfl, rfl⟩) | (go_at_call 109; refine (can_W _ _).mono ?_; rintro e w1 ⟨rfl, hb1⟩))
          rw [Exit.noGoto_ret]
          go_ret
          exact ⟨by rw [H.out]; rfl, (HB.out.trans (hb1.mono HB.out.size)).alloc (Nat.le_trans HB.out.size hb1.size) _⟩
end Go.Proofs.YtcoiccbmcjdheaaGreat
