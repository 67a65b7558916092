/- A part of the proof, several texts in one: Own, WalkA, WalkC, Pure. -/
import Derived.Test.YthebeomenjfdlaaGreatmAB
import Derived.Deep.QuietTactic
import Derived.BigQuiet
import Derived.Test.YthebeomenjfdlaaGreatmAA
/- ownWhat of a light What: the same. -/
namespace Go.Proofs.YthebeomenjfdlaaGreat
open Go.RowKit Go.ChangeMaps Go.MapKept

theorem setCell_same {w : World} {b i : Nat} {cs : Array Value} {e : TypeId} {fr : Nat × Nat} {v : Value} (h : w.heap[b]? = some (.cells cs e fr)) (hv : cs[i]? = some v) : w.setCell ⟨b, i, none⟩ v = w := by
  obtain ⟨hb, hg⟩ := Array.getElem?_eq_some_iff.1 h
  obtain ⟨hi, hgi⟩ := Array.getElem?_eq_some_iff.1 hv
  have key : ∀ (w2 : World), w2.heap = w.heap → { w2 with heap := w2.heap.modify b (fun _ => .cells cs e fr) } = w2 := by
    intro w2 h2
    have : w2.heap.modify b (fun _ => Obj.cells cs e fr) = w2.heap := by
      apply Array.ext_getElem?
      intro k
      rw [Array.getElem?_modify]
      split
      · rename_i hk
        subst hk
        rw [h2, h]
        rfl
      · rfl
    rw [this]
  have hs : cs.setIfInBounds i v = cs := by
    apply Array.ext_getElem?
    intro k
    rw [Array.getElem?_setIfInBounds]
    split
    · rename_i hk
      subst hk
      simp [hi, hgi]
    · rfl
  have hw : (w.setCell ⟨b, i, none⟩ v).heap = w.heap := by
    apply Array.ext_getElem?
    intro k
    by_cases hk : k = b
    · subst hk
      rw [blk_setCell h i v, h, hs]
    · exact Below.heap_setCell w ⟨b, i, none⟩ v k hk
  have : (w.setCell ⟨b, i, none⟩ v) = { w with heap := (w.setCell ⟨b, i, none⟩ v).heap } := rfl
  rw [this, hw]

theorem storeAt_same {P : Program} {w : World} {b i : Nat} {cs vs : Array Value} {e ty : TypeId} (h : w.heap[b]? = some (.cells cs e (0, 0))) (hi : (P.info? ty).map (·.size) = some vs.size) (hl : i + vs.size ≤ cs.size)
    (h1 : vs.all (·.oneCell') = true) (hs : (cs.toList.take i ++ vs.toList ++ cs.toList.drop (i + vs.size)) = cs.toList) : (Instr.storeAt ty (.pointer (some ⟨b, i, none⟩)) (.agg vs)).run P w = .ok () w := by
  simp only [Instr.storeAt, Instr.sureAddr, Sem.run_bind, Sem.run_pure, Result.andThen]
  have := run_storeCells_at (P := P) b i e vs.toList 0 cs w h (by simpa using hl) (fun v hv => (Array.all_eq_true_iff_forall_mem.1 h1) v (by simpa using hv))
  simp only [Nat.add_zero, Array.length_toList, hs, Array.toArray_toList, setRow_self w b cs e (0, 0) h] at this
  cases hq : P.info? ty with
  | none => simp [hq] at hi
  | some k =>
    have hs : vs.size = k.size := by simp [hq] at hi; omega
    simp [storeVar, sizeOf, typeInfo, hq, Value.cells, hs, this]
/-- A whole Value written: closed to the walk's simp. -/
def stV (a x : Value) : Sem Next := do Instr.storeAt 34 a x; pure .skip
theorem execOp_stV (ρ : Operand → Value) (d : Option Tmp) (a x : Operand) (ty : TypeId) (pos : String) (af : Array Edge) (g : Option (Nat × Bool)) :
    execOp ρ { dst := d, op := .store 34 a x, type := ty, pos := pos, after := af, guard := g } = stV (ρ a) (ρ x) := rfl
theorem stV_same {w : World} {b i : Nat} {cs vs : Array Value} {e : TypeId} (h : w.heap[b]? = some (.cells cs e (0, 0))) (h5 : vs.size = 5) (hl : i + vs.size ≤ cs.size)
    (h1 : vs.all (·.oneCell') = true) (hs : (cs.toList.take i ++ vs.toList ++ cs.toList.drop (i + vs.size)) = cs.toList) : (stV (.pointer (some ⟨b, i, none⟩)) (.agg vs)).run Tryz.prog w = .ok .skip w := by
  simp only [stV, Sem.run_bind, storeAt_same h (by rw [h5]; exact sizeValue) hl h1 hs, Result.andThen, Sem.run_pure]

theorem heap_setRow_other (w : World) (b : Nat) (c : Array Value) (k : Nat) (h : k ≠ b) : (w.setRow b c).heap[k]? = w.heap[k]? := by
  simp only [World.setRow, Array.getElem?_modify]
  rw [if_neg (Ne.symm h)]
theorem heap_setRow_at {w : World} {b : Nat} {c c' : Array Value} {e : TypeId} {fr : Nat × Nat} (h : w.heap[b]? = some (.cells c e fr)) : (w.setRow b c').heap[b]? = some (.cells c' e fr) := by
  simp only [World.setRow, Array.getElem?_modify]
  rw [if_pos trivial, h]
  rfl
theorem Below.setRow {B : Nat} {a w : World} (h : Below B a w) {b : Nat} (hb : B ≤ b) (c : Array Value) : Below B a (w.setRow b c) :=
  ⟨h.os, h.tape, h.output, by have := h.size; simpa [World.setRow] using this, fun k hk => (heap_setRow_other w b c k (by omega)).trans (h.block k hk)⟩

attribute [local go_sem ↓] execOp_stV in
set_option maxHeartbeats 1000000 in
set_option maxRecDepth 8000 in
theorem ownWhat_W (w : World) (k h vk vn n l tg bi s : Int) (fu : Bool) (hp : Plain vk vn) : Calls Tryz.prog 67 #[.agg #[.int .u8 k, .int .i64 h, .int .u8 vk, .int .i64 vn, .string ⟨#[]⟩, .slice none 0 0, .int .i64 0, .slice none 0 0, .int .i64 n, .int .i64 l, .int .i64 tg, .int .i64 bi, .int .u8 s, .bool fu, .slice none 0 0, .slice none 0 0]] w fun e w' =>
    e = .returned (.agg #[.int .u8 k, .int .i64 h, .int .u8 vk, .int .i64 vn, .string ⟨#[]⟩, .slice none 0 0, .int .i64 0, .slice none 0 0, .int .i64 n, .int .i64 l, .int .i64 tg, .int .i64 bi, .int .u8 s, .bool fu, .slice none 0 0, .slice none 0 0]) ∧ Below w.heap.size w w' := by
  go_enter Tryz.func67, Tryz.ntmps67
  go_wp2_with fail
  refine (wown_W _ vk vn hp).mono ?_
  rintro e w1 ⟨rfl, hb1⟩
  have B1 := below_blk hb1 (blk2_old _ _ _)
  have R1 := below_blk hb1 (blk2_new _ _ _)
  obtain ⟨a0, a1, a2, a3, a4, a5, a6, a7, a8, a9, a10, a11, a12, a13, a14, a15⟩ := cells16 B1
  have hsv := stV_same (i := 2) (vs := #[.int .u8 vk, .int .i64 vn, .string ⟨#[]⟩, .slice none 0 0, .int .i64 0]) B1 rfl (by simp) (by simp [go_sem]) (by simp)
  have hz : w.heap.size + 1 < w1.heap.size := by have := hb1.size; simp at this; omega
  have HB : Hid (Below w.heap.size w w1) := (((Below.refl _ _).alloc (Nat.le_refl _) _).alloc (by simp) _).trans (hb1.mono (by simp; omega))
  clear hb1
  go_wp2_with fail
  refine (cloneVal_W _).mono ?_
  rintro e w2 ⟨rfl, hb2⟩
  have B2 := below_blk hb2 B1
  have R2 := below_blk hb2 R1
  clear a0 a1 a2 a3 a4 a5 a6 a7 a8 a9 a10 a11 a12 a13 a14 a15 hsv
  have a7 : w2.cell? ⟨w.heap.size, 7, none⟩ = some (.slice none 0 0) := by rw [cell_blk B2]; rfl
  have a14 : w2.cell? ⟨w.heap.size, 14, none⟩ = some (.slice none 0 0) := by rw [cell_blk B2]; rfl
  have a15 : w2.cell? ⟨w.heap.size, 15, none⟩ = some (.slice none 0 0) := by rw [cell_blk B2]; rfl
  have f7 := frozen_blk B2 7
  have f14 := frozen_blk B2 14
  have f15 := frozen_blk B2 15
  have q7 : w2.setCell ⟨w.heap.size, 7, none⟩ (.slice none 0 0) = w2 := setCell_same B2 rfl
  have q14 : w2.setCell ⟨w.heap.size, 14, none⟩ (.slice none 0 0) = w2 := setCell_same B2 rfl
  have q15 : w2.setCell ⟨w.heap.size, 15, none⟩ (.slice none 0 0) = w2 := setCell_same B2 rfl
  have HB2 : Hid (Below w.heap.size w w2) := HB.out.trans (hb2.mono HB.out.size)
  clear hb2 HB B1 R1 hz
  have hld := loadWhat_blk B2 rfl
  have hst := storeWhat_blk (c' := #[.int .u8 k, .int .i64 h, .int .u8 vk, .int .i64 vn, .string ⟨#[]⟩, .slice none 0 0, .int .i64 0, .slice none 0 0, .int .i64 n, .int .i64 l, .int .i64 tg, .int .i64 bi, .int .u8 s, .bool fu, .slice none 0 0, .slice none 0 0]) R2 rfl rfl (by simp [go_sem])
  have G3a := heap_setRow_at (c' := #[.int .u8 k, .int .i64 h, .int .u8 vk, .int .i64 vn, .string ⟨#[]⟩, .slice none 0 0, .int .i64 0, .slice none 0 0, .int .i64 n, .int .i64 l, .int .i64 tg, .int .i64 bi, .int .u8 s, .bool fu, .slice none 0 0, .slice none 0 0]) R2
  have G3 : Hid ((w2.setRow (w.heap.size + 1) #[.int .u8 k, .int .i64 h, .int .u8 vk, .int .i64 vn, .string ⟨#[]⟩, .slice none 0 0, .int .i64 0, .slice none 0 0, .int .i64 n, .int .i64 l, .int .i64 tg, .int .i64 bi, .int .u8 s, .bool fu, .slice none 0 0, .slice none 0 0]).heap[w.heap.size + 1]? = some (.cells #[.int .u8 k, .int .i64 h, .int .u8 vk, .int .i64 vn, .string ⟨#[]⟩, .slice none 0 0, .int .i64 0, .slice none 0 0, .int .i64 n, .int .i64 l, .int .i64 tg, .int .i64 bi, .int .u8 s, .bool fu, .slice none 0 0, .slice none 0 0] 42 (0, 0))) := G3a
  clear G3a
  have HB3 : Hid (Below w.heap.size w (w2.setRow (w.heap.size + 1) #[.int .u8 k, .int .i64 h, .int .u8 vk, .int .i64 vn, .string ⟨#[]⟩, .slice none 0 0, .int .i64 0, .slice none 0 0, .int .i64 n, .int .i64 l, .int .i64 tg, .int .i64 bi, .int .u8 s, .bool fu, .slice none 0 0, .slice none 0 0])) := Below.setRow HB2.out (Nat.le_succ _) _
  clear B2 R2 HB2
  go_wp2_with fail
  refine wp_loop_rounds 1 ?_
  rw [rounds_succ]
  go_wp2_with fail
  refine (cloneName_W _).mono ?_
  rintro e _ ⟨rfl, rfl⟩
  go_wp2_with fail
  refine wp_loop_rounds 1 ?_
  rw [rounds_succ]
  go_wp2_with fail
  refine (ownCode_W _).mono ?_
  rintro e _ ⟨rfl, rfl⟩
  go_wp2_with fail
  refine bodyPost_ret (results_What rfl _ _ _ _ _ rfl G3.out rfl) rfl ⟨rfl, HB3.out⟩
end Go.Proofs.YthebeomenjfdlaaGreat
/- The small calls on a world: who is there, what kind it is, what a kind can. -/
namespace Go.Proofs.YthebeomenjfdlaaGreat
open Go.RowKit Go.ChangeMaps Go.MapKept

section
variable {w : World} {p : Nat} {M : WM} {F : Nat → Prop}

theorem none_W (hW : IsW w p M F) : Calls Tryz.prog 63 #[.pointer (some ⟨p, 0, none⟩)] w fun e w' => e = .returned (.bool false) ∧ w = w' := by
  obtain ⟨pa, pc, cg, cc, mg, mc, tb, fb, fn, bl, h⟩ := hW
  have c2 := h.c2
  go_enter Tryz.func63, Tryz.ntmps63
  go_wp2
  go_ret
  exact ⟨rfl, rfl⟩

theorem Sides_W (hW : IsW w p M F) : Calls Tryz.prog 43 #[.pointer (some ⟨p, 0, none⟩)] w fun e w' => e = .returned (.int .i64 M.made.length) ∧ w = w' := by
  have hn := none_W hW
  obtain ⟨pa, pc, cg, cc, mg, mc, tb, fb, fn, bl, h⟩ := hW
  have c5 := h.c5
  go_enter Tryz.func43, Tryz.ntmps43
  go_wp2_with (go_at_call 63; refine hn.mono ?_; rintro e w' ⟨rfl, rfl⟩)
  go_ret
  exact ⟨rfl, rfl⟩

def sideB (M : WM) (s : Int) : Bool := decide (0 ≤ s ∧ s < M.made.length)
theorem sideB_iff {M : WM} {s : Int} : sideB M s = true ↔ 0 ≤ s ∧ s < M.made.length := by simp [sideB]

theorem side_W (hW : IsW w p M F) (s : Int) : Calls Tryz.prog 86 #[.pointer (some ⟨p, 0, none⟩), .int .i64 s] w fun e w' => e = .returned (.bool (sideB M s)) ∧ w = w' := by
  have hn := Sides_W hW
  by_cases h0 : 0 ≤ s
  · go_enter Tryz.func86, Tryz.ntmps86
    go_wp2_with (go_at_call 43; refine hn.mono ?_; rintro e w' ⟨rfl, rfl⟩)
    go_ret
    exact ⟨by simp [sideB, h0], rfl⟩
  · go_enter Tryz.func86, Tryz.ntmps86
    go_wp2_with (go_at_call 43; refine hn.mono ?_; rintro e w' ⟨rfl, rfl⟩)
    go_ret
    exact ⟨by simp [sideB]; omega, rfl⟩

def edgeB (M : WM) (n : Int) : Bool := decide (0 < n ∧ n < M.made.length)
theorem edge_W (hW : IsW w p M F) (n : Int) : Calls Tryz.prog 97 #[.pointer (some ⟨p, 0, none⟩), .int .i64 n] w fun e w' => e = .returned (.bool (edgeB M n)) ∧ w = w' := by
  have hn := Sides_W hW
  by_cases h0 : 0 < n
  · go_enter Tryz.func97, Tryz.ntmps97
    go_wp2_with (go_at_call 43; refine hn.mono ?_; rintro e w' ⟨rfl, rfl⟩)
    go_ret
    exact ⟨by simp [edgeB, h0], rfl⟩
  · go_enter Tryz.func97, Tryz.ntmps97
    go_wp2_with (go_at_call 43; refine hn.mono ?_; rintro e w' ⟨rfl, rfl⟩)
    go_ret
    exact ⟨by simp [edgeB]; omega, rfl⟩

theorem Is_W (hW : IsW w p M F) {r : Int} (hr : (Lit.int .i64 r).wf = true) : Calls Tryz.prog 49 #[.pointer (some ⟨p, 0, none⟩), .int .i64 r] w fun e w' => e = .returned (.bool (M.at r).isSome) ∧ w = w' := by
  have hn := none_W hW
  obtain ⟨pa, pc, cg, cc, mg, mc, tb, fb, fn, bl, h⟩ := hW
  have c2 := h.c2
  have hl := h.look hr
  cases ha : M.at r with
  | none =>
    rw [ha] at hl
    simp only [Option.map_none] at hl
    go_enter Tryz.func49, Tryz.ntmps49
    go_wp2_with (go_at_call 63; refine hn.mono ?_; rintro e w' ⟨rfl, rfl⟩)
    go_ret
    exact ⟨rfl, rfl⟩
  | some t =>
    rw [ha] at hl
    simp only [Option.map_some] at hl
    go_enter Tryz.func49, Tryz.ntmps49
    go_wp2_with (go_at_call 63; refine hn.mono ?_; rintro e w' ⟨rfl, rfl⟩)
    go_ret
    exact ⟨rfl, rfl⟩

theorem thc_cell {w : World} {b : Nat} {t : Th} (h : w.heap[b]? = some (.cells (thc t) 42 (0, 0))) :
    w.cell? ⟨b, 0, none⟩ = some (.int .u8 t.kind) ∧ w.cell? ⟨b, 1, none⟩ = some (.int .i64 t.home) ∧ w.cell? ⟨b, 8, none⟩ = some (.int .i64 t.n) ∧ w.cell? ⟨b, 9, none⟩ = some (.int .i64 t.lost) ∧
    w.cell? ⟨b, 10, none⟩ = some (.int .i64 t.tgt) ∧ w.cell? ⟨b, 11, none⟩ = some (.int .i64 t.bi) ∧ w.cell? ⟨b, 12, none⟩ = some (.int .u8 t.set) ∧ w.cell? ⟨b, 13, none⟩ = some (.bool t.full) :=
  ⟨by rw [cell_blk h]; rfl, by rw [cell_blk h]; rfl, by rw [cell_blk h]; rfl, by rw [cell_blk h]; rfl, by rw [cell_blk h]; rfl, by rw [cell_blk h]; rfl, by rw [cell_blk h]; rfl, by rw [cell_blk h]; rfl⟩

def WM.kindOf (M : WM) (r : Int) : Int := ((M.at r).map Th.kind).getD 0

theorem Kind_W (hW : IsW w p M F) {r : Int} (hr : (Lit.int .i64 r).wf = true) : Calls Tryz.prog 50 #[.pointer (some ⟨p, 0, none⟩), .int .i64 r] w fun e w' => e = .returned (.int .u8 (M.kindOf r)) ∧ w = w' := by
  have hn := Is_W hW hr
  obtain ⟨pa, pc, cg, cc, mg, mc, tb, fb, fn, bl, h⟩ := hW
  have c2 := h.c2
  have hl := h.look hr
  cases ha : M.at r with
  | none =>
    rw [ha] at hn
    go_enter Tryz.func50, Tryz.ntmps50
    go_wp2_with (go_at_call 49; refine hn.mono ?_; rintro e w' ⟨rfl, rfl⟩)
    go_ret
    exact ⟨by simp [WM.kindOf, ha], rfl⟩
  | some t =>
    rw [ha] at hl hn
    simp only [Option.map_some] at hl
    obtain ⟨k0, k1, -, -, k6, k7, k8, k9⟩ := thc_cell (h.blk r t ha).1
    go_enter Tryz.func50, Tryz.ntmps50
    go_wp2_with (go_at_call 49; refine hn.mono ?_; rintro e w' ⟨rfl, rfl⟩)
    go_ret
    exact ⟨by simp [WM.kindOf, ha], rfl⟩

def WM.homeOf (M : WM) (r : Int) : Int := match M.at r with | some t => if t.kind = 14 then 0 else t.home | none => 0
def WM.hasHome (M : WM) (r : Int) : Bool := match M.at r with | some t => !decide (t.kind = 14) | none => false
theorem Home_W (hW : IsW w p M F) {r : Int} (hr : (Lit.int .i64 r).wf = true) : Calls Tryz.prog 37 #[.pointer (some ⟨p, 0, none⟩), .int .i64 r] w fun e w' =>
    e = .returned (.tuple #[.int .i64 (M.homeOf r), .bool (M.hasHome r)]) ∧ w = w' := by
  have hn := Is_W hW hr
  obtain ⟨pa, pc, cg, cc, mg, mc, tb, fb, fn, bl, h⟩ := hW
  have c2 := h.c2
  have hl := h.look hr
  cases ha : M.at r with
  | none =>
    rw [ha] at hn
    go_enter Tryz.func37, Tryz.ntmps37
    go_wp2_with (go_at_call 49; refine hn.mono ?_; rintro e w' ⟨rfl, rfl⟩)
    go_ret2
    exact ⟨by simp [WM.homeOf, WM.hasHome, ha], rfl⟩
  | some t =>
    rw [ha] at hl hn
    simp only [Option.map_some] at hl
    obtain ⟨k0, k1, -, -, -, -, -, -⟩ := thc_cell (h.blk r t ha).1
    by_cases hk : t.kind = 14
    · have H : Hid (t.kind = 14) := hk
      have hk' : (t.kind == 14) = true := by simp [hk]
      clear hk
      go_enter Tryz.func37, Tryz.ntmps37
      go_wp2_with (go_at_call 49; refine hn.mono ?_; rintro e w' ⟨rfl, rfl⟩)
      go_ret2
      exact ⟨by simp [WM.homeOf, WM.hasHome, ha, H.out], rfl⟩
    · have H : Hid (¬ t.kind = 14) := hk
      have hk' : (t.kind == 14) = false := by simp [hk]
      clear hk
      go_enter Tryz.func37, Tryz.ntmps37
      go_wp2_with (go_at_call 49; refine hn.mono ?_; rintro e w' ⟨rfl, rfl⟩)
      go_ret2
      exact ⟨by simp [WM.homeOf, WM.hasHome, ha, H.out], rfl⟩

theorem Len_W (hW : IsW w p M F) : Calls Tryz.prog 55 #[.pointer (some ⟨p, 0, none⟩)] w fun e w' => e = .returned (.int .i64 M.things.length) ∧ w = w' := by
  have hn := none_W hW
  obtain ⟨pa, pc, cg, cc, mg, mc, tb, fb, fn, bl, h⟩ := hW
  have c2 := h.c2
  have hl := fun ty => h.things.len Tryz.underlying69 ty
  go_enter Tryz.func55, Tryz.ntmps55
  go_wp2_with (go_at_call 63; refine hn.mono ?_; rintro e w' ⟨rfl, rfl⟩)
  go_ret
  exact ⟨rfl, rfl⟩

theorem Find_W (hW : IsW w p M F) {r s : Int} (hr : (Lit.int .i64 r).wf = true) (hs : (Lit.int .u8 s).wf = true) : Calls Tryz.prog 35 #[.pointer (some ⟨p, 0, none⟩), .int .i64 r, .int .u8 s] w fun e w' =>
    e = .returned (.tuple #[.int .i64 ((M.find r s).getD 0), .bool (M.find r s).isSome]) ∧ w = w' := by
  have hn := none_W hW
  obtain ⟨pa, pc, cg, cc, mg, mc, tb, fb, fn, bl, h⟩ := hW
  have c3 := h.c3
  have hl := h.find_ok hr hs
  go_enter Tryz.func35, Tryz.ntmps35
  go_wp2_with (go_at_call 63; refine hn.mono ?_; rintro e w' ⟨rfl, rfl⟩)
  go_ret2
  exact ⟨rfl, rfl⟩

theorem Made_W (hW : IsW w p M F) (s : Int) : Calls Tryz.prog 56 #[.pointer (some ⟨p, 0, none⟩), .int .i64 s] w fun e w' =>
    e = .returned (.int .i64 (if sideB M s = true then M.made.getD s.toNat 0 else 0)) ∧ w = w' := by
  have hn := side_W hW s
  obtain ⟨pa, pc, cg, cc, mg, mc, tb, fb, fn, bl, h⟩ := hW
  have c5 := h.c5
  cases hs : sideB M s with
  | false =>
    rw [hs] at hn
    go_enter Tryz.func56, Tryz.ntmps56
    go_wp2_with (go_at_call 86; refine hn.mono ?_; rintro e w' ⟨rfl, rfl⟩)
    go_ret
    exact ⟨rfl, rfl⟩
  | true =>
    rw [hs] at hn
    obtain ⟨h1, h2⟩ := sideB_iff.1 hs
    obtain ⟨n, rfl⟩ := Int.eq_ofNat_of_zero_le h1
    have hc : w.cell? ⟨mg, n, none⟩ = some (.int .i64 (M.made.getD n 0)) := h.mad.cell (by rw [List.getElem?_map, List.getElem?_eq_getElem (by omega), List.getD_eq_getElem?_getD, List.getElem?_eq_getElem (by omega)]; rfl)
    obtain ⟨v, hv⟩ : ∃ v, v = M.made.getD n 0 := ⟨_, rfl⟩
    rw [← hv] at hc
    rw [Int.toNat_natCast, ← hv]
    clear hv
    go_enter Tryz.func56, Tryz.ntmps56
    go_wp2_with (go_at_call 86; refine hn.mono ?_; rintro e w' ⟨rfl, rfl⟩)
    go_ret
    exact ⟨rfl, rfl⟩
end

theorem asksBy_W (k : Int) (w : World) : Calls Tryz.prog 83 #[.int .u8 k] w fun e w' => e = .returned (.bool (k == 15 || k == 16)) ∧ w = w' := by
  by_cases h1 : k = 15
  · subst h1
    go_enter Tryz.func83, Tryz.ntmps83
    go_wp2
    go_ret
    exact ⟨rfl, rfl⟩
  · have h1 : (k == 15) = false := by simp [h1]
    go_enter Tryz.func83, Tryz.ntmps83
    go_wp2
    go_ret
    exact ⟨by simp [h1], rfl⟩
theorem wraps_W (k : Int) (w : World) : Calls Tryz.prog 103 #[.int .u8 k] w fun e w' => e = .returned (.bool (wrapsB k)) ∧ w = w' := by
  by_cases h1 : k = 14
  · subst h1
    go_enter Tryz.func103, Tryz.ntmps103
    go_wp2
    go_ret
    exact ⟨rfl, rfl⟩
  · have h1 : (k == 14) = false := by simp [h1]
    by_cases h2 : k = 15
    · subst h2
      go_enter Tryz.func103, Tryz.ntmps103
      go_wp2
      go_ret
      exact ⟨rfl, rfl⟩
    · have h2 : (k == 15) = false := by simp [h2]
      go_enter Tryz.func103, Tryz.ntmps103
      go_wp2
      go_ret
      exact ⟨by simp [wrapsB, h1, h2], rfl⟩
def asksOfB (k : Int) : Bool := k == 6 || k == 7 || k == 9 || k == 11 || wrapsB k
end Go.Proofs.YthebeomenjfdlaaGreat
/- The sides' tree: Open, Parent, cuts. -/
namespace Go.Proofs.YthebeomenjfdlaaGreat
open Go.RowKit Go.ChangeMaps Go.MapKept

def WM.cutAt (M : WM) (n : Nat) : Bool := M.cuts.getD n false
def WM.par (M : WM) (n : Nat) : Int := M.parents.getD n 0
def openF (M : WM) : Nat → Int → Int → Bool
  | 0, _, _ => true
  | f + 1, a, b => if a = b then true else if a < b then (if M.cutAt b.toNat then false else openF M f (M.par (b.toNat - 1)) a) else (if M.cutAt a.toNat then false else openF M f (M.par (a.toNat - 1)) b)
def WM.openB (M : WM) (a b : Int) : Bool := sideB M a && sideB M b && openF M (a.toNat + b.toNat) a b

section
variable {w : World} {p : Nat} {M : WM} {F : Nat → Prop} {pa : Option Addr} {pc cg cc mg mc tb fb fn : Nat} {bl : Int → Nat}
theorem WV.cutCell (h : WV w p M F pa pc cg cc mg mc tb fb fn bl) {n : Nat} (hn : n < M.made.length) : w.cell? ⟨cg, n, none⟩ = some (.bool (M.cutAt n)) := by
  have h1 := h.ok.cuts
  have h2 := h.ok.made
  exact h.cut.cell (by rw [List.getElem?_map, List.getElem?_eq_getElem (by omega), WM.cutAt, List.getD_eq_getElem?_getD, List.getElem?_eq_getElem (by omega)]; rfl)
theorem WV.parCell (h : WV w p M F pa pc cg cc mg mc tb fb fn bl) {n : Nat} (hn : n < M.parents.length) : ∃ b o, pa = some ⟨b, o, none⟩ ∧ w.cell? ⟨b, o + n, none⟩ = some (.int .i64 (M.par n)) := by
  obtain ⟨b, o, h1, _, _, h2⟩ := h.pars n (M.par n) (by rw [WM.par, List.getD_eq_getElem?_getD, List.getElem?_eq_getElem hn]; rfl)
  exact ⟨b, o, h1, h2⟩
theorem WM.ok.par_le (h : M.ok) {n : Nat} (hn : n < M.parents.length) : 0 ≤ M.par n ∧ M.par n ≤ n := by
  have := h.tree n (M.par n) (by rw [WM.par, List.getD_eq_getElem?_getD, List.getElem?_eq_getElem hn]; rfl)
  exact this
end

section
variable {w : World} {p : Nat} {M : WM} {F : Nat → Prop}

theorem IsCut_W (hW : IsW w p M F) (n : Int) : Calls Tryz.prog 45 #[.pointer (some ⟨p, 0, none⟩), .int .i64 n] w fun e w' => e = .returned (.bool (edgeB M n && M.cutAt n.toNat)) ∧ w = w' := by
  have hn := edge_W hW n
  obtain ⟨pa, pc, cg, cc, mg, mc, tb, fb, fn, bl, h⟩ := hW
  have c1 := h.c1
  cases he : edgeB M n with
  | false =>
    rw [he] at hn
    go_enter Tryz.func45, Tryz.ntmps45
    go_wp2_with (go_at_call 97; refine hn.mono ?_; rintro e w' ⟨rfl, rfl⟩)
    go_ret
    exact ⟨rfl, rfl⟩
  | true =>
    rw [he] at hn
    have he' : 0 < n ∧ n < M.made.length := by simpa [edgeB] using he
    obtain ⟨h1, h2⟩ := he'
    obtain ⟨k, rfl⟩ := Int.eq_ofNat_of_zero_le (Int.le_of_lt h1)
    have hc := h.cutCell (n := k) (by omega)
    have hcl : (k : Int) < M.cuts.length := by have := h.ok.cuts; have := h.ok.made; omega
    rw [Int.toNat_natCast]
    clear he
    go_enter Tryz.func45, Tryz.ntmps45
    go_wp2_with (go_at_call 97; refine hn.mono ?_; rintro e w' ⟨rfl, rfl⟩)
    go_ret
    exact ⟨by simp, rfl⟩

theorem Parent_W (hW : IsW w p M F) (s : Int) (hs : 0 < s ∧ s < M.made.length) : Calls Tryz.prog 36 #[.pointer (some ⟨p, 0, none⟩), .int .i64 s] w fun e w' => e = .returned (.tuple #[.int .i64 (M.par (s.toNat - 1)), .int .i64 0]) ∧ w = w' := by
  have hn := none_W hW
  have hs2 := side_W hW s
  have hok := hW.ok
  obtain ⟨h1, h2⟩ := hs
  rw [sideB_iff.2 ⟨by omega, h2⟩] at hs2
  obtain ⟨pa, pc, cg, cc, mg, mc, tb, fb, fn, bl, h⟩ := hW
  have c0 := h.c0
  obtain ⟨k, rfl⟩ : ∃ k : Nat, s = (k : Int) + 1 := ⟨(s - 1).toNat, by omega⟩
  have hm := hok.made
  have hsd := hok.sides
  obtain ⟨b, o, rfl, hc⟩ := h.parCell (n := k) (by omega)
  have e1 : ((k : Int) + 1).toNat - 1 = k := by omega
  rw [e1]
  have hkl : (k : Int) < M.parents.length := by omega
  have hkb : k ≤ 16 := by omega
  have hn0 : ((k : Int) + 1 == 0) = false := by simp; omega
  clear hm e1
  go_enter Tryz.func36, Tryz.ntmps36
  go_wp2_with (first | (go_at_call 63; refine hn.mono ?_; rintro e w' ⟨rfl, rfl⟩) | (go_at_call 86; refine hs2.mono ?_; rintro e w' ⟨rfl, rfl⟩))
  go_ret2
  exact ⟨rfl, rfl⟩

theorem Open_W (hW : IsW w p M F) (a b : Int) : Calls Tryz.prog 46 #[.pointer (some ⟨p, 0, none⟩), .int .i64 a, .int .i64 b] w fun e w' => e = .returned (.bool (M.openB a b)) ∧ w = w' := by
  have ha := side_W hW a
  have hb := side_W hW b
  cases h1 : sideB M a with
  | false =>
    rw [h1] at ha
    go_enter Tryz.func46, Tryz.ntmps46
    go_wp2_with (go_at_call 86; refine ha.mono ?_; rintro e w' ⟨rfl, rfl⟩)
    go_ret
    exact ⟨by simp [WM.openB, h1], rfl⟩
  | true =>
  cases h2 : sideB M b with
  | false =>
    rw [h1] at ha
    rw [h2] at hb
    go_enter Tryz.func46, Tryz.ntmps46
    go_wp2_with fail
    refine ha.mono ?_
    rintro e w' ⟨rfl, rfl⟩
    go_wp2_with fail
    refine hb.mono ?_
    rintro e w' ⟨rfl, rfl⟩
    go_wp2_with fail
    go_ret
    exact ⟨by simp [WM.openB, h2], rfl⟩
  | true =>
    rw [h1] at ha
    rw [h2] at hb
    obtain ⟨a0, a1⟩ := sideB_iff.1 h1
    obtain ⟨b0, b1⟩ := sideB_iff.1 h2
    have hv : Hid (M.openB a b = openF M (a.toNat + b.toNat) a b) := by show _ = _; simp [WM.openB, h1, h2]
    rw [hv.out]
    clear h1 h2 hv
    have hok := hW.ok
    obtain ⟨pa, pc, cg, cc, mg, mc, tb, fb, fn, bl, h⟩ := hW
    have c0 := h.c0
    have c1 := h.c1
    have hm := hok.made
    have hsd := hok.sides
    have hcs := hok.cuts
    have H : Hid (WV w p M F pa pc cg cc mg mc tb fb fn bl) := h
    have Hok : Hid M.ok := hok
    clear h hok
    obtain ⟨v, hv⟩ : ∃ v, v = openF M (a.toNat + b.toNat) a b := ⟨_, rfl⟩
    rw [← hv]
    have HV : Hid (v = openF M (a.toNat + b.toNat) a b) := hv
    clear hv
    have hml : (M.made.length : Int) ≤ 16 := by omega
    have hcl : (M.cuts.length : Int) = M.made.length := by omega
    have HM : Hid (M.made.length = M.parents.length + 1) := hm
    have HC : Hid ((M.cuts.length : Int) = M.made.length) := hcl
    clear hm hcl hcs
    go_enter Tryz.func46, Tryz.ntmps46
    go_wp2_with fail
    refine ha.mono ?_
    rintro e w' ⟨rfl, rfl⟩
    go_wp2_with fail
    refine hb.mono ?_
    rintro e w' ⟨rfl, rfl⟩
    go_wp2_with fail
    go_loop [1, 2] (fun va vb => ∃ (f : Nat) (x y : Int), va = .int .i64 x ∧ vb = .int .i64 y ∧ 0 ≤ x ∧ x < M.made.length ∧ 0 ≤ y ∧ y < M.made.length ∧ x.toNat + y.toNat ≤ f ∧ Hid (openF M f x y = v)) (fun va vb => (intOf va).toNat + (intOf vb).toNat)
    case atStart => exact ⟨_, a, b, rfl, rfl, a0, a1, b0, b1, Nat.le_refl _, HV.out.symm⟩
    case round =>
      obtain ⟨f, x, y, rfl, rfl, x0, x1, y0, y1, hf, Hv⟩ := hrel
      clear a0 a1 b0 b1 ha hb HV
      by_cases hxy : x = y
      · subst hxy
        have hT : Hid (v = true) := by
          have := Hv.out
          cases f <;> simp [openF] at this <;> exact this
        go_wp2_with fail
        go_ret
        exact ⟨by rw [hT.out]; rfl, rfl⟩
      · obtain ⟨f, rfl⟩ : ∃ g, f = g + 1 := ⟨f - 1, by omega⟩
        have hne : (x != y) = true := by simp [hxy]
        have HM' := HM.out
        have HC' := HC.out
        by_cases hlt : x < y
        · obtain ⟨k, rfl⟩ : ∃ k : Nat, y = (k : Int) + 1 := ⟨(y - 1).toNat, by omega⟩
          obtain ⟨b, o, rfl, hc⟩ := H.out.parCell (n := k) (by omega)
          have hp := Hok.out.par_le (n := k) (by omega)
          obtain ⟨q, hq⟩ : ∃ q, q = M.par k := ⟨_, rfl⟩
          rw [← hq] at hc hp
          have hk := H.out.cutCell (n := k + 1) (by omega)
          obtain ⟨c, hc'⟩ : ∃ c, c = M.cutAt (k + 1) := ⟨_, rfl⟩
          rw [← hc'] at hk
          have hst : Hid (openF M (f + 1) x ((k : Int) + 1) = if c then false else openF M f q x) := by
            show _ = _
            have e1 : ((k : Int) + 1).toNat = k + 1 := by omega
            rw [openF, if_neg hxy, if_pos hlt, e1, hq, hc']
            rfl
          have hkp : (k : Int) < M.parents.length := by omega
          have hkc : (k : Int) + 1 < M.cuts.length := by omega
          obtain ⟨q0, q1⟩ := hp
          clear HM' HC' hxy hq hc'
          cases c with
          | true =>
            go_wp2_with fail
            go_ret
            have := Hv.out
            rw [hst.out] at this
            exact ⟨by rw [← this]; rfl, rfl⟩
          | false =>
            go_wp2_with fail
            go_round
            case rel => exact ⟨f, q, x, rfl, rfl, q0, by omega, x0, x1, by omega, hst.out.symm.trans Hv.out⟩
            case measure => simp [intOf]; omega
        · obtain ⟨k, rfl⟩ : ∃ k : Nat, x = (k : Int) + 1 := ⟨(x - 1).toNat, by omega⟩
          obtain ⟨b, o, rfl, hc⟩ := H.out.parCell (n := k) (by omega)
          have hp := Hok.out.par_le (n := k) (by omega)
          obtain ⟨q, hq⟩ : ∃ q, q = M.par k := ⟨_, rfl⟩
          rw [← hq] at hc hp
          have hk := H.out.cutCell (n := k + 1) (by omega)
          obtain ⟨c, hc'⟩ : ∃ c, c = M.cutAt (k + 1) := ⟨_, rfl⟩
          rw [← hc'] at hk
          have hst : Hid (openF M (f + 1) ((k : Int) + 1) y = if c then false else openF M f q y) := by
            show _ = _
            have e1 : ((k : Int) + 1).toNat = k + 1 := by omega
            rw [openF, if_neg hxy, if_neg hlt, e1, hq, hc']
            rfl
          have hkp : (k : Int) < M.parents.length := by omega
          have hkc : (k : Int) + 1 < M.cuts.length := by omega
          obtain ⟨q0, q1⟩ := hp
          clear HM' HC' hxy hq hc'
          cases c with
          | true =>
            go_wp2_with fail
            go_ret
            have := Hv.out
            rw [hst.out] at this
            exact ⟨by rw [← this]; rfl, rfl⟩
          | false =>
            go_wp2_with fail
            go_round
            case rel => exact ⟨f, q, y, rfl, rfl, q0, by omega, y0, y1, by omega, hst.out.symm.trans Hv.out⟩
            case measure => simp [intOf]; omega
end
end Go.Proofs.YthebeomenjfdlaaGreat
/- Plain laws on a world as data: a thing more, a thing that turns. -/
set_option linter.unusedSimpArgs false
namespace Go.Proofs.YthebeomenjfdlaaGreat

theorem lookup_eq_some_mem {l : List (Int × Th)} {r : Int} {t : Th} (h : l.lookup r = some t) : (r, t) ∈ l := by
  induction l with
  | nil => cases h
  | cons x l ih =>
    obtain ⟨a, b⟩ := x
    rw [List.lookup_cons] at h
    by_cases e : r == a
    · rw [e] at h
      cases h
      have : r = a := by simpa using e
      subst this
      simp
    · rw [show (r == a) = false by simpa using e] at h
      exact List.mem_cons_of_mem _ (ih h)
theorem lookup_of_mem {l : List (Int × Th)} (hs : l.Pairwise (fun x y => x.1 < y.1)) {r : Int} {t : Th} (h : (r, t) ∈ l) : l.lookup r = some t := by
  induction l with
  | nil => cases h
  | cons x l ih =>
    obtain ⟨a, b⟩ := x
    obtain ⟨h1, h2⟩ := List.pairwise_cons.1 hs
    rw [List.lookup_cons]
    rcases List.mem_cons.1 h with e | e
    · cases e
      simp
    · have := h1 _ e
      have e2 : (r == a) = false := by simp; simp only at this; omega
      rw [e2]
      exact ih h2 e
theorem at_mem {M : WM} {r : Int} {t : Th} (h : M.at r = some t) : (r, t) ∈ M.things := lookup_eq_some_mem h
theorem WM.ok.at_of_mem {M : WM} (h : M.ok) {r : Int} {t : Th} (hm : (r, t) ∈ M.things) : M.at r = some t := lookup_of_mem h.keys hm
theorem WM.ok.at_range {M : WM} (h : M.ok) {r : Int} {t : Th} (hm : M.at r = some t) : 0 < r ∧ r ≤ M.last := h.range _ (at_mem hm)
theorem WM.ok.at_wf {M : WM} (h : M.ok) {r : Int} {t : Th} (hm : M.at r = some t) : (Lit.int .i64 r).wf = true := by
  have := h.at_range hm
  have := h.last
  exact WalkArith.wf_i64 (by omega)
theorem WM.ok.none_above {M : WM} (h : M.ok) {r : Int} (hr : M.last < r) : M.at r = none := by
  cases hm : M.at r with
  | none => rfl
  | some t => have := h.at_range hm; omega
theorem WM.ok.none_zero {M : WM} (h : M.ok) : M.at 0 = none := by
  cases hm : M.at 0 with
  | none => rfl
  | some t => have := h.at_range hm; omega

/-- One thing more. -/
def WM.add (M : WM) (t : Th) : WM :=
  { M with things := M.things ++ [(M.last + 1, t)], last := M.last + 1, made := if t.kind = 14 then M.made else M.made.set t.home.toNat (M.made.getD t.home.toNat 0 + 1) }

theorem lookup_append' (l : List (Int × Th)) (k : Int) (t : Th) (r : Int) : (l ++ [(k, t)]).lookup r = (l.lookup r).or (if r = k then some t else none) := by
  induction l with
  | nil =>
    by_cases e : r = k
    · subst e; simp
    · simp [e, List.lookup_cons, show (r == k) = false by simpa using e]
  | cons x l ih =>
    obtain ⟨a, b⟩ := x
    rw [List.cons_append, List.lookup_cons, List.lookup_cons]
    by_cases e : r == a
    · rw [e]; rfl
    · rw [show (r == a) = false by simpa using e]
      exact ih
theorem WM.add_at {M : WM} (h : M.ok) (t : Th) (r : Int) : (M.add t).at r = if r = M.last + 1 then some t else M.at r := by
  show (M.things ++ [(M.last + 1, t)]).lookup r = _
  rw [lookup_append']
  by_cases e : r = M.last + 1
  · subst e
    have := h.none_above (r := M.last + 1) (by omega)
    have e1 : M.things.lookup (M.last + 1) = none := this
    rw [e1]
    simp
  · simp [e, WM.at]
theorem WM.add_at_old {M : WM} (h : M.ok) (t : Th) {r : Int} {u : Th} (hr : M.at r = some u) : (M.add t).at r = some u := by
  rw [WM.add_at h, if_neg (by have := h.at_range hr; omega), hr]
theorem WM.add_at_new {M : WM} (h : M.ok) (t : Th) : (M.add t).at (M.last + 1) = some t := by rw [WM.add_at h, if_pos rfl]

theorem find_append_not {l : List (Int × Th)} {k : Int} {t : Th} {a b : Int} (hk : t.kind ≠ 14) : ((l ++ [(k, t)]).find? (fun x => x.2.kind == 14 && x.2.tgt == a && x.2.set == b)) = l.find? (fun x => x.2.kind == 14 && x.2.tgt == a && x.2.set == b) := by
  rw [List.find?_append]
  have : ([(k, t)] : List (Int × Th)).find? (fun x => x.2.kind == 14 && x.2.tgt == a && x.2.set == b) = none := by
    simp [List.find?_cons, hk]
  rw [this]
  simp
theorem WM.add_find_not {M : WM} {t : Th} (hk : t.kind ≠ 14) (a b : Int) : (M.add t).find a b = M.find a b := by
  show ((M.things ++ [(M.last + 1, t)]).find? _).map _ = _
  rw [find_append_not hk]
  rfl
theorem WM.add_find_facet {M : WM} {t : Th} (hk : t.kind = 14) (hn : M.find t.tgt t.set = none) (a b : Int) : (M.add t).find a b = if a = t.tgt ∧ b = t.set then some (M.last + 1) else M.find a b := by
  show ((M.things ++ [(M.last + 1, t)]).find? _).map _ = _
  rw [List.find?_append]
  by_cases e : a = t.tgt ∧ b = t.set
  · obtain ⟨rfl, rfl⟩ := e
    have h1 : M.things.find? (fun x => x.2.kind == 14 && x.2.tgt == t.tgt && x.2.set == t.set) = none := by
      simpa [WM.find] using hn
    rw [h1]
    simp [List.find?_cons, hk]
  · rw [if_neg e]
    have : ([(M.last + 1, t)] : List (Int × Th)).find? (fun x => x.2.kind == 14 && x.2.tgt == a && x.2.set == b) = none := by
      have : (t.tgt == a && t.set == b) = false := by
        cases h1 : t.tgt == a <;> cases h2 : t.set == b <;> simp_all
      simp [List.find?_cons, hk, this]
    rw [this]
    simp [WM.find]

theorem WM.find_at {M : WM} (h : M.ok) {a b r : Int} (hf : M.find a b = some r) : ∃ t, M.at r = some t ∧ t.kind = 14 ∧ t.tgt = a ∧ t.set = b := by
  unfold WM.find at hf
  rw [Option.map_eq_some_iff] at hf
  obtain ⟨x, hx, rfl⟩ := hf
  have hm := List.mem_of_find?_eq_some hx
  have hp := List.find?_some hx
  simp only [Bool.and_eq_true, beq_iff_eq] at hp
  exact ⟨x.2, h.at_of_mem hm, hp.1.1, hp.1.2, hp.2⟩
theorem WM.find_none {M : WM} {a b : Int} (hf : M.find a b = none) {r : Int} {t : Th} (ht : M.at r = some t) (hk : t.kind = 14) (h1 : t.tgt = a) (h2 : t.set = b) : False := by
  have : M.things.find? (fun x => x.2.kind == 14 && x.2.tgt == a && x.2.set == b) = none := by simpa [WM.find] using hf
  have := List.find?_eq_none.1 this _ (at_mem ht)
  simp [hk, h1, h2] at this

/-- What is asked of a thing that is added. -/
structure AddOk (M : WM) (t : Th) : Prop where
  wf : t.wf
  last : M.last + 1 ≤ 1099511627776
  home : t.kind ≠ 14 → 0 ≤ t.home ∧ t.home < M.made.length
  made : t.kind ≠ 14 → M.made.getD t.home.toNat 0 < 512
  wrap : wrapsB t.kind = true → ∃ u, M.at t.tgt = some u
  gate : t.kind = 15 → ∃ u, M.at t.bi = some u ∧ u.kind = 13
  purse : t.kind = 9 → ∃ u, M.at t.tgt = some u ∧ u.kind = 8
  facet : t.kind = 14 → M.find t.tgt t.set = none

theorem WM.add_ok {M : WM} (h : M.ok) {t : Th} (a : AddOk M t) : (M.add t).ok where
  sides := h.sides
  cuts := h.cuts
  made := by
    show (if t.kind = 14 then M.made else _).length = _
    split
    · exact h.made
    · rw [List.length_set]; exact h.made
  tree := h.tree
  keys := by
    show (M.things ++ [(M.last + 1, t)]).Pairwise _
    rw [List.pairwise_append]
    refine ⟨h.keys, by simp, fun x hx y hy => ?_⟩
    simp at hy
    subst hy
    have := h.range x hx
    simp only
    omega
  range x hx := by
    rcases List.mem_append.1 hx with hx | hx
    · have := h.range x hx
      show _ ∧ _ ≤ M.last + 1
      omega
    · simp at hx
      subst hx
      have := h.last
      show 0 < M.last + 1 ∧ M.last + 1 ≤ M.last + 1
      omega
  last := by
    have := h.last
    have := a.last
    show 0 ≤ M.last + 1 ∧ M.last + 1 ≤ _
    omega
  mades i x hx := by
    change (if t.kind = 14 then M.made else _)[i]? = some x at hx
    split at hx
    · exact h.mades i x hx
    · rename_i hk
      rw [List.getElem?_set] at hx
      split at hx
      · split at hx
        · cases hx
          have h1 := a.made hk
          have : M.made[t.home.toNat]? = some (M.made.getD t.home.toNat 0) := by rw [List.getD_eq_getElem?_getD, List.getElem?_eq_getElem (by omega)]; rfl
          have := h.mades _ _ this
          omega
        · cases hx
      · exact h.mades i x hx
  wf r u hu := by
    rw [WM.add_at h] at hu
    split at hu
    · cases hu; exact a.wf
    · exact h.wf r u hu
  homes r u hu hk := by
    have hl : (M.add t).made.length = M.made.length := by
      show (if t.kind = 14 then M.made else _).length = _
      split
      · rfl
      · rw [List.length_set]
    rw [hl]
    rw [WM.add_at h] at hu
    split at hu
    · cases hu; exact a.home hk
    · exact h.homes r u hu hk
  wrap := by
    obtain ⟨rk, h0, h1⟩ := h.wrap
    have hl := h.last
    refine ⟨fun r => if r = M.last + 1 then rk t.tgt + 1 else rk r, fun r => ?_, fun r u hu hw => ?_⟩
    · have e1 := h0 t.tgt
      have e2 := h0 r
      show (if r = M.last + 1 then rk t.tgt + 1 else rk r) ≤ (M.last + 1).toNat
      split <;> omega
    · rw [WM.add_at h] at hu
      split at hu
      · rename_i e
        cases hu
        obtain ⟨u, hu⟩ := a.wrap hw
        have := h.at_range hu
        refine ⟨⟨u, WM.add_at_old h _ hu⟩, ?_⟩
        show (if t.tgt = M.last + 1 then rk t.tgt + 1 else rk t.tgt) < if r = M.last + 1 then rk t.tgt + 1 else rk r
        rw [if_neg (by omega), if_pos e]
        omega
      · rename_i e
        obtain ⟨⟨v, hv⟩, h3⟩ := h1 r u hu hw
        have := h.at_range hv
        refine ⟨⟨v, WM.add_at_old h _ hv⟩, ?_⟩
        show (if u.tgt = M.last + 1 then rk t.tgt + 1 else rk u.tgt) < if r = M.last + 1 then rk t.tgt + 1 else rk r
        rw [if_neg (by omega), if_neg e]
        exact h3
  gate r u hu hk := by
    rw [WM.add_at h] at hu
    split at hu
    · cases hu
      obtain ⟨v, h1, h2⟩ := a.gate hk
      exact ⟨v, WM.add_at_old h _ h1, h2⟩
    · obtain ⟨v, h1, h2⟩ := h.gate r u hu hk
      exact ⟨v, WM.add_at_old h _ h1, h2⟩
  purse r u hu hk := by
    rw [WM.add_at h] at hu
    split at hu
    · cases hu
      obtain ⟨v, h1, h2⟩ := a.purse hk
      exact ⟨v, WM.add_at_old h _ h1, h2⟩
    · obtain ⟨v, h1, h2⟩ := h.purse r u hu hk
      exact ⟨v, WM.add_at_old h _ h1, h2⟩
  facet r u r' u' hu hu' k k' e1 e2 := by
    rw [WM.add_at h] at hu hu'
    split at hu <;> split at hu'
    · omega
    · cases hu
      exact (WM.find_none (a.facet k) hu' k' e1.symm e2.symm).elim
    · cases hu'
      exact (WM.find_none (a.facet k') hu k e1 e2).elim
    · exact h.facet r u r' u' hu hu' k k' e1 e2
end Go.Proofs.YthebeomenjfdlaaGreat
