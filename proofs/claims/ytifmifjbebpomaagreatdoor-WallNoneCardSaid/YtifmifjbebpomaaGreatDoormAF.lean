/- A part of the proof, several texts in one: Wholes, Class, WaL, Val, Refs. -/
import Derived.Test.YtifmifjbebpomaaGreatDoormAA
import Derived.Deep.WholeRow
import Derived.Deep.QuietTactic
import Derived.BigQuiet
import Derived.Test.YtifmifjbebpomaaGreatDoormAC
import Derived.Test.YtifmifjbebpomaaGreatDoormAE
import Derived.Shelf.Slices.Cells
import Derived.Maps.AppendAt
import Derived.Laws.AppendOwnNone
/- A whole struct read and written at once, in blocks that a call has laid. -/
namespace Go.Proofs.YtifmifjbebpomaaGreatDoor
open Go.RowKit Go.ChangeMaps Go.MapKept

theorem run_loadAt_blk {P : Program} {w : World} {b : Nat} {ty e : TypeId} {cs : Array Value} {fr : Nat × Nat} {d : TypeDesc} (hg : w.heap[b]? = some (.cells cs e fr)) (hu : P.underlying ty = some d)
    (hd : (match (d : TypeDesc) with | .struct _ | .array _ _ => true | _ => false) = true) (hi : (P.info? ty).map (·.size) = some cs.size) :
    (Instr.loadAt ty (.pointer (some ⟨b, 0, none⟩))).run P w = .ok (.agg cs) w := by
  simp only [Instr.loadAt, Instr.sureAddr, Sem.run_bind, Sem.run_pure, Result.andThen]
  exact run_loadVar_row w b e ty cs fr d hg hu hd hi
theorem run_storeAt_blk {P : Program} {w : World} {b : Nat} {ty e : TypeId} {c c' : Array Value} (hg : w.heap[b]? = some (.cells c e (0, 0))) (hi : (P.info? ty).map (·.size) = some c'.size) (ho : c.size = c'.size) (h1 : c'.all (·.oneCell') = true) :
    (Instr.storeAt ty (.pointer (some ⟨b, 0, none⟩)) (.agg c')).run P w = .ok () (w.setRow b c') := by
  simp only [Instr.storeAt, Instr.sureAddr, Sem.run_bind, Sem.run_pure, Result.andThen]
  exact run_storeVar_row w b e ty c c' hg hi ho h1

theorem setRow_alloc (w : World) (b : Nat) (c : Array Value) (o : Obj) (hb : b < w.heap.size) : (w.alloc o).setRow b c = (w.setRow b c).alloc o := by
  simp only [World.setRow, World.alloc]
  congr 1
  apply Array.ext_getElem?
  intro i
  simp only [Array.getElem?_modify, Array.getElem?_push, Array.size_modify]
  by_cases h : b = i
  · subst h
    rw [if_pos rfl, if_neg (by omega), if_neg (by omega), if_pos rfl]
  · rw [if_neg h]
    split <;> rfl

theorem sizeWhat : (Tryz.prog.info? 73).map (·.size) = some 16 := by kernel_rfl
theorem sizeValue : (Tryz.prog.info? 29).map (·.size) = some 5 := by kernel_rfl
/-- A whole What read, written: kept closed to the walk's simp, so that the laws below serve. -/
def ldW (a : Value) : Sem Next := do pure (.value (← Instr.loadAt 73 a))
def stW (a x : Value) : Sem Next := do Instr.storeAt 73 a x; pure .skip
@[go_sem ↓] theorem execOp_ldW (ρ : Operand → Value) (d : Option Tmp) (a : Operand) (ty : TypeId) (pos : String) (af : Array Edge) (g : Option (Nat × Bool)) :
    execOp ρ { dst := d, op := .load 73 a, type := ty, pos := pos, after := af, guard := g } = ldW (ρ a) := rfl
@[go_sem ↓] theorem execOp_stW (ρ : Operand → Value) (d : Option Tmp) (a x : Operand) (ty : TypeId) (pos : String) (af : Array Edge) (g : Option (Nat × Bool)) :
    execOp ρ { dst := d, op := .store 73 a x, type := ty, pos := pos, after := af, guard := g } = stW (ρ a) (ρ x) := rfl

theorem loadWhat_blk {w : World} {b : Nat} {cs : Array Value} {fr : Nat × Nat} (hg : w.heap[b]? = some (.cells cs 73 fr)) (hs : cs.size = 16) : (ldW (.pointer (some ⟨b, 0, none⟩))).run Tryz.prog w = .ok (.value (.agg cs)) w := by
  have := run_loadAt_blk hg Tryz.underlying73 rfl (by rw [hs]; exact sizeWhat)
  simp only [ldW, Sem.run_bind, this, Result.andThen, Sem.run_pure]
theorem storeWhat_blk {w : World} {b : Nat} {c c' : Array Value} (hg : w.heap[b]? = some (.cells c 73 (0, 0))) (hs : c.size = 16) (hs' : c'.size = 16) (h1 : c'.all (·.oneCell') = true) :
    (stW (.pointer (some ⟨b, 0, none⟩)) (.agg c')).run Tryz.prog w = .ok .skip (w.setRow b c') := by
  have := run_storeAt_blk (P := Tryz.prog) hg (by rw [hs']; exact sizeWhat) (by rw [hs, hs']) h1
  simp only [stW, Sem.run_bind, this, Result.andThen, Sem.run_pure]

/-- A What handed back. -/
theorem results_What {fn : Func} {q : Tmp} (h : fn.results = #[.cell q 73]) (tmps : Array Value) (W : World) (g : Nat) (cs : Array Value) (fr : Nat × Nat) (hp : tmps.getD q undef = .pointer (some ⟨g, 0, none⟩))
    (hg : W.heap[g]? = some (.cells cs 73 fr)) (hs : cs.size = 16) : (results fn tmps).run Tryz.prog W = .ok (.agg cs) W :=
  results_cell_row (P := Tryz.prog) h tmps W g 73 cs fr _ hp hg Tryz.underlying73 rfl (by rw [hs]; exact sizeWhat)
theorem blk_at1 (w : World) (A B C : Obj) {g : Nat} (hg : g = w.heap.size + 1) : (((w.alloc A).alloc B).alloc C).heap[g]? = some B := by
  have := blk_old _ C (blk_new (w.alloc A) B)
  rw [World.size_alloc] at this
  rw [hg]
  exact this
theorem blk_at1' (w : World) (A B : Obj) {g : Nat} (hg : g = w.heap.size + 1) : ((w.alloc A).alloc B).heap[g]? = some B := by
  have := blk_new (w.alloc A) B
  rw [World.size_alloc] at this
  rw [hg]
  exact this
theorem blk_at1d (w : World) (A B C : Obj) {g : Nat} (hg : g = w.heap.size + 1) : (((w.alloc A).alloc B).alloc C).drew.heap[g]? = some B := blk_at1 w A B C hg
@[go_sem] theorem oneCell_u8 (k : IntKind) (n : Int) : (Value.int k n).oneCell' = true := rfl
@[go_sem] theorem oneCell_bool (n : Bool) : (Value.bool n).oneCell' = true := rfl
@[go_sem] theorem oneCell_string (n : ByteArray) : (Value.string n).oneCell' = true := rfl
@[go_sem] theorem oneCell_slice (a : Option Addr) (n c : Nat) : (Value.slice a n c).oneCell' = true := rfl
section
variable (w : World) (b : Nat) (x0 x1 x2 x3 x4 x5 x6 x7 x8 x9 x10 x11 x12 x13 x14 x15 y0 y1 y2 y3 y4 y5 y6 y7 y8 y9 y10 y11 y12 y13 y14 y15 z0 z1 z2 z3 z4 z5 z6 z7 z8 z9 z10 z11 z12 z13 z14 z15 : Value) (o o' o'' : Obj)
@[go_sem] theorem loadWhat_0 (hb : b = w.heap.size) : (ldW (.pointer (some ⟨b, 0, none⟩))).run Tryz.prog (w.alloc (.cells #[x0, x1, x2, x3, x4, x5, x6, x7, x8, x9, x10, x11, x12, x13, x14, x15] 73)) = .ok (.value (.agg #[x0, x1, x2, x3, x4, x5, x6, x7, x8, x9, x10, x11, x12, x13, x14, x15])) (w.alloc (.cells #[x0, x1, x2, x3, x4, x5, x6, x7, x8, x9, x10, x11, x12, x13, x14, x15] 73)) := by
  subst hb
  exact loadWhat_blk (w := (w.alloc (.cells #[x0, x1, x2, x3, x4, x5, x6, x7, x8, x9, x10, x11, x12, x13, x14, x15] 73))) (blk_new w _) rfl
@[go_sem] theorem storeWhat_0 (hb : b = w.heap.size) (h1 : (y0.oneCell' && y1.oneCell' && y2.oneCell' && y3.oneCell' && y4.oneCell' && y5.oneCell' && y6.oneCell' && y7.oneCell' && y8.oneCell' && y9.oneCell' && y10.oneCell' && y11.oneCell' && y12.oneCell' && y13.oneCell' && y14.oneCell' && y15.oneCell') = true) : (stW (.pointer (some ⟨b, 0, none⟩)) (.agg #[y0, y1, y2, y3, y4, y5, y6, y7, y8, y9, y10, y11, y12, y13, y14, y15])).run Tryz.prog (w.alloc (.cells #[z0, z1, z2, z3, z4, z5, z6, z7, z8, z9, z10, z11, z12, z13, z14, z15] 73)) = .ok .skip (w.alloc (.cells #[y0, y1, y2, y3, y4, y5, y6, y7, y8, y9, y10, y11, y12, y13, y14, y15] 73)) := by
  subst hb
  rw [storeWhat_blk (blk_new w _) rfl rfl (by simpa [Bool.and_assoc] using h1), World.setRow_alloc_new]
@[go_sem] theorem loadWhat_1 (hb : b = w.heap.size) : (ldW (.pointer (some ⟨b, 0, none⟩))).run Tryz.prog ((w.alloc (.cells #[x0, x1, x2, x3, x4, x5, x6, x7, x8, x9, x10, x11, x12, x13, x14, x15] 73)).alloc o) = .ok (.value (.agg #[x0, x1, x2, x3, x4, x5, x6, x7, x8, x9, x10, x11, x12, x13, x14, x15])) ((w.alloc (.cells #[x0, x1, x2, x3, x4, x5, x6, x7, x8, x9, x10, x11, x12, x13, x14, x15] 73)).alloc o) := by
  subst hb
  exact loadWhat_blk (w := ((w.alloc (.cells #[x0, x1, x2, x3, x4, x5, x6, x7, x8, x9, x10, x11, x12, x13, x14, x15] 73)).alloc o)) (blk_old _ _ (blk_new w _)) rfl
@[go_sem] theorem storeWhat_1 (hb : b = w.heap.size) (h1 : (y0.oneCell' && y1.oneCell' && y2.oneCell' && y3.oneCell' && y4.oneCell' && y5.oneCell' && y6.oneCell' && y7.oneCell' && y8.oneCell' && y9.oneCell' && y10.oneCell' && y11.oneCell' && y12.oneCell' && y13.oneCell' && y14.oneCell' && y15.oneCell') = true) : (stW (.pointer (some ⟨b, 0, none⟩)) (.agg #[y0, y1, y2, y3, y4, y5, y6, y7, y8, y9, y10, y11, y12, y13, y14, y15])).run Tryz.prog ((w.alloc (.cells #[z0, z1, z2, z3, z4, z5, z6, z7, z8, z9, z10, z11, z12, z13, z14, z15] 73)).alloc o) = .ok .skip ((w.alloc (.cells #[y0, y1, y2, y3, y4, y5, y6, y7, y8, y9, y10, y11, y12, y13, y14, y15] 73)).alloc o) := by
  subst hb
  rw [storeWhat_blk (blk_old _ _ (blk_new w _)) rfl rfl (by simpa [Bool.and_assoc] using h1), setRow_alloc _ _ _ _ (by simp), World.setRow_alloc_new]
@[go_sem] theorem loadWhat_2 (hb : b = w.heap.size) : (ldW (.pointer (some ⟨b, 0, none⟩))).run Tryz.prog (((w.alloc (.cells #[x0, x1, x2, x3, x4, x5, x6, x7, x8, x9, x10, x11, x12, x13, x14, x15] 73)).alloc o).alloc o') = .ok (.value (.agg #[x0, x1, x2, x3, x4, x5, x6, x7, x8, x9, x10, x11, x12, x13, x14, x15])) (((w.alloc (.cells #[x0, x1, x2, x3, x4, x5, x6, x7, x8, x9, x10, x11, x12, x13, x14, x15] 73)).alloc o).alloc o') := by
  subst hb
  exact loadWhat_blk (w := (((w.alloc (.cells #[x0, x1, x2, x3, x4, x5, x6, x7, x8, x9, x10, x11, x12, x13, x14, x15] 73)).alloc o).alloc o')) (blk_old _ _ (blk_old _ _ (blk_new w _))) rfl
@[go_sem] theorem storeWhat_2 (hb : b = w.heap.size) (h1 : (y0.oneCell' && y1.oneCell' && y2.oneCell' && y3.oneCell' && y4.oneCell' && y5.oneCell' && y6.oneCell' && y7.oneCell' && y8.oneCell' && y9.oneCell' && y10.oneCell' && y11.oneCell' && y12.oneCell' && y13.oneCell' && y14.oneCell' && y15.oneCell') = true) : (stW (.pointer (some ⟨b, 0, none⟩)) (.agg #[y0, y1, y2, y3, y4, y5, y6, y7, y8, y9, y10, y11, y12, y13, y14, y15])).run Tryz.prog (((w.alloc (.cells #[z0, z1, z2, z3, z4, z5, z6, z7, z8, z9, z10, z11, z12, z13, z14, z15] 73)).alloc o).alloc o') = .ok .skip (((w.alloc (.cells #[y0, y1, y2, y3, y4, y5, y6, y7, y8, y9, y10, y11, y12, y13, y14, y15] 73)).alloc o).alloc o') := by
  subst hb
  rw [storeWhat_blk (blk_old _ _ (blk_old _ _ (blk_new w _))) rfl rfl (by simpa [Bool.and_assoc] using h1), setRow_alloc _ _ _ _ (by simp; omega), setRow_alloc _ _ _ _ (by simp), World.setRow_alloc_new]
@[go_sem] theorem loadWhat_3 (hb : b = w.heap.size) : (ldW (.pointer (some ⟨b, 0, none⟩))).run Tryz.prog ((((w.alloc (.cells #[x0, x1, x2, x3, x4, x5, x6, x7, x8, x9, x10, x11, x12, x13, x14, x15] 73)).alloc o).alloc o').alloc o'') = .ok (.value (.agg #[x0, x1, x2, x3, x4, x5, x6, x7, x8, x9, x10, x11, x12, x13, x14, x15])) ((((w.alloc (.cells #[x0, x1, x2, x3, x4, x5, x6, x7, x8, x9, x10, x11, x12, x13, x14, x15] 73)).alloc o).alloc o').alloc o'') := by
  subst hb
  exact loadWhat_blk (w := ((((w.alloc (.cells #[x0, x1, x2, x3, x4, x5, x6, x7, x8, x9, x10, x11, x12, x13, x14, x15] 73)).alloc o).alloc o').alloc o'')) (blk_old _ _ (blk_old _ _ (blk_old _ _ (blk_new w _)))) rfl
@[go_sem] theorem storeWhat_3 (hb : b = w.heap.size) (h1 : (y0.oneCell' && y1.oneCell' && y2.oneCell' && y3.oneCell' && y4.oneCell' && y5.oneCell' && y6.oneCell' && y7.oneCell' && y8.oneCell' && y9.oneCell' && y10.oneCell' && y11.oneCell' && y12.oneCell' && y13.oneCell' && y14.oneCell' && y15.oneCell') = true) : (stW (.pointer (some ⟨b, 0, none⟩)) (.agg #[y0, y1, y2, y3, y4, y5, y6, y7, y8, y9, y10, y11, y12, y13, y14, y15])).run Tryz.prog ((((w.alloc (.cells #[z0, z1, z2, z3, z4, z5, z6, z7, z8, z9, z10, z11, z12, z13, z14, z15] 73)).alloc o).alloc o').alloc o'') = .ok .skip ((((w.alloc (.cells #[y0, y1, y2, y3, y4, y5, y6, y7, y8, y9, y10, y11, y12, y13, y14, y15] 73)).alloc o).alloc o').alloc o'') := by
  subst hb
  rw [storeWhat_blk (blk_old _ _ (blk_old _ _ (blk_old _ _ (blk_new w _)))) rfl rfl (by simpa [Bool.and_assoc] using h1), setRow_alloc _ _ _ _ (by simp; omega), setRow_alloc _ _ _ _ (by simp; omega), setRow_alloc _ _ _ _ (by simp), World.setRow_alloc_new]
@[go_sem] theorem loadWhat_0d (hb : b = w.heap.size) : (ldW (.pointer (some ⟨b, 0, none⟩))).run Tryz.prog (w.alloc (.cells #[x0, x1, x2, x3, x4, x5, x6, x7, x8, x9, x10, x11, x12, x13, x14, x15] 73)).drew = .ok (.value (.agg #[x0, x1, x2, x3, x4, x5, x6, x7, x8, x9, x10, x11, x12, x13, x14, x15])) (w.alloc (.cells #[x0, x1, x2, x3, x4, x5, x6, x7, x8, x9, x10, x11, x12, x13, x14, x15] 73)).drew := by
  subst hb
  exact loadWhat_blk (w := (w.alloc (.cells #[x0, x1, x2, x3, x4, x5, x6, x7, x8, x9, x10, x11, x12, x13, x14, x15] 73)).drew) (blk_new w _) rfl
@[go_sem] theorem storeWhat_0d (hb : b = w.heap.size) (h1 : (y0.oneCell' && y1.oneCell' && y2.oneCell' && y3.oneCell' && y4.oneCell' && y5.oneCell' && y6.oneCell' && y7.oneCell' && y8.oneCell' && y9.oneCell' && y10.oneCell' && y11.oneCell' && y12.oneCell' && y13.oneCell' && y14.oneCell' && y15.oneCell') = true) : (stW (.pointer (some ⟨b, 0, none⟩)) (.agg #[y0, y1, y2, y3, y4, y5, y6, y7, y8, y9, y10, y11, y12, y13, y14, y15])).run Tryz.prog (w.alloc (.cells #[z0, z1, z2, z3, z4, z5, z6, z7, z8, z9, z10, z11, z12, z13, z14, z15] 73)).drew = .ok .skip (w.alloc (.cells #[y0, y1, y2, y3, y4, y5, y6, y7, y8, y9, y10, y11, y12, y13, y14, y15] 73)).drew := by
  subst hb
  rw [storeWhat_blk (w := (w.alloc (.cells #[z0, z1, z2, z3, z4, z5, z6, z7, z8, z9, z10, z11, z12, z13, z14, z15] 73)).drew) (blk_new w _) rfl rfl (by simpa [Bool.and_assoc] using h1)]
  have e : ((w.alloc (.cells #[z0, z1, z2, z3, z4, z5, z6, z7, z8, z9, z10, z11, z12, z13, z14, z15] 73))).setRow w.heap.size #[y0, y1, y2, y3, y4, y5, y6, y7, y8, y9, y10, y11, y12, y13, y14, y15] = (w.alloc (.cells #[y0, y1, y2, y3, y4, y5, y6, y7, y8, y9, y10, y11, y12, y13, y14, y15] 73)) := by rw [World.setRow_alloc_new]
  exact congrArg (fun W : World => Result.ok Next.skip W.drew) e
@[go_sem] theorem loadWhat_1d (hb : b = w.heap.size) : (ldW (.pointer (some ⟨b, 0, none⟩))).run Tryz.prog ((w.alloc (.cells #[x0, x1, x2, x3, x4, x5, x6, x7, x8, x9, x10, x11, x12, x13, x14, x15] 73)).alloc o).drew = .ok (.value (.agg #[x0, x1, x2, x3, x4, x5, x6, x7, x8, x9, x10, x11, x12, x13, x14, x15])) ((w.alloc (.cells #[x0, x1, x2, x3, x4, x5, x6, x7, x8, x9, x10, x11, x12, x13, x14, x15] 73)).alloc o).drew := by
  subst hb
  exact loadWhat_blk (w := ((w.alloc (.cells #[x0, x1, x2, x3, x4, x5, x6, x7, x8, x9, x10, x11, x12, x13, x14, x15] 73)).alloc o).drew) (blk_old _ _ (blk_new w _)) rfl
@[go_sem] theorem storeWhat_1d (hb : b = w.heap.size) (h1 : (y0.oneCell' && y1.oneCell' && y2.oneCell' && y3.oneCell' && y4.oneCell' && y5.oneCell' && y6.oneCell' && y7.oneCell' && y8.oneCell' && y9.oneCell' && y10.oneCell' && y11.oneCell' && y12.oneCell' && y13.oneCell' && y14.oneCell' && y15.oneCell') = true) : (stW (.pointer (some ⟨b, 0, none⟩)) (.agg #[y0, y1, y2, y3, y4, y5, y6, y7, y8, y9, y10, y11, y12, y13, y14, y15])).run Tryz.prog ((w.alloc (.cells #[z0, z1, z2, z3, z4, z5, z6, z7, z8, z9, z10, z11, z12, z13, z14, z15] 73)).alloc o).drew = .ok .skip ((w.alloc (.cells #[y0, y1, y2, y3, y4, y5, y6, y7, y8, y9, y10, y11, y12, y13, y14, y15] 73)).alloc o).drew := by
  subst hb
  rw [storeWhat_blk (w := ((w.alloc (.cells #[z0, z1, z2, z3, z4, z5, z6, z7, z8, z9, z10, z11, z12, z13, z14, z15] 73)).alloc o).drew) (blk_old _ _ (blk_new w _)) rfl rfl (by simpa [Bool.and_assoc] using h1)]
  have e : (((w.alloc (.cells #[z0, z1, z2, z3, z4, z5, z6, z7, z8, z9, z10, z11, z12, z13, z14, z15] 73)).alloc o)).setRow w.heap.size #[y0, y1, y2, y3, y4, y5, y6, y7, y8, y9, y10, y11, y12, y13, y14, y15] = ((w.alloc (.cells #[y0, y1, y2, y3, y4, y5, y6, y7, y8, y9, y10, y11, y12, y13, y14, y15] 73)).alloc o) := by rw [setRow_alloc _ _ _ _ (by simp), World.setRow_alloc_new]
  exact congrArg (fun W : World => Result.ok Next.skip W.drew) e
@[go_sem] theorem loadWhat_2d (hb : b = w.heap.size) : (ldW (.pointer (some ⟨b, 0, none⟩))).run Tryz.prog (((w.alloc (.cells #[x0, x1, x2, x3, x4, x5, x6, x7, x8, x9, x10, x11, x12, x13, x14, x15] 73)).alloc o).alloc o').drew = .ok (.value (.agg #[x0, x1, x2, x3, x4, x5, x6, x7, x8, x9, x10, x11, x12, x13, x14, x15])) (((w.alloc (.cells #[x0, x1, x2, x3, x4, x5, x6, x7, x8, x9, x10, x11, x12, x13, x14, x15] 73)).alloc o).alloc o').drew := by
  subst hb
  exact loadWhat_blk (w := (((w.alloc (.cells #[x0, x1, x2, x3, x4, x5, x6, x7, x8, x9, x10, x11, x12, x13, x14, x15] 73)).alloc o).alloc o').drew) (blk_old _ _ (blk_old _ _ (blk_new w _))) rfl
@[go_sem] theorem storeWhat_2d (hb : b = w.heap.size) (h1 : (y0.oneCell' && y1.oneCell' && y2.oneCell' && y3.oneCell' && y4.oneCell' && y5.oneCell' && y6.oneCell' && y7.oneCell' && y8.oneCell' && y9.oneCell' && y10.oneCell' && y11.oneCell' && y12.oneCell' && y13.oneCell' && y14.oneCell' && y15.oneCell') = true) : (stW (.pointer (some ⟨b, 0, none⟩)) (.agg #[y0, y1, y2, y3, y4, y5, y6, y7, y8, y9, y10, y11, y12, y13, y14, y15])).run Tryz.prog (((w.alloc (.cells #[z0, z1, z2, z3, z4, z5, z6, z7, z8, z9, z10, z11, z12, z13, z14, z15] 73)).alloc o).alloc o').drew = .ok .skip (((w.alloc (.cells #[y0, y1, y2, y3, y4, y5, y6, y7, y8, y9, y10, y11, y12, y13, y14, y15] 73)).alloc o).alloc o').drew := by
  subst hb
  rw [storeWhat_blk (w := (((w.alloc (.cells #[z0, z1, z2, z3, z4, z5, z6, z7, z8, z9, z10, z11, z12, z13, z14, z15] 73)).alloc o).alloc o').drew) (blk_old _ _ (blk_old _ _ (blk_new w _))) rfl rfl (by simpa [Bool.and_assoc] using h1)]
  have e : ((((w.alloc (.cells #[z0, z1, z2, z3, z4, z5, z6, z7, z8, z9, z10, z11, z12, z13, z14, z15] 73)).alloc o).alloc o')).setRow w.heap.size #[y0, y1, y2, y3, y4, y5, y6, y7, y8, y9, y10, y11, y12, y13, y14, y15] = (((w.alloc (.cells #[y0, y1, y2, y3, y4, y5, y6, y7, y8, y9, y10, y11, y12, y13, y14, y15] 73)).alloc o).alloc o') := by rw [setRow_alloc _ _ _ _ (by simp; omega), setRow_alloc _ _ _ _ (by simp), World.setRow_alloc_new]
  exact congrArg (fun W : World => Result.ok Next.skip W.drew) e
@[go_sem] theorem loadWhat_3d (hb : b = w.heap.size) : (ldW (.pointer (some ⟨b, 0, none⟩))).run Tryz.prog ((((w.alloc (.cells #[x0, x1, x2, x3, x4, x5, x6, x7, x8, x9, x10, x11, x12, x13, x14, x15] 73)).alloc o).alloc o').alloc o'').drew = .ok (.value (.agg #[x0, x1, x2, x3, x4, x5, x6, x7, x8, x9, x10, x11, x12, x13, x14, x15])) ((((w.alloc (.cells #[x0, x1, x2, x3, x4, x5, x6, x7, x8, x9, x10, x11, x12, x13, x14, x15] 73)).alloc o).alloc o').alloc o'').drew := by
  subst hb
  exact loadWhat_blk (w := ((((w.alloc (.cells #[x0, x1, x2, x3, x4, x5, x6, x7, x8, x9, x10, x11, x12, x13, x14, x15] 73)).alloc o).alloc o').alloc o'').drew) (blk_old _ _ (blk_old _ _ (blk_old _ _ (blk_new w _)))) rfl
@[go_sem] theorem storeWhat_3d (hb : b = w.heap.size) (h1 : (y0.oneCell' && y1.oneCell' && y2.oneCell' && y3.oneCell' && y4.oneCell' && y5.oneCell' && y6.oneCell' && y7.oneCell' && y8.oneCell' && y9.oneCell' && y10.oneCell' && y11.oneCell' && y12.oneCell' && y13.oneCell' && y14.oneCell' && y15.oneCell') = true) : (stW (.pointer (some ⟨b, 0, none⟩)) (.agg #[y0, y1, y2, y3, y4, y5, y6, y7, y8, y9, y10, y11, y12, y13, y14, y15])).run Tryz.prog ((((w.alloc (.cells #[z0, z1, z2, z3, z4, z5, z6, z7, z8, z9, z10, z11, z12, z13, z14, z15] 73)).alloc o).alloc o').alloc o'').drew = .ok .skip ((((w.alloc (.cells #[y0, y1, y2, y3, y4, y5, y6, y7, y8, y9, y10, y11, y12, y13, y14, y15] 73)).alloc o).alloc o').alloc o'').drew := by
  subst hb
  rw [storeWhat_blk (w := ((((w.alloc (.cells #[z0, z1, z2, z3, z4, z5, z6, z7, z8, z9, z10, z11, z12, z13, z14, z15] 73)).alloc o).alloc o').alloc o'').drew) (blk_old _ _ (blk_old _ _ (blk_old _ _ (blk_new w _)))) rfl rfl (by simpa [Bool.and_assoc] using h1)]
  have e : (((((w.alloc (.cells #[z0, z1, z2, z3, z4, z5, z6, z7, z8, z9, z10, z11, z12, z13, z14, z15] 73)).alloc o).alloc o').alloc o'')).setRow w.heap.size #[y0, y1, y2, y3, y4, y5, y6, y7, y8, y9, y10, y11, y12, y13, y14, y15] = ((((w.alloc (.cells #[y0, y1, y2, y3, y4, y5, y6, y7, y8, y9, y10, y11, y12, y13, y14, y15] 73)).alloc o).alloc o').alloc o'') := by rw [setRow_alloc _ _ _ _ (by simp; omega), setRow_alloc _ _ _ _ (by simp; omega), setRow_alloc _ _ _ _ (by simp), World.setRow_alloc_new]
  exact congrArg (fun W : World => Result.ok Next.skip W.drew) e
end
end Go.Proofs.YtifmifjbebpomaaGreatDoor
/- A region that draws its order, whose operations answer one value in every world of a class. -/
namespace Go.Proofs.YtifmifjbebpomaaGreatDoor
open Go.RowKit

theorem region_class {P : Program} {C : World → Prop} {id : Nat} {Q : Exit → Act → World → Prop} {a : Act} {w : World} {l : List Oper} (hm : P.follows .mixedOrders = true) (hB : Region.lexB .any l.toArray = true) (hC : C w.drew)
    (h : wpQuiet P l.toArray C (fun a' => ∀ w', C w' → Q .normal a' w') l a) : (Code.region id l.toArray true).wp P Q a w :=
  wp_region_quiet (C := C) hm hB hC (by simpa using h)
theorem below_drew {w : World} : Below w.heap.size w w.drew := ⟨rfl, rfl, rfl, Nat.le_refl _, fun _ _ => rfl⟩
theorem below_drewN {w : World} (n : Nat) : Below w.heap.size w (w.drewN n) := ⟨rfl, rfl, rfl, Nat.le_refl _, fun _ _ => rfl⟩
end Go.Proofs.YtifmifjbebpomaaGreatDoor
/- Walls: lists of numbers that a call makes: append, turned round. -/
namespace Go.Proofs.YtifmifjbebpomaaGreatDoor
open Go.RowKit Go.Shelf Go.ChangeMaps Go.MapKept

def Tryz.revLay_ren : Go.Shelf.Ren := ⟨fun | 112 => 54 | n => n + 100000, fun | 0 => 0 | 3 => 3 | 4 => 4 | 28 => 36 | n => n + 100000, fun n => n⟩
theorem Tryz.revLay : Lays.n112 Tryz.prog Tryz.revLay_ren := {
  mixed := by kernel_rfl
  f112 := Tryz.func54.trans (congrArg some (by kernel_rfl))
  t0 := Tryz.underlying0
  a0 := Tryz.isAgg0
  z0 := Tryz.sizeOf0
  v0 := Tryz.zeroValue0
  t3 := Tryz.underlying3
  a3 := Tryz.isAgg3
  z3 := Tryz.sizeOf3
  v3 := Tryz.zeroValue3
  t4 := Tryz.underlying4
  a4 := Tryz.isAgg4
  z4 := Tryz.sizeOf4
  v4 := Tryz.zeroValue4
  t28 := Tryz.underlying36
  a28 := Tryz.isAgg36
  z28 := Tryz.sizeOf36
  v28 := Tryz.zeroValue36 }

/-- A list of ints that a call makes grows by one; where it lies then. -/
theorem append_intT {w : World} {ops : Array Oper} {rest : List Oper} {o : Oper} {a : Act} {Q : Exit → Act → World → Prop} (hgd : o.guard = none) (s x : Operand)
    (ho : o.op = .call { callee := .builtin .append, args := #[s, x], argTypes := #[36, 36] }) (base : Nat)
    (v : Value) (l : List Int) (n : Nat) (hs : a.eval s = v) (hown : Hid (w.ownsRow base 3 1 v n (l.map (Value.int .i64)))) (y : Int) (hx : a.eval x = .slice (some ⟨w.heap.size, 0, none⟩) 1 1)
    (hn : Hid ((n : Int) ≤ 1099511627776)) (hbase : Hid (base ≤ w.heap.size))
    (h : ∀ v' w', Hid (w'.ownsRow base 3 1 v' (n + 1) ((l ++ [y]).map (Value.int .i64))) → Hid (w.grownBy w' v.ownBlock) → Hid (v'.ownBlock = v.ownBlock ∨ v'.ownBlock = some (w.heap.size + 1)) → wpList Tryz.prog ops Q rest (a.put o.dst v') w') : wpList Tryz.prog ops Q (o :: rest) a (w.alloc (.cells #[.int .i64 y] 3)) := by
  obtain ⟨i, hi, hz, h1, h2⟩ := info_parts infoInt
  have hn' := hn.out
  have hb2 : (n + 1) * 8 ≤ 1099511627777 * 8 := Nat.mul_le_mul_right _ (by omega)
  refine wpList_append_own_at _ hgd s x 36 ho base 3 i (.int .i64 0) 1 8 Tryz.underlying36 hi hz h1 h2 rfl (by decide) v n _ hs (hown.out.alloc _) ⟨w.heap.size, 0, none⟩ 1 1 [.int .i64 y] hx rfl (cell_one_new _ _ _) (by simp [Value.oneCell']) (by unfold maxLen; omega) (by omega) (by have := hbase.out; simp; omega) ?_
  intro v' w' r1 r2 _ r4
  exact h v' w' (by show World.ownsRow _ _ _ _ _ _ _; simpa using r1) ((World.grownBy_alloc w _ _).trans r2) (by show _ ∨ _; simpa using r4)

/-- A list of ints is put behind another one. -/
theorem append_intsT {w : World} {ops : Array Oper} {rest : List Oper} {o : Oper} {a : Act} {Q : Exit → Act → World → Prop} (hgd : o.guard = none) (s x : Operand)
    (ho : o.op = .call { callee := .builtin .append, args := #[s, x], argTypes := #[36, 36] }) (base : Nat)
    (v : Value) (l : List Int) (hs : a.eval s = v) (hown : Hid (w.ownsRow base 3 1 v l.length (l.map (Value.int .i64)))) (u : Value) (m : List Int) (hx : a.eval x = u) (hu : Hid (w.ownsRow base 3 1 u m.length (m.map (Value.int .i64))))
    (hn : Hid (l.length ≤ 1000 ∧ m.length ≤ 1000)) (hbase : Hid (base ≤ w.heap.size))
    (h : ∀ v' w', Hid (w'.ownsRow base 3 1 v' (l ++ m).length ((l ++ m).map (Value.int .i64))) → Hid (w.grownBy w' v.ownBlock) → wpList Tryz.prog ops Q rest (a.put o.dst v') w') : wpList Tryz.prog ops Q (o :: rest) a w := by
  obtain ⟨i, hi, hz, h1, h2⟩ := info_parts infoInt
  have hn' := hn.out
  rcases hu.out.2 with ⟨rfl, h0⟩ | ⟨g, cap, cur, rfl, hbg, hg, k1, k2, k3, k4⟩
  · obtain rfl : m = [] := List.eq_nil_of_length_eq_zero h0
    refine wpList_append_own_none hgd s x 36 ho base 3 i 1 Tryz.underlying36 hi v l.length _ hs hown.out hx ?_
    exact h v w (by show World.ownsRow _ _ _ _ _ _ _; simpa using hown.out) (World.grownBy.refl _ _)
  · refine wpList_append_own_at _ hgd s x 36 ho base 3 i (.int .i64 0) 1 8 Tryz.underlying36 hi hz h1 h2 rfl (by decide) v l.length _ hs hown.out ⟨g, 0, none⟩ m.length cap (m.map (Value.int .i64)) hx (by simp) (fun j y hy => ?_) (by simp [Value.oneCell']) (by unfold maxLen; omega) (by omega) hbase.out ?_
    · have := hu.out.cellAt j (by have := (List.getElem?_eq_some_iff.1 hy).1; simpa using this)
      have e : (⟨g, 0, none⟩ : Addr).add j = ⟨g, j, none⟩ := by unfold Addr.add; split <;> simp_all
      rw [e, this]
      simpa using hy
    · intro v' w' r1 r2 _ r4
      exact h v' w' (by show World.ownsRow _ _ _ _ _ _ _; simpa using r1) r2
theorem blk_setCellsW {e : TypeId} : ∀ (cs : List Value) (o : Nat) (w : World) (b : Nat) (cur : Array Value), w.heap[b]? = some (.cells cur e (0, 0)) → o + cs.length ≤ cur.size →
    ∃ cur' : Array Value, (w.setCells b o cs).heap[b]? = some (.cells cur' e (0, 0)) ∧ cur'.size = cur.size ∧ cur'.toList = cur.toList.take o ++ cs ++ cur.toList.drop (o + cs.length)
  | [], o, w, b, cur, h, _ => ⟨cur, h, rfl, by simp⟩
  | v :: cs, o, w, b, cur, h, hl => by
    have hl' : o + (cs.length + 1) ≤ cur.size := by simpa using hl
    obtain ⟨cur', h1, h2, h3⟩ := blk_setCellsW cs (o + 1) (w.setCell ⟨b, o, none⟩ v) b (cur.setIfInBounds o v) (blk_setCell h o v) (by simp; omega)
    refine ⟨cur', h1, by rw [h2]; simp, ?_⟩
    rw [h3]
    have e1 : (cur.setIfInBounds o v).toList = cur.toList.set o v := by simp
    rw [e1, List.take_set, List.drop_set]
    rw [if_pos (by omega)]
    have ho : o < cur.toList.length := by simp; omega
    have e2 : (cur.toList.take (o + 1)).set o v = cur.toList.take o ++ [v] := by
      rw [List.take_add_one, List.getElem?_eq_getElem ho]
      show (cur.toList.take o ++ [_]).set o v = _
      rw [List.set_append, if_neg (by rw [List.length_take]; omega)]
      congr 1
      rw [List.length_take, Nat.min_eq_left (by omega), Nat.sub_self]
      rfl
    rw [e2, List.length_cons, show o + 1 + cs.length = o + (cs.length + 1) by omega]
    simp
theorem keeps_setCellsW {F : Nat → Prop} {b : Nat} (hF : F b) : ∀ (cs : List Value) (o : Nat) (w : World), Keeps F w (w.setCells b o cs)
  | [], _, w => Keeps.refl F w
  | v :: r, o, w => (Keeps.setCell (S := F) w ⟨b, o, none⟩ v hF).trans (keeps_setCellsW hF r (o + 1) (w.setCell ⟨b, o, none⟩ v)) (fun _ _ h => h) (fun _ _ h => h)
/-- slices.Reverse of a list that the call made. -/
theorem rev_W (w : World) {base : Nat} {v : Value} {l : List Int} (hr : w.ownsRow base 3 1 v l.length (l.map (Value.int .i64))) (hl : l.length ≤ 1000) :
    Calls Tryz.prog 54 #[v] w fun e w' => e = .returned (.tuple #[]) ∧ Hid (w'.ownsRow base 3 1 v l.length (l.reverse.map (Value.int .i64))) ∧ Hid (Keeps (fun b => v.ownBlock = some b) w w') := by
  rcases hr.2 with ⟨rfl, h0⟩ | ⟨g, cap, cur, rfl, hbg, hg, k1, k2, k3, k4⟩
  · obtain rfl : l = [] := List.eq_nil_of_length_eq_zero h0
    refine (Any.slices_Reverse_int_empty Tryz.revLay _ _ w).mono ?_
    rintro e _ ⟨rfl, rfl⟩
    exact ⟨rfl, hr, Keeps.refl _ _⟩
  · refine (Any.slices_Reverse_int_cells Tryz.revLay g 0 l.length cap l w (Nat.le_refl _) (by omega) (fun j hj => ?_) (fun j _ => frozen_blk hg _)).mono ?_
    · have := hr.cellAt j (by omega)
      rw [Nat.zero_add, this]
      simp [List.getElem?_eq_getElem hj, List.getD_eq_getElem?_getD]
    · rintro e w' ⟨rfl, q, rfl⟩
      rw [List.take_length]
      have hk : Keeps (fun b => (Value.slice (some ⟨g, 0, none⟩) l.length cap).ownBlock = some b) w ((w.drewN q).setCells g 0 (l.reverse.map (Value.int .i64))) :=
        Below.keeps (S := fun b => (Value.slice (some ⟨g, 0, none⟩) l.length cap).ownBlock = some b) (below_drewN q) (keeps_setCellsW (F := fun b => (Value.slice (some ⟨g, 0, none⟩) l.length cap).ownBlock = some b) rfl _ _ _)
      obtain ⟨cur', c1, c2, c3⟩ := blk_setCellsW (l.reverse.map (Value.int .i64)) 0 (w.drewN q) g cur hg (by simp; omega)
      refine ⟨rfl, ⟨by simp, .inr ⟨g, cap, cur', rfl, hbg, c1, by omega, k2, by rw [c2]; exact k3, ?_⟩⟩, hk⟩
      rw [c3]
      simp
end Go.Proofs.YtifmifjbebpomaaGreatDoor
/- Values without lists: nothing, a number. What is asked of them, and what is copied. -/
namespace Go.Proofs.YtifmifjbebpomaaGreatDoor
open Go.RowKit Go.ChangeMaps Go.MapKept

/-- A value that is nothing or a number. -/
def Plain (k n : Int) : Prop := (k = 0 ∧ n = 0) ∨ k = 1

set_option maxRecDepth 8000 in
theorem vMay_W (w : World) (k n : Int) (h : Plain k n) : Calls Tryz.prog 83 #[.agg #[.int .u8 k, .int .i64 n, .string ⟨#[]⟩, .slice none 0 0, .int .i64 0]] w fun e w' => e = .returned (.bool true) ∧ Below w.heap.size w w' := by
  rcases h with ⟨rfl, rfl⟩ | rfl
  · go_enter Tryz.func83, Tryz.ntmps83
    go_wp2
    go_ret
    exact ⟨rfl, by go_grown⟩
  · go_enter Tryz.func83, Tryz.ntmps83
    go_wp2
    go_ret
    exact ⟨rfl, by go_grown⟩

set_option maxRecDepth 8000 in
theorem vown_W (w : World) (k n : Int) : Calls Tryz.prog 122 #[.agg #[.int .u8 k, .int .i64 n, .string ⟨#[]⟩, .slice none 0 0, .int .i64 0]] w fun e w' => e = .returned (.agg #[.int .u8 k, .int .i64 n, .string ⟨#[]⟩, .slice none 0 0, .int .i64 0]) ∧ Below w.heap.size w w' := by
  go_enter Tryz.func122, Tryz.ntmps122
  go_wp2
  go_returns
  exact ⟨rfl, by go_grown⟩

set_option maxRecDepth 8000 in
theorem vOwn_W (w : World) (k n : Int) (h : Plain k n) : Calls Tryz.prog 128 #[.agg #[.int .u8 k, .int .i64 n, .string ⟨#[]⟩, .slice none 0 0, .int .i64 0]] w fun e w' =>
    e = .returned (.tuple #[.agg #[.int .u8 k, .int .i64 n, .string ⟨#[]⟩, .slice none 0 0, .int .i64 0], .int .i64 0]) ∧ Below w.heap.size w w' := by
  go_enter Tryz.func128, Tryz.ntmps128
  go_wp2_with fail
  refine (vMay_W _ k n h).mono ?_
  rintro e w1 ⟨rfl, hb1⟩
  obtain ⟨hc, hf⟩ := bcell hb1
  have hz : w.heap.size + 1 < w1.heap.size := by have := hb1.size; simp at this; omega
  have HB : Hid (Below w.heap.size w w1) := (((Below.refl _ _).alloc (Nat.le_refl _) _).alloc (by simp) _).trans (hb1.mono (by simp; omega))
  clear hb1
  go_wp2_with fail
  refine (vown_W _ k n).mono ?_
  rintro e w2 ⟨rfl, hb2⟩
  obtain ⟨hc2, hf2⟩ := bcell hb2
  have hz2 : w.heap.size + 1 < w2.heap.size := by have := hb2.size; omega
  have HB2 : Hid (Below w.heap.size w w2) := HB.out.trans (hb2.mono HB.out.size)
  clear hb2
  go_wp2_with fail
  have hB2 := HB2.out
  have hz1 : w.heap.size + 1 < w1.heap.size := hz
  exact bodyPost_ret (v := .tuple #[.agg #[.int .u8 k, .int .i64 n, .string ⟨#[]⟩, .slice none 0 0, .int .i64 0], .int .i64 0]) (by simp [results, Tryz.results128, go_sem, hc, hc2, hz1]) rfl ⟨rfl, by go_grown⟩

set_option maxRecDepth 8000 in
theorem cloneVal_W (w : World) : Calls Tryz.prog 95 #[.slice none 0 0] w fun e w' => e = .returned (.slice none 0 0) ∧ Below w.heap.size w w' := by
  go_enter Tryz.func95, Tryz.ntmps95
  go_wp2
  go_ret
  exact ⟨rfl, by go_grown⟩

set_option maxRecDepth 8000 in
theorem cloneName_W (w : World) : Calls Tryz.prog 96 #[.slice none 0 0] w fun e w' => e = .returned (.slice none 0 0) ∧ w = w' := by
  go_enter Tryz.func96, Tryz.ntmps96
  go_wp2
  go_ret
  exact ⟨rfl, rfl⟩
set_option maxRecDepth 8000 in
theorem cloneStmt_W (w : World) : Calls Tryz.prog 129 #[.slice none 0 0] w fun e w' => e = .returned (.slice none 0 0) ∧ w = w' := by
  go_enter Tryz.func129, Tryz.ntmps129
  go_wp2
  go_ret
  exact ⟨rfl, rfl⟩
set_option maxRecDepth 8000 in
theorem ownCode_W (w : World) : Calls Tryz.prog 97 #[.slice none 0 0] w fun e w' => e = .returned (.slice none 0 0) ∧ w = w' := by
  go_enter Tryz.func97, Tryz.ntmps97
  go_wp2_with fail
  refine (cloneStmt_W _).mono ?_
  rintro e w1 ⟨rfl, rfl⟩
  go_wp2_with fail
  go_rounds 1
  go_ret
  exact ⟨rfl, rfl⟩
set_option maxRecDepth 8000 in
theorem wsmall_W (w : World) (p : Option Addr) : Calls Tryz.prog 85 #[.slice none 0 0, .pointer p] w fun e w' => e = .returned (.bool true) ∧ w = w' := by
  go_enter Tryz.func85, Tryz.ntmps85
  go_wp2_with fail
  go_rounds 1
  go_ret
  exact ⟨rfl, rfl⟩
set_option maxRecDepth 8000 in
theorem containsRef_W (w : World) (f : Value) : Calls Tryz.prog 87 #[.slice none 0 0, f] w fun e w' => e = .returned (.bool false) ∧ w = w' := by
  go_enter Tryz.func87, Tryz.ntmps87
  go_wp2
  go_rounds 1
  go_ret
  exact ⟨rfl, rfl⟩

set_option maxHeartbeats 1600000 in
set_option maxRecDepth 8000 in
theorem wown_W (w : World) (k n : Int) (h : Plain k n) : Calls Tryz.prog 94 #[.agg #[.int .u8 k, .int .i64 n, .string ⟨#[]⟩, .slice none 0 0, .int .i64 0]] w fun e w' => e = .returned (.agg #[.int .u8 k, .int .i64 n, .string ⟨#[]⟩, .slice none 0 0, .int .i64 0]) ∧ Below w.heap.size w w' := by
  go_enter Tryz.func94, Tryz.ntmps94
  go_wp2_with fail
  refine (vOwn_W _ k n h).mono ?_
  rintro e w1 ⟨rfl, hb1⟩
  obtain ⟨⟨a0, a1, a2, a3, a4⟩, f0, f1, f2, f3, f4⟩ := cells5 (below_blk hb1 (blk2_new _ _ _))
  have hz : w.heap.size + 1 < w1.heap.size := by have := hb1.size; simp at this; omega
  have HB : Hid (Below w.heap.size w w1) := (((Below.refl _ _).alloc (Nat.le_refl _) _).alloc (by simp) _).trans (hb1.mono (by simp; omega))
  clear hb1
  go_wp2_with fail
  have hB := HB.out
  have hz1 : w.heap.size ≤ w1.heap.size := by omega
  exact bodyPost_ret (v := .agg #[.int .u8 k, .int .i64 n, .string ⟨#[]⟩, .slice none 0 0, .int .i64 0]) (by simp [results, Tryz.results94, go_sem, a0, a1, a2, a3, a4, hz]) rfl ⟨rfl, by go_grown⟩


end Go.Proofs.YtifmifjbebpomaaGreatDoor
/- The references of a plain value: none. -/
namespace Go.Proofs.YtifmifjbebpomaaGreatDoor
open Go.RowKit Go.ChangeMaps Go.MapKept

set_option maxRecDepth 8000 in
theorem vRefs1_W (w : World) (k n : Int) (h : Plain k n) (p : Option Addr) (l : Value) : Calls Tryz.prog 157 #[l, .agg #[.int .u8 k, .int .i64 n, .string ⟨#[]⟩, .slice none 0 0, .int .i64 0], .pointer p] w fun e w' => e = .returned (.bool true) ∧ Below w.heap.size w w' := by
  have hk4 : (k == 4) = false := by rcases h with ⟨rfl, rfl⟩ | rfl <;> rfl
  go_enter Tryz.func157, Tryz.ntmps157
  go_wp2
  go_ret
  exact ⟨rfl, by go_grown⟩

set_option maxRecDepth 8000 in
theorem vwalk_W (w : World) (k n : Int) (h : Plain k n) (p : Option Addr) : Calls Tryz.prog 156 #[.agg #[.int .u8 k, .int .i64 n, .string ⟨#[]⟩, .slice none 0 0, .int .i64 0], .slice none 0 0, .func (.func 157) #[] #[.pointer p]] w fun e w' => e = .returned (.bool true) ∧ Below w.heap.size w w' := by
  go_enter Tryz.func156, Tryz.ntmps156
  go_wp2_with fail
  refine (vRefs1_W _ k n h _ _).mono ?_
  rintro e w1 ⟨rfl, hb1⟩
  obtain ⟨⟨a0, a1, a2, a3, a4⟩, f0, f1, f2, f3, f4⟩ := cells5 (below_blk hb1 (blk_new _ _))
  have hz : w.heap.size < w1.heap.size := by have := hb1.size; simp at this; omega
  have HB : Hid (Below w.heap.size w w1) := ((Below.refl _ _).alloc (Nat.le_refl _) _).trans (hb1.mono (by simp; try omega))
  clear hb1
  go_wp2_with fail
  go_rounds 1
  go_ret
  have hB := HB.out
  exact ⟨rfl, by go_grown⟩

set_option maxRecDepth 8000 in
theorem vRefs_W (w : World) (k n : Int) (h : Plain k n) : Calls Tryz.prog 125 #[.agg #[.int .u8 k, .int .i64 n, .string ⟨#[]⟩, .slice none 0 0, .int .i64 0]] w fun e w' => e = .returned (.slice none 0 0) ∧ Below w.heap.size w w' := by
  go_enter Tryz.func125, Tryz.ntmps125
  go_wp2_with fail
  refine (vMay_W _ k n h).mono ?_
  rintro e w1 ⟨rfl, hb1⟩
  obtain ⟨⟨a0, a1, a2, a3, a4⟩, f0, f1, f2, f3, f4⟩ := cells5 (below_blk hb1 (blk2_old _ _ _))
  have b0 : w1.heap[w.heap.size + 1]? = some (.cells #[.slice none 0 0] 112 (0, 0)) := below_blk hb1 (blk2_new _ _ _)
  have hz : w.heap.size + 1 < w1.heap.size := by have := hb1.size; simp at this; omega
  have HB : Hid (Below w.heap.size w w1) := (((Below.refl _ _).alloc (Nat.le_refl _) _).alloc (by simp) _).trans (hb1.mono (by simp; omega))
  clear hb1
  go_wp2_with fail
  refine (vwalk_W _ k n h _).mono ?_
  rintro e w2 ⟨rfl, hb2⟩
  have b2 : w2.cell? ⟨w.heap.size + 1, 0, none⟩ = some (.slice none 0 0) := by rw [cell_blk (below_blk hb2 b0)]; rfl
  have hz2 : w.heap.size + 1 < w2.heap.size := by have := hb2.size; omega
  have HB2 : Hid (Below w.heap.size w w2) := HB.out.trans (hb2.mono HB.out.size)
  clear hb2
  go_wp2_with fail
  go_ret
  have hB := HB2.out
  have hz1 : w.heap.size ≤ w1.heap.size := by omega
  exact ⟨rfl, by go_grown⟩
end Go.Proofs.YtifmifjbebpomaaGreatDoor
