/- A whole struct read and written at once, in blocks that a call has laid. -/
import Derived.Test.YtifmifjbebpomaaGreatDoorRep
import Derived.Deep.WholeRow
namespace Go.Proofs.YtifmifjbebpomaaGreatDoor
open Go.RowKit Go.ChangeMaps Go.MapKept

theorem run_loadAt_blk {P : Program} {w : World} {b : Nat} {ty e : TypeId} {cs : Array Value} {fr : Nat × Nat} {d : TypeDesc} (hg : w.heap[b]? = some (.cells cs e fr)) (hu : P.underlying ty = some d)
    (hd : (match (d : TypeDesc) with | .struct _ | .array _ _ => true | _ => false) = true) (hi : (P.info? ty).map (·.size) = some cs.size) :
    (Instr.loadAt ty (.pointer (some ⟨b, 0, none⟩))).run P w = .ok (.agg cs) w := by
  simp only [Instr.loadAt, Instr.sureAddr, Sem.run_bind, Sem.run_pure, Result.andThen]
  exact run_loadVar_row w b e ty cs fr d hg hu hd hi
theorem run_storeAt_blk {P : Program} {w : World} {b : Nat} {ty e : TypeId} {c c' : Array Value} (hg : w.heap[b]? = some (.cells c e (0, 0))) (hi : (P.info? ty).map (·.size) = some c'.size) (ho : c.size = c'.size) (h1 : c'.all (·.oneCell') = true) :
    (Instr.storeAt ty (.pointer (some ⟨b, 0, none⟩)) (.agg c')).run P w = .ok () (w.setRow b c') := by
  simp only [Instr.storeAt, Instr.sureAddr, Sem.run_bind, Sem.run_pure, Result.andThen]
  exact run_storeVar_row w b e ty c c' hg hi ho h1

theorem setRow_alloc (w : World) (b : Nat) (c : Array Value) (o : Obj) (hb : b < w.heap.size) : (w.alloc o).setRow b c = (w.setRow b c).alloc o := by
  simp only [World.setRow, World.alloc]
  congr 1
  apply Array.ext_getElem?
  intro i
  simp only [Array.getElem?_modify, Array.getElem?_push, Array.size_modify]
  by_cases h : b = i
  · subst h
    rw [if_pos rfl, if_neg (by omega), if_neg (by omega), if_pos rfl]
  · rw [if_neg h]
    split <;> rfl

theorem sizeWhat : (Tryz.prog.info? 73).map (·.size) = some 16 := by kernel_rfl
theorem sizeValue : (Tryz.prog.info? 29).map (·.size) = some 5 := by kernel_rfl
/-- A whole What read, written: kept closed to the walk's simp, so that the laws below serve. -/
def ldW (a : Value) : Sem Next := do pure (.value (← Instr.loadAt 73 a))
def stW (a x : Value) : Sem Next := do Instr.storeAt 73 a x; pure .skip
@[go_sem ↓] theorem execOp_ldW (ρ : Operand → Value) (d : Option Tmp) (a : Operand) (ty : TypeId) (pos : String) (af : Array Edge) (g : Option (Nat × Bool)) :
    execOp ρ { dst := d, op := .load 73 a, type := ty, pos := pos, after := af, guard := g } = ldW (ρ a) := rfl
@[go_sem ↓] theorem execOp_stW (ρ : Operand → Value) (d : Option Tmp) (a x : Operand) (ty : TypeId) (pos : String) (af : Array Edge) (g : Option (Nat × Bool)) :
    execOp ρ { dst := d, op := .store 73 a x, type := ty, pos := pos, after := af, guard := g } = stW (ρ a) (ρ x) := rfl

theorem loadWhat_blk {w : World} {b : Nat} {cs : Array Value} {fr : Nat × Nat} (hg : w.heap[b]? = some (.cells cs 73 fr)) (hs : cs.size = 16) : (ldW (.pointer (some ⟨b, 0, none⟩))).run Tryz.prog w = .ok (.value (.agg cs)) w := by
  have := run_loadAt_blk hg Tryz.underlying73 rfl (by rw [hs]; exact sizeWhat)
  simp only [ldW, Sem.run_bind, this, Result.andThen, Sem.run_pure]
theorem storeWhat_blk {w : World} {b : Nat} {c c' : Array Value} (hg : w.heap[b]? = some (.cells c 73 (0, 0))) (hs : c.size = 16) (hs' : c'.size = 16) (h1 : c'.all (·.oneCell') = true) :
    (stW (.pointer (some ⟨b, 0, none⟩)) (.agg c')).run Tryz.prog w = .ok .skip (w.setRow b c') := by
  have := run_storeAt_blk (P := Tryz.prog) hg (by rw [hs']; exact sizeWhat) (by rw [hs, hs']) h1
  simp only [stW, Sem.run_bind, this, Result.andThen, Sem.run_pure]

/-- A What handed back. -/
theorem results_What {fn : Func} {q : Tmp} (h : fn.results = #[.cell q 73]) (tmps : Array Value) (W : World) (g : Nat) (cs : Array Value) (fr : Nat × Nat) (hp : tmps.getD q undef = .pointer (some ⟨g, 0, none⟩))
    (hg : W.heap[g]? = some (.cells cs 73 fr)) (hs : cs.size = 16) : (results fn tmps).run Tryz.prog W = .ok (.agg cs) W :=
  results_cell_row (P := Tryz.prog) h tmps W g 73 cs fr _ hp hg Tryz.underlying73 rfl (by rw [hs]; exact sizeWhat)
theorem blk_at1 (w : World) (A B C : Obj) {g : Nat} (hg : g = w.heap.size + 1) : (((w.alloc A).alloc B).alloc C).heap[g]? = some B := by
  have := blk_old _ C (blk_new (w.alloc A) B)
  rw [World.size_alloc] at this
  rw [hg]
  exact this
theorem blk_at1' (w : World) (A B : Obj) {g : Nat} (hg : g = w.heap.size + 1) : ((w.alloc A).alloc B).heap[g]? = some B := by
  have := blk_new (w.alloc A) B
  rw [World.size_alloc] at this
  rw [hg]
  exact this
theorem blk_at1d (w : World) (A B C : Obj) {g : Nat} (hg : g = w.heap.size + 1) : (((w.alloc A).alloc B).alloc C).drew.heap[g]? = some B := blk_at1 w A B C hg
@[go_sem] theorem oneCell_u8 (k : IntKind) (n : Int) : (Value.int k n).oneCell' = true := rfl
@[go_sem] theorem oneCell_bool (n : Bool) : (Value.bool n).oneCell' = true := rfl
@[go_sem] theorem oneCell_string (n : ByteArray) : (Value.string n).oneCell' = true := rfl
@[go_sem] theorem oneCell_slice (a : Option Addr) (n c : Nat) : (Value.slice a n c).oneCell' = true := rfl
section
variable (w : World) (b : Nat) (x0 x1 x2 x3 x4 x5 x6 x7 x8 x9 x10 x11 x12 x13 x14 x15 y0 y1 y2 y3 y4 y5 y6 y7 y8 y9 y10 y11 y12 y13 y14 y15 z0 z1 z2 z3 z4 z5 z6 z7 z8 z9 z10 z11 z12 z13 z14 z15 : Value) (o o' o'' : Obj)
@[go_sem] theorem loadWhat_0 (hb : b = w.heap.size) : (ldW (.pointer (some ⟨b, 0, none⟩))).run Tryz.prog (w.alloc (.cells #[x0, x1, x2, x3, x4, x5, x6, x7, x8, x9, x10, x11, x12, x13, x14, x15] 73)) = .ok (.value (.agg #[x0, x1, x2, x3, x4, x5, x6, x7, x8, x9, x10, x11, x12, x13, x14, x15])) (w.alloc (.cells #[x0, x1, x2, x3, x4, x5, x6, x7, x8, x9, x10, x11, x12, x13, x14, x15] 73)) := by
  subst hb
  exact loadWhat_blk (w := (w.alloc (.cells #[x0, x1, x2, x3, x4, x5, x6, x7, x8, x9, x10, x11, x12, x13, x14, x15] 73))) (blk_new w _) rfl
@[go_sem] theorem storeWhat_0 (hb : b = w.heap.size) (h1 : (y0.oneCell' && y1.oneCell' && y2.oneCell' && y3.oneCell' && y4.oneCell' && y5.oneCell' && y6.oneCell' && y7.oneCell' && y8.oneCell' && y9.oneCell' && y10.oneCell' && y11.oneCell' && y12.oneCell' && y13.oneCell' && y14.oneCell' && y15.oneCell') = true) : (stW (.pointer (some ⟨b, 0, none⟩)) (.agg #[y0, y1, y2, y3, y4, y5, y6, y7, y8, y9, y10, y11, y12, y13, y14, y15])).run Tryz.prog (w.alloc (.cells #[z0, z1, z2, z3, z4, z5, z6, z7, z8, z9, z10, z11, z12, z13, z14, z15] 73)) = .ok .skip (w.alloc (.cells #[y0, y1, y2, y3, y4, y5, y6, y7, y8, y9, y10, y11, y12, y13, y14, y15] 73)) := by
  subst hb
  rw [storeWhat_blk (blk_new w _) rfl rfl (by simpa [Bool.and_assoc] using h1), World.setRow_alloc_new]
@[go_sem] theorem loadWhat_1 (hb : b = w.heap.size) : (ldW (.pointer (some ⟨b, 0, none⟩))).run Tryz.prog ((w.alloc (.cells #[x0, x1, x2, x3, x4, x5, x6, x7, x8, x9, x10, x11, x12, x13, x14, x15] 73)).alloc o) = .ok (.value (.agg #[x0, x1, x2, x3, x4, x5, x6, x7, x8, x9, x10, x11, x12, x13, x14, x15])) ((w.alloc (.cells #[x0, x1, x2, x3, x4, x5, x6, x7, x8, x9, x10, x11, x12, x13, x14, x15] 73)).alloc o) := by
  subst hb
  exact loadWhat_blk (w := ((w.alloc (.cells #[x0, x1, x2, x3, x4, x5, x6, x7, x8, x9, x10, x11, x12, x13, x14, x15] 73)).alloc o)) (blk_old _ _ (blk_new w _)) rfl
@[go_sem] theorem storeWhat_1 (hb : b = w.heap.size) (h1 : (y0.oneCell' && y1.oneCell' && y2.oneCell' && y3.oneCell' && y4.oneCell' && y5.oneCell' && y6.oneCell' && y7.oneCell' && y8.oneCell' && y9.oneCell' && y10.oneCell' && y11.oneCell' && y12.oneCell' && y13.oneCell' && y14.oneCell' && y15.oneCell') = true) : (stW (.pointer (some ⟨b, 0, none⟩)) (.agg #[y0, y1, y2, y3, y4, y5, y6, y7, y8, y9, y10, y11, y12, y13, y14, y15])).run Tryz.prog ((w.alloc (.cells #[z0, z1, z2, z3, z4, z5, z6, z7, z8, z9, z10, z11, z12, z13, z14, z15] 73)).alloc o) = .ok .skip ((w.alloc (.cells #[y0, y1, y2, y3, y4, y5, y6, y7, y8, y9, y10, y11, y12, y13, y14, y15] 73)).alloc o) := by
  subst hb
  rw [storeWhat_blk (blk_old _ _ (blk_new w _)) rfl rfl (by simpa [Bool.and_assoc] using h1), setRow_alloc _ _ _ _ (by simp), World.setRow_alloc_new]
@[go_sem] theorem loadWhat_2 (hb : b = w.heap.size) : (ldW (.pointer (some ⟨b, 0, none⟩))).run Tryz.prog (((w.alloc (.cells #[x0, x1, x2, x3, x4, x5, x6, x7, x8, x9, x10, x11, x12, x13, x14, x15] 73)).alloc o).alloc o') = .ok (.value (.agg #[x0, x1, x2, x3, x4, x5, x6, x7, x8, x9, x10, x11, x12, x13, x14, x15])) (((w.alloc (.cells #[x0, x1, x2, x3, x4, x5, x6, x7, x8, x9, x10, x11, x12, x13, x14, x15] 73)).alloc o).alloc o') := by
  subst hb
  exact loadWhat_blk (w := (((w.alloc (.cells #[x0, x1, x2, x3, x4, x5, x6, x7, x8, x9, x10, x11, x12, x13, x14, x15] 73)).alloc o).alloc o')) (blk_old _ _ (blk_old _ _ (blk_new w _))) rfl
@[go_sem] theorem storeWhat_2 (hb : b = w.heap.size) (h1 : (y0.oneCell' && y1.oneCell' && y2.oneCell' && y3.oneCell' && y4.oneCell' && y5.oneCell' && y6.oneCell' && y7.oneCell' && y8.oneCell' && y9.oneCell' && y10.oneCell' && y11.oneCell' && y12.oneCell' && y13.oneCell' && y14.oneCell' && y15.oneCell') = true) : (stW (.pointer (some ⟨b, 0, none⟩)) (.agg #[y0, y1, y2, y3, y4, y5, y6, y7, y8, y9, y10, y11, y12, y13, y14, y15])).run Tryz.prog (((w.alloc (.cells #[z0, z1, z2, z3, z4, z5, z6, z7, z8, z9, z10, z11, z12, z13, z14, z15] 73)).alloc o).alloc o') = .ok .skip (((w.alloc (.cells #[y0, y1, y2, y3, y4, y5, y6, y7, y8, y9, y10, y11, y12, y13, y14, y15] 73)).alloc o).alloc o') := by
  subst hb
  rw [storeWhat_blk (blk_old _ _ (blk_old _ _ (blk_new w _))) rfl rfl (by simpa [Bool.and_assoc] using h1), setRow_alloc _ _ _ _ (by simp; omega), setRow_alloc _ _ _ _ (by simp), World.setRow_alloc_new]
@[go_sem] theorem loadWhat_3 (hb : b = w.heap.size) : (ldW (.pointer (some ⟨b, 0, none⟩))).run Tryz.prog ((((w.alloc (.cells #[x0, x1, x2, x3, x4, x5, x6, x7, x8, x9, x10, x11, x12, x13, x14, x15] 73)).alloc o).alloc o').alloc o'') = .ok (.value (.agg #[x0, x1, x2, x3, x4, x5, x6, x7, x8, x9, x10, x11, x12, x13, x14, x15])) ((((w.alloc (.cells #[x0, x1, x2, x3, x4, x5, x6, x7, x8, x9, x10, x11, x12, x13, x14, x15] 73)).alloc o).alloc o').alloc o'') := by
  subst hb
  exact loadWhat_blk (w := ((((w.alloc (.cells #[x0, x1, x2, x3, x4, x5, x6, x7, x8, x9, x10, x11, x12, x13, x14, x15] 73)).alloc o).alloc o').alloc o'')) (blk_old _ _ (blk_old _ _ (blk_old _ _ (blk_new w _)))) rfl
@[go_sem] theorem storeWhat_3 (hb : b = w.heap.size) (h1 : (y0.oneCell' && y1.oneCell' && y2.oneCell' && y3.oneCell' && y4.oneCell' && y5.oneCell' && y6.oneCell' && y7.oneCell' && y8.oneCell' && y9.oneCell' && y10.oneCell' && y11.oneCell' && y12.oneCell' && y13.oneCell' && y14.oneCell' && y15.oneCell') = true) : (stW (.pointer (some ⟨b, 0, none⟩)) (.agg #[y0, y1, y2, y3, y4, y5, y6, y7, y8, y9, y10, y11, y12, y13, y14, y15])).run Tryz.prog ((((w.alloc (.cells #[z0, z1, z2, z3, z4, z5, z6, z7, z8, z9, z10, z11, z12, z13, z14, z15] 73)).alloc o).alloc o').alloc o'') = .ok .skip ((((w.alloc (.cells #[y0, y1, y2, y3, y4, y5, y6, y7, y8, y9, y10, y11, y12, y13, y14, y15] 73)).alloc o).alloc o').alloc o'') := by
  subst hb
  rw [storeWhat_blk (blk_old _ _ (blk_old _ _ (blk_old _ _ (blk_new w _)))) rfl rfl (by simpa [Bool.and_assoc] using h1), setRow_alloc _ _ _ _ (by simp; omega), setRow_alloc _ _ _ _ (by simp; omega), setRow_alloc _ _ _ _ (by simp), World.setRow_alloc_new]
@[go_sem] theorem loadWhat_0d (hb : b = w.heap.size) : (ldW (.pointer (some ⟨b, 0, none⟩))).run Tryz.prog (w.alloc (.cells #[x0, x1, x2, x3, x4, x5, x6, x7, x8, x9, x10, x11, x12, x13, x14, x15] 73)).drew = .ok (.value (.agg #[x0, x1, x2, x3, x4, x5, x6, x7, x8, x9, x10, x11, x12, x13, x14, x15])) (w.alloc (.cells #[x0, x1, x2, x3, x4, x5, x6, x7, x8, x9, x10, x11, x12, x13, x14, x15] 73)).drew := by
  subst hb
  exact loadWhat_blk (w := (w.alloc (.cells #[x0, x1, x2, x3, x4, x5, x6, x7, x8, x9, x10, x11, x12, x13, x14, x15] 73)).drew) (blk_new w _) rfl
@[go_sem] theorem storeWhat_0d (hb : b = w.heap.size) (h1 : (y0.oneCell' && y1.oneCell' && y2.oneCell' && y3.oneCell' && y4.oneCell' && y5.oneCell' && y6.oneCell' && y7.oneCell' && y8.oneCell' && y9.oneCell' && y10.oneCell' && y11.oneCell' && y12.oneCell' && y13.oneCell' && y14.oneCell' && y15.oneCell') = true) : (stW (.pointer (some ⟨b, 0, none⟩)) (.agg #[y0, y1, y2, y3, y4, y5, y6, y7, y8, y9, y10, y11, y12, y13, y14, y15])).run Tryz.prog (w.alloc (.cells #[z0, z1, z2, z3, z4, z5, z6, z7, z8, z9, z10, z11, z12, z13, z14, z15] 73)).drew = .ok .skip (w.alloc (.cells #[y0, y1, y2, y3, y4, y5, y6, y7, y8, y9, y10, y11, y12, y13, y14, y15] 73)).drew := by
  subst hb
  rw [storeWhat_blk (w := (w.alloc (.cells #[z0, z1, z2, z3, z4, z5, z6, z7, z8, z9, z10, z11, z12, z13, z14, z15] 73)).drew) (blk_new w _) rfl rfl (by simpa [Bool.and_assoc] using h1)]
  have e : ((w.alloc (.cells #[z0, z1, z2, z3, z4, z5, z6, z7, z8, z9, z10, z11, z12, z13, z14, z15] 73))).setRow w.heap.size #[y0, y1, y2, y3, y4, y5, y6, y7, y8, y9, y10, y11, y12, y13, y14, y15] = (w.alloc (.cells #[y0, y1, y2, y3, y4, y5, y6, y7, y8, y9, y10, y11, y12, y13, y14, y15] 73)) := by rw [World.setRow_alloc_new]
  exact congrArg (fun W : World => Result.ok Next.skip W.drew) e
@[go_sem] theorem loadWhat_1d (hb : b = w.heap.size) : (ldW (.pointer (some ⟨b, 0, none⟩))).run Tryz.prog ((w.alloc (.cells #[x0, x1, x2, x3, x4, x5, x6, x7, x8, x9, x10, x11, x12, x13, x14, x15] 73)).alloc o).drew = .ok (.value (.agg #[x0, x1, x2, x3, x4, x5, x6, x7, x8, x9, x10, x11, x12, x13, x14, x15])) ((w.alloc (.cells #[x0, x1, x2, x3, x4, x5, x6, x7, x8, x9, x10, x11, x12, x13, x14, x15] 73)).alloc o).drew := by
  subst hb
  exact loadWhat_blk (w := ((w.alloc (.cells #[x0, x1, x2, x3, x4, x5, x6, x7, x8, x9, x10, x11, x12, x13, x14, x15] 73)).alloc o).drew) (blk_old _ _ (blk_new w _)) rfl
@[go_sem] theorem storeWhat_1d (hb : b = w.heap.size) (h1 : (y0.oneCell' && y1.oneCell' && y2.oneCell' && y3.oneCell' && y4.oneCell' && y5.oneCell' && y6.oneCell' && y7.oneCell' && y8.oneCell' && y9.oneCell' && y10.oneCell' && y11.oneCell' && y12.oneCell' && y13.oneCell' && y14.oneCell' && y15.oneCell') = true) : (stW (.pointer (some ⟨b, 0, none⟩)) (.agg #[y0, y1, y2, y3, y4, y5, y6, y7, y8, y9, y10, y11, y12, y13, y14, y15])).run Tryz.prog ((w.alloc (.cells #[z0, z1, z2, z3, z4, z5, z6, z7, z8, z9, z10, z11, z12, z13, z14, z15] 73)).alloc o).drew = .ok .skip ((w.alloc (.cells #[y0, y1, y2, y3, y4, y5, y6, y7, y8, y9, y10, y11, y12, y13, y14, y15] 73)).alloc o).drew := by
  subst hb
  rw [storeWhat_blk (w := ((w.alloc (.cells #[z0, z1, z2, z3, z4, z5, z6, z7, z8, z9, z10, z11, z12, z13, z14, z15] 73)).alloc o).drew) (blk_old _ _ (blk_new w _)) rfl rfl (by simpa [Bool.and_assoc] using h1)]
  have e : (((w.alloc (.cells #[z0, z1, z2, z3, z4, z5, z6, z7, z8, z9, z10, z11, z12, z13, z14, z15] 73)).alloc o)).setRow w.heap.size #[y0, y1, y2, y3, y4, y5, y6, y7, y8, y9, y10, y11, y12, y13, y14, y15] = ((w.alloc (.cells #[y0, y1, y2, y3, y4, y5, y6, y7, y8, y9, y10, y11, y12, y13, y14, y15] 73)).alloc o) := by rw [setRow_alloc _ _ _ _ (by simp), World.setRow_alloc_new]
  exact congrArg (fun W : World => Result.ok Next.skip W.drew) e
@[go_sem] theorem loadWhat_2d (hb : b = w.heap.size) : (ldW (.pointer (some ⟨b, 0, none⟩))).run Tryz.prog (((w.alloc (.cells #[x0, x1, x2, x3, x4, x5, x6, x7, x8, x9, x10, x11, x12, x13, x14, x15] 73)).alloc o).alloc o').drew = .ok (.value (.agg #[x0, x1, x2, x3, x4, x5, x6, x7, x8, x9, x10, x11, x12, x13, x14, x15])) (((w.alloc (.cells #[x0, x1, x2, x3, x4, x5, x6, x7, x8, x9, x10, x11, x12, x13, x14, x15] 73)).alloc o).alloc o').drew := by
  subst hb
  exact loadWhat_blk (w := (((w.alloc (.cells #[x0, x1, x2, x3, x4, x5, x6, x7, x8, x9, x10, x11, x12, x13, x14, x15] 73)).alloc o).alloc o').drew) (blk_old _ _ (blk_old _ _ (blk_new w _))) rfl
@[go_sem] theorem storeWhat_2d (hb : b = w.heap.size) (h1 : (y0.oneCell' && y1.oneCell' && y2.oneCell' && y3.oneCell' && y4.oneCell' && y5.oneCell' && y6.oneCell' && y7.oneCell' && y8.oneCell' && y9.oneCell' && y10.oneCell' && y11.oneCell' && y12.oneCell' && y13.oneCell' && y14.oneCell' && y15.oneCell') = true) : (stW (.pointer (some ⟨b, 0, none⟩)) (.agg #[y0, y1, y2, y3, y4, y5, y6, y7, y8, y9, y10, y11, y12, y13, y14, y15])).run Tryz.prog (((w.alloc (.cells #[z0, z1, z2, z3, z4, z5, z6, z7, z8, z9, z10, z11, z12, z13, z14, z15] 73)).alloc o).alloc o').drew = .ok .skip (((w.alloc (.cells #[y0, y1, y2, y3, y4, y5, y6, y7, y8, y9, y10, y11, y12, y13, y14, y15] 73)).alloc o).alloc o').drew := by
  subst hb
  rw [storeWhat_blk (w := (((w.alloc (.cells #[z0, z1, z2, z3, z4, z5, z6, z7, z8, z9, z10, z11, z12, z13, z14, z15] 73)).alloc o).alloc o').drew) (blk_old _ _ (blk_old _ _ (blk_new w _))) rfl rfl (by simpa [Bool.and_assoc] using h1)]
  have e : ((((w.alloc (.cells #[z0, z1, z2, z3, z4, z5, z6, z7, z8, z9, z10, z11, z12, z13, z14, z15] 73)).alloc o).alloc o')).setRow w.heap.size #[y0, y1, y2, y3, y4, y5, y6, y7, y8, y9, y10, y11, y12, y13, y14, y15] = (((w.alloc (.cells #[y0, y1, y2, y3, y4, y5, y6, y7, y8, y9, y10, y11, y12, y13, y14, y15] 73)).alloc o).alloc o') := by rw [setRow_alloc _ _ _ _ (by simp; omega), setRow_alloc _ _ _ _ (by simp), World.setRow_alloc_new]
  exact congrArg (fun W : World => Result.ok Next.skip W.drew) e
@[go_sem] theorem loadWhat_3d (hb : b = w.heap.size) : (ldW (.pointer (some ⟨b, 0, none⟩))).run Tryz.prog ((((w.alloc (.cells #[x0, x1, x2, x3, x4, x5, x6, x7, x8, x9, x10, x11, x12, x13, x14, x15] 73)).alloc o).alloc o').alloc o'').drew = .ok (.value (.agg #[x0, x1, x2, x3, x4, x5, x6, x7, x8, x9, x10, x11, x12, x13, x14, x15])) ((((w.alloc (.cells #[x0, x1, x2, x3, x4, x5, x6, x7, x8, x9, x10, x11, x12, x13, x14, x15] 73)).alloc o).alloc o').alloc o'').drew := by
  subst hb
  exact loadWhat_blk (w := ((((w.alloc (.cells #[x0, x1, x2, x3, x4, x5, x6, x7, x8, x9, x10, x11, x12, x13, x14, x15] 73)).alloc o).alloc o').alloc o'').drew) (blk_old _ _ (blk_old _ _ (blk_old _ _ (blk_new w _)))) rfl
@[go_sem] theorem storeWhat_3d (hb : b = w.heap.size) (h1 : (y0.oneCell' && y1.oneCell' && y2.oneCell' && y3.oneCell' && y4.oneCell' && y5.oneCell' && y6.oneCell' && y7.oneCell' && y8.oneCell' && y9.oneCell' && y10.oneCell' && y11.oneCell' && y12.oneCell' && y13.oneCell' && y14.oneCell' && y15.oneCell') = true) : (stW (.pointer (some ⟨b, 0, none⟩)) (.agg #[y0, y1, y2, y3, y4, y5, y6, y7, y8, y9, y10, y11, y12, y13, y14, y15])).run Tryz.prog ((((w.alloc (.cells #[z0, z1, z2, z3, z4, z5, z6, z7, z8, z9, z10, z11, z12, z13, z14, z15] 73)).alloc o).alloc o').alloc o'').drew = .ok .skip ((((w.alloc (.cells #[y0, y1, y2, y3, y4, y5, y6, y7, y8, y9, y10, y11, y12, y13, y14, y15] 73)).alloc o).alloc o').alloc o'').drew := by
  subst hb
  rw [storeWhat_blk (w := ((((w.alloc (.cells #[z0, z1, z2, z3, z4, z5, z6, z7, z8, z9, z10, z11, z12, z13, z14, z15] 73)).alloc o).alloc o').alloc o'').drew) (blk_old _ _ (blk_old _ _ (blk_old _ _ (blk_new w _)))) rfl rfl (by simpa [Bool.and_assoc] using h1)]
  have e : (((((w.alloc (.cells #[z0, z1, z2, z3, z4, z5, z6, z7, z8, z9, z10, z11, z12, z13, z14, z15] 73)).alloc o).alloc o').alloc o'')).setRow w.heap.size #[y0, y1, y2, y3, y4, y5, y6, y7, y8, y9, y10, y11, y12, y13, y14, y15] = ((((w.alloc (.cells #[y0, y1, y2, y3, y4, y5, y6, y7, y8, y9, y10, y11, y12, y13, y14, y15] 73)).alloc o).alloc o').alloc o'') := by rw [setRow_alloc _ _ _ _ (by simp; omega), setRow_alloc _ _ _ _ (by simp; omega), setRow_alloc _ _ _ _ (by simp), World.setRow_alloc_new]
  exact congrArg (fun W : World => Result.ok Next.skip W.drew) e
end
end Go.Proofs.YtifmifjbebpomaaGreatDoor
