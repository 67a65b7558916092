/- A part of the proof, several texts in one: Wholes, Val. -/
import Derived.Test.YtcoiccbmcjdheaaGreatmAA
import Derived.Deep.WholeRow
import Derived.Deep.QuietTactic
import Derived.BigQuiet
/- A whole struct read and written at once, in blocks that a call has laid. -/
namespace Go.Proofs.YtcoiccbmcjdheaaGreat
open Go.RowKit Go.ChangeMaps Go.MapKept

theorem run_loadAt_blk {P : Program} {w : World} {b : Nat} {ty e : TypeId} {cs : Array Value} {fr : Nat × Nat} {d : TypeDesc} (hg : w.heap[b]? = some (.cells cs e fr)) (hu : P.underlying ty = some d)
    (hd : (match (d : TypeDesc) with | .struct _ | .array _ _ => true | _ => false) = true) (hi : (P.info? ty).map (·.size) = some cs.size) :
    (Instr.loadAt ty (.pointer (some ⟨b, 0, none⟩))).run P w = .ok (.agg cs) w := by
  simp only [Instr.loadAt, Instr.sureAddr, Sem.run_bind, Sem.run_pure, Result.andThen]
  exact run_loadVar_row w b e ty cs fr d hg hu hd hi
theorem run_storeAt_blk {P : Program} {w : World} {b : Nat} {ty e : TypeId} {c c' : Array Value} (hg : w.heap[b]? = some (.cells c e (0, 0))) (hi : (P.info? ty).map (·.size) = some c'.size) (ho : c.size = c'.size) (h1 : c'.all (·.oneCell') = true) :
    (Instr.storeAt ty (.pointer (some ⟨b, 0, none⟩)) (.agg c')).run P w = .ok () (w.setRow b c') := by
  simp only [Instr.storeAt, Instr.sureAddr, Sem.run_bind, Sem.run_pure, Result.andThen]
  exact run_storeVar_row w b e ty c c' hg hi ho h1

theorem setRow_alloc (w : World) (b : Nat) (c : Array Value) (o : Obj) (hb : b < w.heap.size) : (w.alloc o).setRow b c = (w.setRow b c).alloc o := by
  simp only [World.setRow, World.alloc]
  congr 1
  apply Array.ext_getElem?
  intro i
  simp only [Array.getElem?_modify, Array.getElem?_push, Array.size_modify]
  by_cases h : b = i
  · subst h
    rw [if_pos rfl, if_neg (by omega), if_neg (by omega), if_pos rfl]
  · rw [if_neg h]
    split <;> rfl

theorem sizeWhat : (Tryz.prog.info? 42).map (·.size) = some 16 := by kernel_rfl
theorem sizeValue : (Tryz.prog.info? 34).map (·.size) = some 5 := by kernel_rfl
/-- A whole What read, written: kept closed to the walk's simp, so that the laws below serve. -/
def ldW (a : Value) : Sem Next := do pure (.value (← Instr.loadAt 42 a))
def stW (a x : Value) : Sem Next := do Instr.storeAt 42 a x; pure .skip
@[go_sem ↓] theorem execOp_ldW (ρ : Operand → Value) (d : Option Tmp) (a : Operand) (ty : TypeId) (pos : String) (af : Array Edge) (g : Option (Nat × Bool)) :
    execOp ρ { dst := d, op := .load 42 a, type := ty, pos := pos, after := af, guard := g } = ldW (ρ a) := rfl
@[go_sem ↓] theorem execOp_stW (ρ : Operand → Value) (d : Option Tmp) (a x : Operand) (ty : TypeId) (pos : String) (af : Array Edge) (g : Option (Nat × Bool)) :
    execOp ρ { dst := d, op := .store 42 a x, type := ty, pos := pos, after := af, guard := g } = stW (ρ a) (ρ x) := rfl

theorem loadWhat_blk {w : World} {b : Nat} {cs : Array Value} {fr : Nat × Nat} (hg : w.heap[b]? = some (.cells cs 42 fr)) (hs : cs.size = 16) : (ldW (.pointer (some ⟨b, 0, none⟩))).run Tryz.prog w = .ok (.value (.agg cs)) w := by
  have := run_loadAt_blk hg Tryz.underlying42 rfl (by rw [hs]; exact sizeWhat)
  simp only [ldW, Sem.run_bind, this, Result.andThen, Sem.run_pure]
theorem storeWhat_blk {w : World} {b : Nat} {c c' : Array Value} (hg : w.heap[b]? = some (.cells c 42 (0, 0))) (hs : c.size = 16) (hs' : c'.size = 16) (h1 : c'.all (·.oneCell') = true) :
    (stW (.pointer (some ⟨b, 0, none⟩)) (.agg c')).run Tryz.prog w = .ok .skip (w.setRow b c') := by
  have := run_storeAt_blk (P := Tryz.prog) hg (by rw [hs']; exact sizeWhat) (by rw [hs, hs']) h1
  simp only [stW, Sem.run_bind, this, Result.andThen, Sem.run_pure]

/-- A What handed back. -/
theorem results_What {fn : Func} {q : Tmp} (h : fn.results = #[.cell q 42]) (tmps : Array Value) (W : World) (g : Nat) (cs : Array Value) (fr : Nat × Nat) (hp : tmps.getD q undef = .pointer (some ⟨g, 0, none⟩))
    (hg : W.heap[g]? = some (.cells cs 42 fr)) (hs : cs.size = 16) : (results fn tmps).run Tryz.prog W = .ok (.agg cs) W :=
  results_cell_row (P := Tryz.prog) h tmps W g 42 cs fr _ hp hg Tryz.underlying42 rfl (by rw [hs]; exact sizeWhat)
theorem blk_at1 (w : World) (A B C : Obj) {g : Nat} (hg : g = w.heap.size + 1) : (((w.alloc A).alloc B).alloc C).heap[g]? = some B := by
  have := blk_old _ C (blk_new (w.alloc A) B)
  rw [World.size_alloc] at this
  rw [hg]
  exact this
theorem blk_at1' (w : World) (A B : Obj) {g : Nat} (hg : g = w.heap.size + 1) : ((w.alloc A).alloc B).heap[g]? = some B := by
  have := blk_new (w.alloc A) B
  rw [World.size_alloc] at this
  rw [hg]
  exact this
theorem blk_at1d (w : World) (A B C : Obj) {g : Nat} (hg : g = w.heap.size + 1) : (((w.alloc A).alloc B).alloc C).drew.heap[g]? = some B := blk_at1 w A B C hg
@[go_sem] theorem oneCell_u8 (k : IntKind) (n : Int) : (Value.int k n).oneCell' = true := rfl
@[go_sem] theorem oneCell_bool (n : Bool) : (Value.bool n).oneCell' = true := rfl
@[go_sem] theorem oneCell_string (n : ByteArray) : (Value.string n).oneCell' = true := rfl
@[go_sem] theorem oneCell_slice (a : Option Addr) (n c : Nat) : (Value.slice a n c).oneCell' = true := rfl
section
variable (w : World) (b : Nat) (x0 x1 x2 x3 x4 x5 x6 x7 x8 x9 x10 x11 x12 x13 x14 x15 y0 y1 y2 y3 y4 y5 y6 y7 y8 y9 y10 y11 y12 y13 y14 y15 z0 z1 z2 z3 z4 z5 z6 z7 z8 z9 z10 z11 z12 z13 z14 z15 : Value) (o o' o'' : Obj)
@[go_sem] theorem loadWhat_0 (hb : b = w.heap.size) : (ldW (.pointer (some ⟨b, 0, none⟩))).run Tryz.prog (w.alloc (.cells #[x0, x1, x2, x3, x4, x5, x6, x7, x8, x9, x10, x11, x12, x13, x14, x15] 42)) = .ok (.value (.agg #[x0, x1, x2, x3, x4, x5, x6, x7, x8, x9, x10, x11, x12, x13, x14, x15])) (w.alloc (.cells #[x0, x1, x2, x3, x4, x5, x6, x7, x8, x9, x10, x11, x12, x13, x14, x15] 42)) := by
  subst hb
  exact loadWhat_blk (w := (w.alloc (.cells #[x0, x1, x2, x3, x4, x5, x6, x7, x8, x9, x10, x11, x12, x13, x14, x15] 42))) (blk_new w _) rfl
@[go_sem] theorem storeWhat_0 (hb : b = w.heap.size) (h1 : (y0.oneCell' && y1.oneCell' && y2.oneCell' && y3.oneCell' && y4.oneCell' && y5.oneCell' && y6.oneCell' && y7.oneCell' && y8.oneCell' && y9.oneCell' && y10.oneCell' && y11.oneCell' && y12.oneCell' && y13.oneCell' && y14.oneCell' && y15.oneCell') = true) : (stW (.pointer (some ⟨b, 0, none⟩)) (.agg #[y0, y1, y2, y3, y4, y5, y6, y7, y8, y9, y10, y11, y12, y13, y14, y15])).run Tryz.prog (w.alloc (.cells #[z0, z1, z2, z3, z4, z5, z6, z7, z8, z9, z10, z11, z12, z13, z14, z15] 42)) = .ok .skip (w.alloc (.cells #[y0, y1, y2, y3, y4, y5, y6, y7, y8, y9, y10, y11, y12, y13, y14, y15] 42)) := by
  subst hb
  rw [storeWhat_blk (blk_new w _) rfl rfl (by simpa [Bool.and_assoc] using h1), World.setRow_alloc_new]
@[go_sem] theorem loadWhat_1 (hb : b = w.heap.size) : (ldW (.pointer (some ⟨b, 0, none⟩))).run Tryz.prog ((w.alloc (.cells #[x0, x1, x2, x3, x4, x5, x6, x7, x8, x9, x10, x11, x12, x13, x14, x15] 42)).alloc o) = .ok (.value (.agg #[x0, x1, x2, x3, x4, x5, x6, x7, x8, x9, x10, x11, x12, x13, x14, x15])) ((w.alloc (.cells #[x0, x1, x2, x3, x4, x5, x6, x7, x8, x9, x10, x11, x12, x13, x14, x15] 42)).alloc o) := by
  subst hb
  exact loadWhat_blk (w := ((w.alloc (.cells #[x0, x1, x2, x3, x4, x5, x6, x7, x8, x9, x10, x11, x12, x13, x14, x15] 42)).alloc o)) (blk_old _ _ (blk_new w _)) rfl
@[go_sem] theorem storeWhat_1 (hb : b = w.heap.size) (h1 : (y0.oneCell' && y1.oneCell' && y2.oneCell' && y3.oneCell' && y4.oneCell' && y5.oneCell' && y6.oneCell' && y7.oneCell' && y8.oneCell' && y9.oneCell' && y10.oneCell' && y11.oneCell' && y12.oneCell' && y13.oneCell' && y14.oneCell' && y15.oneCell') = true) : (stW (.pointer (some ⟨b, 0, none⟩)) (.agg #[y0, y1, y2, y3, y4, y5, y6, y7, y8, y9, y10, y11, y12, y13, y14, y15])).run Tryz.prog ((w.alloc (.cells #[z0, z1, z2, z3, z4, z5, z6, z7, z8, z9, z10, z11, z12, z13, z14, z15] 42)).alloc o) = .ok .skip ((w.alloc (.cells #[y0, y1, y2, y3, y4, y5, y6, y7, y8, y9, y10, y11, y12, y13, y14, y15] 42)).alloc o) := by
  subst hb
  rw [storeWhat_blk (blk_old _ _ (blk_new w _)) rfl rfl (by simpa [Bool.and_assoc] using h1), setRow_alloc _ _ _ _ (by simp), World.setRow_alloc_new]
@[go_sem] theorem loadWhat_2 (hb : b = w.heap.size) : (ldW (.pointer (some ⟨b, 0, none⟩))).run Tryz.prog (((w.alloc (.cells #[x0, x1, x2, x3, x4, x5, x6, x7, x8, x9, x10, x11, x12, x13, x14, x15] 42)).alloc o).alloc o') = .ok (.value (.agg #[x0, x1, x2, x3, x4, x5, x6, x7, x8, x9, x10, x11, x12, x13, x14, x15])) (((w.alloc (.cells #[x0, x1, x2, x3, x4, x5, x6, x7, x8, x9, x10, x11, x12, x13, x14, x15] 42)).alloc o).alloc o') := by
  subst hb
  exact loadWhat_blk (w := (((w.alloc (.cells #[x0, x1, x2, x3, x4, x5, x6, x7, x8, x9, x10, x11, x12, x13, x14, x15] 42)).alloc o).alloc o')) (blk_old _ _ (blk_old _ _ (blk_new w _))) rfl
@[go_sem] theorem storeWhat_2 (hb : b = w.heap.size) (h1 : (y0.oneCell' && y1.oneCell' && y2.oneCell' && y3.oneCell' && y4.oneCell' && y5.oneCell' && y6.oneCell' && y7.oneCell' && y8.oneCell' && y9.oneCell' && y10.oneCell' && y11.oneCell' && y12.oneCell' && y13.oneCell' && y14.oneCell' && y15.oneCell') = true) : (stW (.pointer (some ⟨b, 0, none⟩)) (.agg #[y0, y1, y2, y3, y4, y5, y6, y7, y8, y9, y10, y11, y12, y13, y14, y15])).run Tryz.prog (((w.alloc (.cells #[z0, z1, z2, z3, z4, z5, z6, z7, z8, z9, z10, z11, z12, z13, z14, z15] 42)).alloc o).alloc o') = .ok .skip (((w.alloc (.cells #[y0, y1, y2, y3, y4, y5, y6, y7, y8, y9, y10, y11, y12, y13, y14, y15] 42)).alloc o).alloc o') := by
  subst hb
  rw [storeWhat_blk (blk_old _ _ (blk_old _ _ (blk_new w _))) rfl rfl (by simpa [Bool.and_assoc] using h1), setRow_alloc _ _ _ _ (by simp; omega), setRow_alloc _ _ _ _ (by simp), World.setRow_alloc_new]
@[go_sem] theorem loadWhat_3 (hb : b = w.heap.size) : (ldW (.pointer (some ⟨b, 0, none⟩))).run Tryz.prog ((((w.alloc (.cells #[x0, x1, x2, x3, x4, x5, x6, x7, x8, x9, x10, x11, x12, x13, x14, x15] 42)).alloc o).alloc o').alloc o'') = .ok (.value (.agg #[x0, x1, x2, x3, x4, x5, x6, x7, x8, x9, x10, x11, x12, x13, x14, x15])) ((((w.alloc (.cells #[x0, x1, x2, x3, x4, x5, x6, x7, x8, x9, x10, x11, x12, x13, x14, x15] 42)).alloc o).alloc o').alloc o'') := by
  subst hb
  exact loadWhat_blk (w := ((((w.alloc (.cells #[x0, x1, x2, x3, x4, x5, x6, x7, x8, x9, x10, x11, x12, x13, x14, x15] 42)).alloc o).alloc o').alloc o'')) (blk_old _ _ (blk_old _ _ (blk_old _ _ (blk_new w _)))) rfl
@[go_sem] theorem storeWhat_3 (hb : b = w.heap.size) (h1 : (y0.oneCell' && y1.oneCell' && y2.oneCell' && y3.oneCell' && y4.oneCell' && y5.oneCell' && y6.oneCell' && y7.oneCell' && y8.oneCell' && y9.oneCell' && y10.oneCell' && y11.oneCell' && y12.oneCell' && y13.oneCell' && y14.oneCell' && y15.oneCell') = true) : (stW (.pointer (some ⟨b, 0, none⟩)) (.agg #[y0, y1, y2, y3, y4, y5, y6, y7, y8, y9, y10, y11, y12, y13, y14, y15])).run Tryz.prog ((((w.alloc (.cells #[z0, z1, z2, z3, z4, z5, z6, z7, z8, z9, z10, z11, z12, z13, z14, z15] 42)).alloc o).alloc o').alloc o'') = .ok .skip ((((w.alloc (.cells #[y0, y1, y2, y3, y4, y5, y6, y7, y8, y9, y10, y11, y12, y13, y14, y15] 42)).alloc o).alloc o').alloc o'') := by
  subst hb
  rw [storeWhat_blk (blk_old _ _ (blk_old _ _ (blk_old _ _ (blk_new w _)))) rfl rfl (by simpa [Bool.and_assoc] using h1), setRow_alloc _ _ _ _ (by simp; omega), setRow_alloc _ _ _ _ (by simp; omega), setRow_alloc _ _ _ _ (by simp), World.setRow_alloc_new]
@[go_sem] theorem loadWhat_0d (hb : b = w.heap.size) : (ldW (.pointer (some ⟨b, 0, none⟩))).run Tryz.prog (w.alloc (.cells #[x0, x1, x2, x3, x4, x5, x6, x7, x8, x9, x10, x11, x12, x13, x14, x15] 42)).drew = .ok (.value (.agg #[x0, x1, x2, x3, x4, x5, x6, x7, x8, x9, x10, x11, x12, x13, x14, x15])) (w.alloc (.cells #[x0, x1, x2, x3, x4, x5, x6, x7, x8, x9, x10, x11, x12, x13, x14, x15] 42)).drew := by
  subst hb
  exact loadWhat_blk (w := (w.alloc (.cells #[x0, x1, x2, x3, x4, x5, x6, x7, x8, x9, x10, x11, x12, x13, x14, x15] 42)).drew) (blk_new w _) rfl
@[go_sem] theorem storeWhat_0d (hb : b = w.heap.size) (h1 : (y0.oneCell' && y1.oneCell' && y2.oneCell' && y3.oneCell' && y4.oneCell' && y5.oneCell' && y6.oneCell' && y7.oneCell' && y8.oneCell' && y9.oneCell' && y10.oneCell' && y11.oneCell' && y12.oneCell' && y13.oneCell' && y14.oneCell' && y15.oneCell') = true) : (stW (.pointer (some ⟨b, 0, none⟩)) (.agg #[y0, y1, y2, y3, y4, y5, y6, y7, y8, y9, y10, y11, y12, y13, y14, y15])).run Tryz.prog (w.alloc (.cells #[z0, z1, z2, z3, z4, z5, z6, z7, z8, z9, z10, z11, z12, z13, z14, z15] 42)).drew = .ok .skip (w.alloc (.cells #[y0, y1, y2, y3, y4, y5, y6, y7, y8, y9, y10, y11, y12, y13, y14, y15] 42)).drew := by
  subst hb
  rw [storeWhat_blk (w := (w.alloc (.cells #[z0, z1, z2, z3, z4, z5, z6, z7, z8, z9, z10, z11, z12, z13, z14, z15] 42)).drew) (blk_new w _) rfl rfl (by simpa [Bool.and_assoc] using h1)]
  have e : ((w.alloc (.cells #[z0, z1, z2, z3, z4, z5, z6, z7, z8, z9, z10, z11, z12, z13, z14, z15] 42))).setRow w.heap.size #[y0, y1, y2, y3, y4, y5, y6, y7, y8, y9, y10, y11, y12, y13, y14, y15] = (w.alloc (.cells #[y0, y1, y2, y3, y4, y5, y6, y7, y8, y9, y10, y11, y12, y13, y14, y15] 42)) := by rw [World.setRow_alloc_new]
  exact congrArg (fun W : World => Result.ok Next.skip W.drew) e
@[go_sem] theorem loadWhat_1d (hb : b = w.heap.size) : (ldW (.pointer (some ⟨b, 0, none⟩))).run Tryz.prog ((w.alloc (.cells #[x0, x1, x2, x3, x4, x5, x6, x7, x8, x9, x10, x11, x12, x13, x14, x15] 42)).alloc o).drew = .ok (.value (.agg #[x0, x1, x2, x3, x4, x5, x6, x7, x8, x9, x10, x11, x12, x13, x14, x15])) ((w.alloc (.cells #[x0, x1, x2, x3, x4, x5, x6, x7, x8, x9, x10, x11, x12, x13, x14, x15] 42)).alloc o).drew := by
  subst hb
  exact loadWhat_blk (w := ((w.alloc (.cells #[x0, x1, x2, x3, x4, x5, x6, x7, x8, x9, x10, x11, x12, x13, x14, x15] 42)).alloc o).drew) (blk_old _ _ (blk_new w _)) rfl
@[go_sem] theorem storeWhat_1d (hb : b = w.heap.size) (h1 : (y0.oneCell' && y1.oneCell' && y2.oneCell' && y3.oneCell' && y4.oneCell' && y5.oneCell' && y6.oneCell' && y7.oneCell' && y8.oneCell' && y9.oneCell' && y10.oneCell' && y11.oneCell' && y12.oneCell' && y13.oneCell' && y14.oneCell' && y15.oneCell') = true) : (stW (.pointer (some ⟨b, 0, none⟩)) (.agg #[y0, y1, y2, y3, y4, y5, y6, y7, y8, y9, y10, y11, y12, y13, y14, y15])).run Tryz.prog ((w.alloc (.cells #[z0, z1, z2, z3, z4, z5, z6, z7, z8, z9, z10, z11, z12, z13, z14, z15] 42)).alloc o).drew = .ok .skip ((w.alloc (.cells #[y0, y1, y2, y3, y4, y5, y6, y7, y8, y9, y10, y11, y12, y13, y14, y15] 42)).alloc o).drew := by
  subst hb
  rw [storeWhat_blk (w := ((w.alloc (.cells #[z0, z1, z2, z3, z4, z5, z6, z7, z8, z9, z10, z11, z12, z13, z14, z15] 42)).alloc o).drew) (blk_old _ _ (blk_new w _)) rfl rfl (by simpa [Bool.and_assoc] using h1)]
  have e : (((w.alloc (.cells #[z0, z1, z2, z3, z4, z5, z6, z7, z8, z9, z10, z11, z12, z13, z14, z15] 42)).alloc o)).setRow w.heap.size #[y0, y1, y2, y3, y4, y5, y6, y7, y8, y9, y10, y11, y12, y13, y14, y15] = ((w.alloc (.cells #[y0, y1, y2, y3, y4, y5, y6, y7, y8, y9, y10, y11, y12, y13, y14, y15] 42)).alloc o) := by rw [setRow_alloc _ _ _ _ (by simp), World.setRow_alloc_new]
  exact congrArg (fun W : World => Result.ok Next.skip W.drew) e
@[go_sem] theorem loadWhat_2d (hb : b = w.heap.size) : (ldW (.pointer (some ⟨b, 0, none⟩))).run Tryz.prog (((w.alloc (.cells #[x0, x1, x2, x3, x4, x5, x6, x7, x8, x9, x10, x11, x12, x13, x14, x15] 42)).alloc o).alloc o').drew = .ok (.value (.agg #[x0, x1, x2, x3, x4, x5, x6, x7, x8, x9, x10, x11, x12, x13, x14, x15])) (((w.alloc (.cells #[x0, x1, x2, x3, x4, x5, x6, x7, x8, x9, x10, x11, x12, x13, x14, x15] 42)).alloc o).alloc o').drew := by
  subst hb
  exact loadWhat_blk (w := (((w.alloc (.cells #[x0, x1, x2, x3, x4, x5, x6, x7, x8, x9, x10, x11, x12, x13, x14, x15] 42)).alloc o).alloc o').drew) (blk_old _ _ (blk_old _ _ (blk_new w _))) rfl
@[go_sem] theorem storeWhat_2d (hb : b = w.heap.size) (h1 : (y0.oneCell' && y1.oneCell' && y2.oneCell' && y3.oneCell' && y4.oneCell' && y5.oneCell' && y6.oneCell' && y7.oneCell' && y8.oneCell' && y9.oneCell' && y10.oneCell' && y11.oneCell' && y12.oneCell' && y13.oneCell' && y14.oneCell' && y15.oneCell') = true) : (stW (.pointer (some ⟨b, 0, none⟩)) (.agg #[y0, y1, y2, y3, y4, y5, y6, y7, y8, y9, y10, y11, y12, y13, y14, y15])).run Tryz.prog (((w.alloc (.cells #[z0, z1, z2, z3, z4, z5, z6, z7, z8, z9, z10, z11, z12, z13, z14, z15] 42)).alloc o).alloc o').drew = .ok .skip (((w.alloc (.cells #[y0, y1, y2, y3, y4, y5, y6, y7, y8, y9, y10, y11, y12, y13, y14, y15] 42)).alloc o).alloc o').drew := by
  subst hb
  rw [storeWhat_blk (w := (((w.alloc (.cells #[z0, z1, z2, z3, z4, z5, z6, z7, z8, z9, z10, z11, z12, z13, z14, z15] 42)).alloc o).alloc o').drew) (blk_old _ _ (blk_old _ _ (blk_new w _))) rfl rfl (by simpa [Bool.and_assoc] using h1)]
  have e : ((((w.alloc (.cells #[z0, z1, z2, z3, z4, z5, z6, z7, z8, z9, z10, z11, z12, z13, z14, z15] 42)).alloc o).alloc o')).setRow w.heap.size #[y0, y1, y2, y3, y4, y5, y6, y7, y8, y9, y10, y11, y12, y13, y14, y15] = (((w.alloc (.cells #[y0, y1, y2, y3, y4, y5, y6, y7, y8, y9, y10, y11, y12, y13, y14, y15] 42)).alloc o).alloc o') := by rw [setRow_alloc _ _ _ _ (by simp; omega), setRow_alloc _ _ _ _ (by simp), World.setRow_alloc_new]
  exact congrArg (fun W : World => Result.ok Next.skip W.drew) e
@[go_sem] theorem loadWhat_3d (hb : b = w.heap.size) : (ldW (.pointer (some ⟨b, 0, none⟩))).run Tryz.prog ((((w.alloc (.cells #[x0, x1, x2, x3, x4, x5, x6, x7, x8, x9, x10, x11, x12, x13, x14, x15] 42)).alloc o).alloc o').alloc o'').drew = .ok (.value (.agg #[x0, x1, x2, x3, x4, x5, x6, x7, x8, x9, x10, x11, x12, x13, x14, x15])) ((((w.alloc (.cells #[x0, x1, x2, x3, x4, x5, x6, x7, x8, x9, x10, x11, x12, x13, x14, x15] 42)).alloc o).alloc o').alloc o'').drew := by
  subst hb
  exact loadWhat_blk (w := ((((w.alloc (.cells #[x0, x1, x2, x3, x4, x5, x6, x7, x8, x9, x10, x11, x12, x13, x14, x15] 42)).alloc o).alloc o').alloc o'').drew) (blk_old _ _ (blk_old _ _ (blk_old _ _ (blk_new w _)))) rfl
@[go_sem] theorem storeWhat_3d (hb : b = w.heap.size) (h1 : (y0.oneCell' && y1.oneCell' && y2.oneCell' && y3.oneCell' && y4.oneCell' && y5.oneCell' && y6.oneCell' && y7.oneCell' && y8.oneCell' && y9.oneCell' && y10.oneCell' && y11.oneCell' && y12.oneCell' && y13.oneCell' && y14.oneCell' && y15.oneCell') = true) : (stW (.pointer (some ⟨b, 0, none⟩)) (.agg #[y0, y1, y2, y3, y4, y5, y6, y7, y8, y9, y10, y11, y12, y13, y14, y15])).run Tryz.prog ((((w.alloc (.cells #[z0, z1, z2, z3, z4, z5, z6, z7, z8, z9, z10, z11, z12, z13, z14, z15] 42)).alloc o).alloc o').alloc o'').drew = .ok .skip ((((w.alloc (.cells #[y0, y1, y2, y3, y4, y5, y6, y7, y8, y9, y10, y11, y12, y13, y14, y15] 42)).alloc o).alloc o').alloc o'').drew := by
  subst hb
  rw [storeWhat_blk (w := ((((w.alloc (.cells #[z0, z1, z2, z3, z4, z5, z6, z7, z8, z9, z10, z11, z12, z13, z14, z15] 42)).alloc o).alloc o').alloc o'').drew) (blk_old _ _ (blk_old _ _ (blk_old _ _ (blk_new w _)))) rfl rfl (by simpa [Bool.and_assoc] using h1)]
  have e : (((((w.alloc (.cells #[z0, z1, z2, z3, z4, z5, z6, z7, z8, z9, z10, z11, z12, z13, z14, z15] 42)).alloc o).alloc o').alloc o'')).setRow w.heap.size #[y0, y1, y2, y3, y4, y5, y6, y7, y8, y9, y10, y11, y12, y13, y14, y15] = ((((w.alloc (.cells #[y0, y1, y2, y3, y4, y5, y6, y7, y8, y9, y10, y11, y12, y13, y14, y15] 42)).alloc o).alloc o').alloc o'') := by rw [setRow_alloc _ _ _ _ (by simp; omega), setRow_alloc _ _ _ _ (by simp; omega), setRow_alloc _ _ _ _ (by simp), World.setRow_alloc_new]
  exact congrArg (fun W : World => Result.ok Next.skip W.drew) e
end
end Go.Proofs.YtcoiccbmcjdheaaGreat
/- Values without lists: nothing, a number. What is asked of them, and what is copied. -/
namespace Go.Proofs.YtcoiccbmcjdheaaGreat
open Go.RowKit Go.ChangeMaps Go.MapKept

/-- A value that is nothing or a number. -/
def Plain (k n : Int) : Prop := (k = 0 ∧ n = 0) ∨ k = 1

set_option maxRecDepth 8000 in
theorem vMay_W (w : World) (k n : Int) (h : Plain k n) : Calls Tryz.prog 27 #[.agg #[.int .u8 k, .int .i64 n, .string ⟨#[]⟩, .slice none 0 0, .int .i64 0]] w fun e w' => e = .returned (.bool true) ∧ Below w.heap.size w w' := by
  rcases h with ⟨rfl, rfl⟩ | rfl
  · go_enter Tryz.func27, Tryz.ntmps27
    go_wp2
    go_ret
    exact ⟨rfl, by go_grown⟩
  · go_enter Tryz.func27, Tryz.ntmps27
    go_wp2
    go_ret
    exact ⟨rfl, by go_grown⟩

set_option maxRecDepth 8000 in
theorem vown_W (w : World) (k n : Int) : Calls Tryz.prog 44 #[.agg #[.int .u8 k, .int .i64 n, .string ⟨#[]⟩, .slice none 0 0, .int .i64 0]] w fun e w' => e = .returned (.agg #[.int .u8 k, .int .i64 n, .string ⟨#[]⟩, .slice none 0 0, .int .i64 0]) ∧ Below w.heap.size w w' := by
  go_enter Tryz.func44, Tryz.ntmps44
  go_wp2
  go_returns
  exact ⟨rfl, by go_grown⟩

set_option maxRecDepth 8000 in
theorem vOwn_W (w : World) (k n : Int) (h : Plain k n) : Calls Tryz.prog 79 #[.agg #[.int .u8 k, .int .i64 n, .string ⟨#[]⟩, .slice none 0 0, .int .i64 0]] w fun e w' =>
    e = .returned (.tuple #[.agg #[.int .u8 k, .int .i64 n, .string ⟨#[]⟩, .slice none 0 0, .int .i64 0], .int .i64 0]) ∧ Below w.heap.size w w' := by
  go_enter Tryz.func79, Tryz.ntmps79
  go_wp2_with fail
  refine (vMay_W _ k n h).mono ?_
  rintro e w1 ⟨rfl, hb1⟩
  obtain ⟨hc, hf⟩ := bcell hb1
  have hz : w.heap.size + 1 < w1.heap.size := by have := hb1.size; simp at this; omega
  have HB : Hid (Below w.heap.size w w1) := (((Below.refl _ _).alloc (Nat.le_refl _) _).alloc (by simp) _).trans (hb1.mono (by simp; omega))
  clear hb1
  go_wp2_with fail
  refine (vown_W _ k n).mono ?_
  rintro e w2 ⟨rfl, hb2⟩
  obtain ⟨hc2, hf2⟩ := bcell hb2
  have hz2 : w.heap.size + 1 < w2.heap.size := by have := hb2.size; omega
  have HB2 : Hid (Below w.heap.size w w2) := HB.out.trans (hb2.mono HB.out.size)
  clear hb2
  go_wp2_with fail
  have hB2 := HB2.out
  have hz1 : w.heap.size + 1 < w1.heap.size := hz
  exact bodyPost_ret (v := .tuple #[.agg #[.int .u8 k, .int .i64 n, .string ⟨#[]⟩, .slice none 0 0, .int .i64 0], .int .i64 0]) (by simp [results, Tryz.results79, go_sem, hc, hc2, hz1]) rfl ⟨rfl, by go_grown⟩

set_option maxRecDepth 8000 in
theorem cloneVal_W (w : World) : Calls Tryz.prog 55 #[.slice none 0 0] w fun e w' => e = .returned (.slice none 0 0) ∧ Below w.heap.size w w' := by
  go_enter Tryz.func55, Tryz.ntmps55
  go_wp2
  go_ret
  exact ⟨rfl, by go_grown⟩

set_option maxRecDepth 8000 in
theorem cloneName_W (w : World) : Calls Tryz.prog 56 #[.slice none 0 0] w fun e w' => e = .returned (.slice none 0 0) ∧ w = w' := by
  go_enter Tryz.func56, Tryz.ntmps56
  go_wp2
  go_ret
  exact ⟨rfl, rfl⟩
set_option maxRecDepth 8000 in
theorem cloneStmt_W (w : World) : Calls Tryz.prog 80 #[.slice none 0 0] w fun e w' => e = .returned (.slice none 0 0) ∧ w = w' := by
  go_enter Tryz.func80, Tryz.ntmps80
  go_wp2
  go_ret
  exact ⟨rfl, rfl⟩
set_option maxRecDepth 8000 in
theorem ownCode_W (w : World) : Calls Tryz.prog 57 #[.slice none 0 0] w fun e w' => e = .returned (.slice none 0 0) ∧ w = w' := by
  go_enter Tryz.func57, Tryz.ntmps57
  go_wp2_with fail
  refine (cloneStmt_W _).mono ?_
  rintro e w1 ⟨rfl, rfl⟩
  go_wp2_with fail
  go_rounds 1
  go_ret
  exact ⟨rfl, rfl⟩
set_option maxRecDepth 8000 in
theorem wsmall_W (w : World) (p : Option Addr) : Calls Tryz.prog 93 #[.slice none 0 0, .pointer p] w fun e w' => e = .returned (.bool true) ∧ w = w' := by
  go_enter Tryz.func93, Tryz.ntmps93
  go_wp2_with fail
  go_rounds 1
  go_ret
  exact ⟨rfl, rfl⟩
set_option maxRecDepth 8000 in
theorem containsRef_W (w : World) (f : Value) : Calls Tryz.prog 95 #[.slice none 0 0, f] w fun e w' => e = .returned (.bool false) ∧ w = w' := by
  go_enter Tryz.func95, Tryz.ntmps95
  go_wp2
  go_rounds 1
  go_ret
  exact ⟨rfl, rfl⟩

set_option maxHeartbeats 1600000 in
set_option maxRecDepth 8000 in
theorem wown_W (w : World) (k n : Int) (h : Plain k n) : Calls Tryz.prog 54 #[.agg #[.int .u8 k, .int .i64 n, .string ⟨#[]⟩, .slice none 0 0, .int .i64 0]] w fun e w' => e = .returned (.agg #[.int .u8 k, .int .i64 n, .string ⟨#[]⟩, .slice none 0 0, .int .i64 0]) ∧ Below w.heap.size w w' := by
  go_enter Tryz.func54, Tryz.ntmps54
  go_wp2_with fail
  refine (vOwn_W _ k n h).mono ?_
  rintro e w1 ⟨rfl, hb1⟩
  obtain ⟨⟨a0, a1, a2, a3, a4⟩, f0, f1, f2, f3, f4⟩ := cells5 (below_blk hb1 (blk2_new _ _ _))
  have hz : w.heap.size + 1 < w1.heap.size := by have := hb1.size; simp at this; omega
  have HB : Hid (Below w.heap.size w w1) := (((Below.refl _ _).alloc (Nat.le_refl _) _).alloc (by simp) _).trans (hb1.mono (by simp; omega))
  clear hb1
  go_wp2_with fail
  have hB := HB.out
  have hz1 : w.heap.size ≤ w1.heap.size := by omega
  exact bodyPost_ret (v := .agg #[.int .u8 k, .int .i64 n, .string ⟨#[]⟩, .slice none 0 0, .int .i64 0]) (by simp [results, Tryz.results54, go_sem, a0, a1, a2, a3, a4, hz]) rfl ⟨rfl, by go_grown⟩


end Go.Proofs.YtcoiccbmcjdheaaGreat
