/- A part of the proof, several texts in one: PlC. -/
import Derived.Test.YthaliljaglldjaaGreatmAU
import Derived.Laws.Tables
/- A plain thing's base in memory: eighteen cells, read, built and laid at once. -/
namespace Go.Proofs.YthaliljaglldjaaGreat
open Go.RowKit Go.ChangeMaps Go.MapKept
def baseC (p : Nat) (r : Int) (t : Th) : Array Value :=
  #[.pointer (some ⟨p, 0, none⟩), .int .i64 r, .int .u8 t.kind, .int .i64 t.home, .int .u8 t.v.kind, .int .i64 t.v.n, .string t.v.s, t.vl, .int .i64 t.v.r, t.vals, .int .i64 t.n, .int .i64 t.lost, .int .i64 t.tgt, .int .i64 t.bi, .int .u8 t.set, .bool t.full, t.code, t.names]
def baseZ : Array Value := #[.pointer none, .int .i64 0, .int .u8 0, .int .i64 0, .int .u8 0, .int .i64 0, .string ⟨#[]⟩, .slice none 0 0, .int .i64 0, .slice none 0 0, .int .i64 0, .int .i64 0, .int .i64 0, .int .i64 0, .int .u8 0, .bool false, .slice none 0 0, .slice none 0 0]
theorem sizeBase : (Tryz.prog.info? 163).map (·.size) = some 18 := by kernel_rfl
def alB : Sem Next := do pure (.value (← Instr.alloc 163 true (.tuple #[])))
def ldB (a : Value) : Sem Next := do pure (.value (← Instr.loadAt 163 a))
def stB (a x : Value) : Sem Next := do Instr.storeAt 163 a x; pure .skip
def bld3 (a b c : Value) : Sem Next := do pure (.value (← Instr.build 163 #[(0, a), (1, b), (2, c)]))
def bldK (ty : TypeId) (a : Value) : Sem Next := do pure (.value (← Instr.build ty #[(0, a)]))
def boxK (ty : TypeId) (a : Value) : Sem Next := do pure (.value (← Instr.box ty a))
theorem execOp_alB (ρ : Operand → Value) (d : Option Tmp) (ty : TypeId) (pos : String) (af : Array Edge) (g : Option (Nat × Bool)) :
    execOp ρ { dst := d, op := .alloc 163, type := ty, pos := pos, after := af, guard := g } = alB := rfl
theorem execOp_ldB (ρ : Operand → Value) (d : Option Tmp) (a : Operand) (ty : TypeId) (pos : String) (af : Array Edge) (g : Option (Nat × Bool)) :
    execOp ρ { dst := d, op := .load 163 a, type := ty, pos := pos, after := af, guard := g } = ldB (ρ a) := rfl
theorem execOp_stB (ρ : Operand → Value) (d : Option Tmp) (a x : Operand) (ty : TypeId) (pos : String) (af : Array Edge) (g : Option (Nat × Bool)) :
    execOp ρ { dst := d, op := .store 163 a x, type := ty, pos := pos, after := af, guard := g } = stB (ρ a) (ρ x) := rfl
theorem execOp_bld3 (ρ : Operand → Value) (d : Option Tmp) (a b c : Operand) (ty : TypeId) (pos : String) (af : Array Edge) (g : Option (Nat × Bool)) :
    execOp ρ { dst := d, op := .build 163 #[(0, a), (1, b), (2, c)], type := ty, pos := pos, after := af, guard := g } = bld3 (ρ a) (ρ b) (ρ c) := by simp [execOp, bld3]
theorem alB_run (w : World) : alB.run Tryz.prog w = .ok (.value (.pointer (some ⟨w.heap.size, 0, none⟩))) (w.alloc (.cells baseZ 163)) := by
  simp [alB, baseZ, go_sem]
theorem ldB_run {w : World} {b : Nat} {cs : Array Value} {fr : Nat × Nat} (hg : w.heap[b]? = some (.cells cs 163 fr)) (hs : cs.size = 18) : (ldB (.pointer (some ⟨b, 0, none⟩))).run Tryz.prog w = .ok (.value (.agg cs)) w := by
  have := run_loadAt_blk hg Tryz.underlying163 rfl (by rw [hs]; exact sizeBase)
  simp only [ldB, Sem.run_bind, this, Result.andThen, Sem.run_pure]
theorem stB_run {w : World} {b : Nat} {c c' : Array Value} (hg : w.heap[b]? = some (.cells c 163 (0, 0))) (hs : c.size = 18) (hs' : c'.size = 18) (h1 : c'.all (·.oneCell') = true) :
    (stB (.pointer (some ⟨b, 0, none⟩)) (.agg c')).run Tryz.prog w = .ok .skip (w.setRow b c') := by
  have := run_storeAt_blk (P := Tryz.prog) hg (by rw [hs']; exact sizeBase) (by rw [hs, hs']) h1
  simp only [stB, Sem.run_bind, this, Result.andThen, Sem.run_pure]
theorem bld3_run (w : World) (p : Nat) (r : Int) {x0 x1 x2 x3 x4 x5 x6 x7 x8 x9 x10 x11 x12 x13 x14 x15 : Value} : (bld3 (.pointer (some ⟨p, 0, none⟩)) (.int .i64 r) (.agg #[x0, x1, x2, x3, x4, x5, x6, x7, x8, x9, x10, x11, x12, x13, x14, x15])).run Tryz.prog w =
    .ok (.value (.agg #[.pointer (some ⟨p, 0, none⟩), .int .i64 r, x0, x1, x2, x3, x4, x5, x6, x7, x8, x9, x10, x11, x12, x13, x14, x15])) w := by
  have h : Tryz.prog.built 163 [(0, .pointer (some ⟨p, 0, none⟩)), (1, .int .i64 r), (2, .agg #[x0, x1, x2, x3, x4, x5, x6, x7, x8, x9, x10, x11, x12, x13, x14, x15])] = some #[.pointer (some ⟨p, 0, none⟩), .int .i64 r, x0, x1, x2, x3, x4, x5, x6, x7, x8, x9, x10, x11, x12, x13, x14, x15] := by kernel_rfl
  have := run_build (P := Tryz.prog) w 163 #[(0, .pointer (some ⟨p, 0, none⟩)), (1, .int .i64 r), (2, .agg #[x0, x1, x2, x3, x4, x5, x6, x7, x8, x9, x10, x11, x12, x13, x14, x15])] _ h
  simp only [bld3, Sem.run_bind, this, Result.andThen, Sem.run_pure]
theorem bldK_1 (w : World) {y0 y1 x0 x1 x2 x3 x4 x5 x6 x7 x8 x9 x10 x11 x12 x13 x14 x15 : Value} : (bldK 247 (.agg #[y0, y1, x0, x1, x2, x3, x4, x5, x6, x7, x8, x9, x10, x11, x12, x13, x14, x15])).run Tryz.prog w = .ok (.value (.agg #[y0, y1, x0, x1, x2, x3, x4, x5, x6, x7, x8, x9, x10, x11, x12, x13, x14, x15])) w := by
  have h : Tryz.prog.built 247 [(0, .agg #[y0, y1, x0, x1, x2, x3, x4, x5, x6, x7, x8, x9, x10, x11, x12, x13, x14, x15])] = some #[y0, y1, x0, x1, x2, x3, x4, x5, x6, x7, x8, x9, x10, x11, x12, x13, x14, x15] := by kernel_rfl
  have := run_build (P := Tryz.prog) w 247 #[(0, .agg #[y0, y1, x0, x1, x2, x3, x4, x5, x6, x7, x8, x9, x10, x11, x12, x13, x14, x15])] _ h
  simp only [bldK, Sem.run_bind, this, Result.andThen, Sem.run_pure]
theorem boxK_1 (w : World) {cs : Array Value} : (boxK 247 (.agg cs)).run Tryz.prog w = .ok (.value (.pointer (some ⟨w.heap.size, 0, none⟩))) (w.alloc (.cells cs 247)) := by
  simp [boxK, go_sem]
theorem execOp_bldK_1 (ρ : Operand → Value) (d : Option Tmp) (a : Operand) (ty : TypeId) (pos : String) (af : Array Edge) (g : Option (Nat × Bool)) :
    execOp ρ { dst := d, op := .build 247 #[(0, a)], type := ty, pos := pos, after := af, guard := g } = bldK 247 (ρ a) := by simp [execOp, bldK]
theorem execOp_boxK_1 (ρ : Operand → Value) (d : Option Tmp) (a : Operand) (ty : TypeId) (pos : String) (af : Array Edge) (g : Option (Nat × Bool)) :
    execOp ρ { dst := d, op := .box 247 a, type := ty, pos := pos, after := af, guard := g } = boxK 247 (ρ a) := rfl
theorem bldK_4 (w : World) {y0 y1 x0 x1 x2 x3 x4 x5 x6 x7 x8 x9 x10 x11 x12 x13 x14 x15 : Value} : (bldK 167 (.agg #[y0, y1, x0, x1, x2, x3, x4, x5, x6, x7, x8, x9, x10, x11, x12, x13, x14, x15])).run Tryz.prog w = .ok (.value (.agg #[y0, y1, x0, x1, x2, x3, x4, x5, x6, x7, x8, x9, x10, x11, x12, x13, x14, x15])) w := by
  have h : Tryz.prog.built 167 [(0, .agg #[y0, y1, x0, x1, x2, x3, x4, x5, x6, x7, x8, x9, x10, x11, x12, x13, x14, x15])] = some #[y0, y1, x0, x1, x2, x3, x4, x5, x6, x7, x8, x9, x10, x11, x12, x13, x14, x15] := by kernel_rfl
  have := run_build (P := Tryz.prog) w 167 #[(0, .agg #[y0, y1, x0, x1, x2, x3, x4, x5, x6, x7, x8, x9, x10, x11, x12, x13, x14, x15])] _ h
  simp only [bldK, Sem.run_bind, this, Result.andThen, Sem.run_pure]
theorem boxK_4 (w : World) {cs : Array Value} : (boxK 167 (.agg cs)).run Tryz.prog w = .ok (.value (.pointer (some ⟨w.heap.size, 0, none⟩))) (w.alloc (.cells cs 167)) := by
  simp [boxK, go_sem]
theorem execOp_bldK_4 (ρ : Operand → Value) (d : Option Tmp) (a : Operand) (ty : TypeId) (pos : String) (af : Array Edge) (g : Option (Nat × Bool)) :
    execOp ρ { dst := d, op := .build 167 #[(0, a)], type := ty, pos := pos, after := af, guard := g } = bldK 167 (ρ a) := by simp [execOp, bldK]
theorem execOp_boxK_4 (ρ : Operand → Value) (d : Option Tmp) (a : Operand) (ty : TypeId) (pos : String) (af : Array Edge) (g : Option (Nat × Bool)) :
    execOp ρ { dst := d, op := .box 167 a, type := ty, pos := pos, after := af, guard := g } = boxK 167 (ρ a) := rfl
end Go.Proofs.YthaliljaglldjaaGreat
