/- A part of the proof, several texts in one: PlC. -/
import Derived.Test.YthebeomenjfdlaaGreatmAV
import Derived.Laws.Tables
/- A plain thing's base in memory: eighteen cells, read, built and laid at once. -/
namespace Go.Proofs.YthebeomenjfdlaaGreat
open Go.RowKit Go.ChangeMaps Go.MapKept

/-- The cells of a base: the world, the number, what the thing has. -/
def baseC (p : Nat) (r : Int) (t : Th) : Array Value :=
  #[.pointer (some ⟨p, 0, none⟩), .int .i64 r, .int .u8 t.kind, .int .i64 t.home, .int .u8 t.v.kind, .int .i64 t.v.n, .string t.v.s, t.vl, .int .i64 t.v.r, t.vals, .int .i64 t.n, .int .i64 t.lost, .int .i64 t.tgt, .int .i64 t.bi, .int .u8 t.set, .bool t.full, t.code, t.names]
def baseZ : Array Value := #[.pointer none, .int .i64 0, .int .u8 0, .int .i64 0, .int .u8 0, .int .i64 0, .string ⟨#[]⟩, .slice none 0 0, .int .i64 0, .slice none 0 0, .int .i64 0, .int .i64 0, .int .i64 0, .int .i64 0, .int .u8 0, .bool false, .slice none 0 0, .slice none 0 0]
theorem sizeBase : (Tryz.prog.info? 139).map (·.size) = some 18 := by kernel_rfl
def alB : Sem Next := do pure (.value (← Instr.alloc 139 true (.tuple #[])))
def ldB (a : Value) : Sem Next := do pure (.value (← Instr.loadAt 139 a))
def stB (a x : Value) : Sem Next := do Instr.storeAt 139 a x; pure .skip
def bld3 (a b c : Value) : Sem Next := do pure (.value (← Instr.build 139 #[(0, a), (1, b), (2, c)]))
def bldK (ty : TypeId) (a : Value) : Sem Next := do pure (.value (← Instr.build ty #[(0, a)]))
def boxK (ty : TypeId) (a : Value) : Sem Next := do pure (.value (← Instr.box ty a))
theorem execOp_alB (ρ : Operand → Value) (d : Option Tmp) (ty : TypeId) (pos : String) (af : Array Edge) (g : Option (Nat × Bool)) :
    execOp ρ { dst := d, op := .alloc 139, type := ty, pos := pos, after := af, guard := g } = alB := rfl
theorem execOp_ldB (ρ : Operand → Value) (d : Option Tmp) (a : Operand) (ty : TypeId) (pos : String) (af : Array Edge) (g : Option (Nat × Bool)) :
    execOp ρ { dst := d, op := .load 139 a, type := ty, pos := pos, after := af, guard := g } = ldB (ρ a) := rfl
theorem execOp_stB (ρ : Operand → Value) (d : Option Tmp) (a x : Operand) (ty : TypeId) (pos : String) (af : Array Edge) (g : Option (Nat × Bool)) :
    execOp ρ { dst := d, op := .store 139 a x, type := ty, pos := pos, after := af, guard := g } = stB (ρ a) (ρ x) := rfl
theorem execOp_bld3 (ρ : Operand → Value) (d : Option Tmp) (a b c : Operand) (ty : TypeId) (pos : String) (af : Array Edge) (g : Option (Nat × Bool)) :
    execOp ρ { dst := d, op := .build 139 #[(0, a), (1, b), (2, c)], type := ty, pos := pos, after := af, guard := g } = bld3 (ρ a) (ρ b) (ρ c) := by simp [execOp, bld3]
theorem alB_run (w : World) : alB.run Tryz.prog w = .ok (.value (.pointer (some ⟨w.heap.size, 0, none⟩))) (w.alloc (.cells baseZ 139)) := by
  simp [alB, baseZ, go_sem]
theorem ldB_run {w : World} {b : Nat} {cs : Array Value} {fr : Nat × Nat} (hg : w.heap[b]? = some (.cells cs 139 fr)) (hs : cs.size = 18) : (ldB (.pointer (some ⟨b, 0, none⟩))).run Tryz.prog w = .ok (.value (.agg cs)) w := by
  have := run_loadAt_blk hg Tryz.underlying139 rfl (by rw [hs]; exact sizeBase)
  simp only [ldB, Sem.run_bind, this, Result.andThen, Sem.run_pure]
theorem stB_run {w : World} {b : Nat} {c c' : Array Value} (hg : w.heap[b]? = some (.cells c 139 (0, 0))) (hs : c.size = 18) (hs' : c'.size = 18) (h1 : c'.all (·.oneCell') = true) :
    (stB (.pointer (some ⟨b, 0, none⟩)) (.agg c')).run Tryz.prog w = .ok .skip (w.setRow b c') := by
  have := run_storeAt_blk (P := Tryz.prog) hg (by rw [hs']; exact sizeBase) (by rw [hs, hs']) h1
  simp only [stB, Sem.run_bind, this, Result.andThen, Sem.run_pure]
theorem bld3_run (w : World) (p : Nat) (r : Int) {x0 x1 x2 x3 x4 x5 x6 x7 x8 x9 x10 x11 x12 x13 x14 x15 : Value} : (bld3 (.pointer (some ⟨p, 0, none⟩)) (.int .i64 r) (.agg #[x0, x1, x2, x3, x4, x5, x6, x7, x8, x9, x10, x11, x12, x13, x14, x15])).run Tryz.prog w =
    .ok (.value (.agg #[.pointer (some ⟨p, 0, none⟩), .int .i64 r, x0, x1, x2, x3, x4, x5, x6, x7, x8, x9, x10, x11, x12, x13, x14, x15])) w := by
  have h : Tryz.prog.built 139 [(0, .pointer (some ⟨p, 0, none⟩)), (1, .int .i64 r), (2, .agg #[x0, x1, x2, x3, x4, x5, x6, x7, x8, x9, x10, x11, x12, x13, x14, x15])] = some #[.pointer (some ⟨p, 0, none⟩), .int .i64 r, x0, x1, x2, x3, x4, x5, x6, x7, x8, x9, x10, x11, x12, x13, x14, x15] := by kernel_rfl
  have := run_build (P := Tryz.prog) w 139 #[(0, .pointer (some ⟨p, 0, none⟩)), (1, .int .i64 r), (2, .agg #[x0, x1, x2, x3, x4, x5, x6, x7, x8, x9, x10, x11, x12, x13, x14, x15])] _ h
  simp only [bld3, Sem.run_bind, this, Result.andThen, Sem.run_pure]
theorem bldK_1 (w : World) {y0 y1 x0 x1 x2 x3 x4 x5 x6 x7 x8 x9 x10 x11 x12 x13 x14 x15 : Value} : (bldK 180 (.agg #[y0, y1, x0, x1, x2, x3, x4, x5, x6, x7, x8, x9, x10, x11, x12, x13, x14, x15])).run Tryz.prog w = .ok (.value (.agg #[y0, y1, x0, x1, x2, x3, x4, x5, x6, x7, x8, x9, x10, x11, x12, x13, x14, x15])) w := by
  have h : Tryz.prog.built 180 [(0, .agg #[y0, y1, x0, x1, x2, x3, x4, x5, x6, x7, x8, x9, x10, x11, x12, x13, x14, x15])] = some #[y0, y1, x0, x1, x2, x3, x4, x5, x6, x7, x8, x9, x10, x11, x12, x13, x14, x15] := by kernel_rfl
  have := run_build (P := Tryz.prog) w 180 #[(0, .agg #[y0, y1, x0, x1, x2, x3, x4, x5, x6, x7, x8, x9, x10, x11, x12, x13, x14, x15])] _ h
  simp only [bldK, Sem.run_bind, this, Result.andThen, Sem.run_pure]
theorem boxK_1 (w : World) {cs : Array Value} : (boxK 180 (.agg cs)).run Tryz.prog w = .ok (.value (.pointer (some ⟨w.heap.size, 0, none⟩))) (w.alloc (.cells cs 180)) := by
  simp [boxK, go_sem]
theorem execOp_bldK_1 (ρ : Operand → Value) (d : Option Tmp) (a : Operand) (ty : TypeId) (pos : String) (af : Array Edge) (g : Option (Nat × Bool)) :
    execOp ρ { dst := d, op := .build 180 #[(0, a)], type := ty, pos := pos, after := af, guard := g } = bldK 180 (ρ a) := by simp [execOp, bldK]
theorem execOp_boxK_1 (ρ : Operand → Value) (d : Option Tmp) (a : Operand) (ty : TypeId) (pos : String) (af : Array Edge) (g : Option (Nat × Bool)) :
    execOp ρ { dst := d, op := .box 180 a, type := ty, pos := pos, after := af, guard := g } = boxK 180 (ρ a) := rfl
theorem bldK_2 (w : World) {y0 y1 x0 x1 x2 x3 x4 x5 x6 x7 x8 x9 x10 x11 x12 x13 x14 x15 : Value} : (bldK 141 (.agg #[y0, y1, x0, x1, x2, x3, x4, x5, x6, x7, x8, x9, x10, x11, x12, x13, x14, x15])).run Tryz.prog w = .ok (.value (.agg #[y0, y1, x0, x1, x2, x3, x4, x5, x6, x7, x8, x9, x10, x11, x12, x13, x14, x15])) w := by
  have h : Tryz.prog.built 141 [(0, .agg #[y0, y1, x0, x1, x2, x3, x4, x5, x6, x7, x8, x9, x10, x11, x12, x13, x14, x15])] = some #[y0, y1, x0, x1, x2, x3, x4, x5, x6, x7, x8, x9, x10, x11, x12, x13, x14, x15] := by kernel_rfl
  have := run_build (P := Tryz.prog) w 141 #[(0, .agg #[y0, y1, x0, x1, x2, x3, x4, x5, x6, x7, x8, x9, x10, x11, x12, x13, x14, x15])] _ h
  simp only [bldK, Sem.run_bind, this, Result.andThen, Sem.run_pure]
theorem boxK_2 (w : World) {cs : Array Value} : (boxK 141 (.agg cs)).run Tryz.prog w = .ok (.value (.pointer (some ⟨w.heap.size, 0, none⟩))) (w.alloc (.cells cs 141)) := by
  simp [boxK, go_sem]
theorem execOp_bldK_2 (ρ : Operand → Value) (d : Option Tmp) (a : Operand) (ty : TypeId) (pos : String) (af : Array Edge) (g : Option (Nat × Bool)) :
    execOp ρ { dst := d, op := .build 141 #[(0, a)], type := ty, pos := pos, after := af, guard := g } = bldK 141 (ρ a) := by simp [execOp, bldK]
theorem execOp_boxK_2 (ρ : Operand → Value) (d : Option Tmp) (a : Operand) (ty : TypeId) (pos : String) (af : Array Edge) (g : Option (Nat × Bool)) :
    execOp ρ { dst := d, op := .box 141 a, type := ty, pos := pos, after := af, guard := g } = boxK 141 (ρ a) := rfl
theorem bldK_3 (w : World) {y0 y1 x0 x1 x2 x3 x4 x5 x6 x7 x8 x9 x10 x11 x12 x13 x14 x15 : Value} : (bldK 182 (.agg #[y0, y1, x0, x1, x2, x3, x4, x5, x6, x7, x8, x9, x10, x11, x12, x13, x14, x15])).run Tryz.prog w = .ok (.value (.agg #[y0, y1, x0, x1, x2, x3, x4, x5, x6, x7, x8, x9, x10, x11, x12, x13, x14, x15])) w := by
  have h : Tryz.prog.built 182 [(0, .agg #[y0, y1, x0, x1, x2, x3, x4, x5, x6, x7, x8, x9, x10, x11, x12, x13, x14, x15])] = some #[y0, y1, x0, x1, x2, x3, x4, x5, x6, x7, x8, x9, x10, x11, x12, x13, x14, x15] := by kernel_rfl
  have := run_build (P := Tryz.prog) w 182 #[(0, .agg #[y0, y1, x0, x1, x2, x3, x4, x5, x6, x7, x8, x9, x10, x11, x12, x13, x14, x15])] _ h
  simp only [bldK, Sem.run_bind, this, Result.andThen, Sem.run_pure]
theorem boxK_3 (w : World) {cs : Array Value} : (boxK 182 (.agg cs)).run Tryz.prog w = .ok (.value (.pointer (some ⟨w.heap.size, 0, none⟩))) (w.alloc (.cells cs 182)) := by
  simp [boxK, go_sem]
theorem execOp_bldK_3 (ρ : Operand → Value) (d : Option Tmp) (a : Operand) (ty : TypeId) (pos : String) (af : Array Edge) (g : Option (Nat × Bool)) :
    execOp ρ { dst := d, op := .build 182 #[(0, a)], type := ty, pos := pos, after := af, guard := g } = bldK 182 (ρ a) := by simp [execOp, bldK]
theorem execOp_boxK_3 (ρ : Operand → Value) (d : Option Tmp) (a : Operand) (ty : TypeId) (pos : String) (af : Array Edge) (g : Option (Nat × Bool)) :
    execOp ρ { dst := d, op := .box 182 a, type := ty, pos := pos, after := af, guard := g } = boxK 182 (ρ a) := rfl
theorem bldK_4 (w : World) {y0 y1 x0 x1 x2 x3 x4 x5 x6 x7 x8 x9 x10 x11 x12 x13 x14 x15 : Value} : (bldK 143 (.agg #[y0, y1, x0, x1, x2, x3, x4, x5, x6, x7, x8, x9, x10, x11, x12, x13, x14, x15])).run Tryz.prog w = .ok (.value (.agg #[y0, y1, x0, x1, x2, x3, x4, x5, x6, x7, x8, x9, x10, x11, x12, x13, x14, x15])) w := by
  have h : Tryz.prog.built 143 [(0, .agg #[y0, y1, x0, x1, x2, x3, x4, x5, x6, x7, x8, x9, x10, x11, x12, x13, x14, x15])] = some #[y0, y1, x0, x1, x2, x3, x4, x5, x6, x7, x8, x9, x10, x11, x12, x13, x14, x15] := by kernel_rfl
  have := run_build (P := Tryz.prog) w 143 #[(0, .agg #[y0, y1, x0, x1, x2, x3, x4, x5, x6, x7, x8, x9, x10, x11, x12, x13, x14, x15])] _ h
  simp only [bldK, Sem.run_bind, this, Result.andThen, Sem.run_pure]
theorem boxK_4 (w : World) {cs : Array Value} : (boxK 143 (.agg cs)).run Tryz.prog w = .ok (.value (.pointer (some ⟨w.heap.size, 0, none⟩))) (w.alloc (.cells cs 143)) := by
  simp [boxK, go_sem]
theorem execOp_bldK_4 (ρ : Operand → Value) (d : Option Tmp) (a : Operand) (ty : TypeId) (pos : String) (af : Array Edge) (g : Option (Nat × Bool)) :
    execOp ρ { dst := d, op := .build 143 #[(0, a)], type := ty, pos := pos, after := af, guard := g } = bldK 143 (ρ a) := by simp [execOp, bldK]
theorem execOp_boxK_4 (ρ : Operand → Value) (d : Option Tmp) (a : Operand) (ty : TypeId) (pos : String) (af : Array Edge) (g : Option (Nat × Bool)) :
    execOp ρ { dst := d, op := .box 143 a, type := ty, pos := pos, after := af, guard := g } = boxK 143 (ρ a) := rfl
theorem bldK_10 (w : World) {y0 y1 x0 x1 x2 x3 x4 x5 x6 x7 x8 x9 x10 x11 x12 x13 x14 x15 : Value} : (bldK 145 (.agg #[y0, y1, x0, x1, x2, x3, x4, x5, x6, x7, x8, x9, x10, x11, x12, x13, x14, x15])).run Tryz.prog w = .ok (.value (.agg #[y0, y1, x0, x1, x2, x3, x4, x5, x6, x7, x8, x9, x10, x11, x12, x13, x14, x15])) w := by
  have h : Tryz.prog.built 145 [(0, .agg #[y0, y1, x0, x1, x2, x3, x4, x5, x6, x7, x8, x9, x10, x11, x12, x13, x14, x15])] = some #[y0, y1, x0, x1, x2, x3, x4, x5, x6, x7, x8, x9, x10, x11, x12, x13, x14, x15] := by kernel_rfl
  have := run_build (P := Tryz.prog) w 145 #[(0, .agg #[y0, y1, x0, x1, x2, x3, x4, x5, x6, x7, x8, x9, x10, x11, x12, x13, x14, x15])] _ h
  simp only [bldK, Sem.run_bind, this, Result.andThen, Sem.run_pure]
theorem boxK_10 (w : World) {cs : Array Value} : (boxK 145 (.agg cs)).run Tryz.prog w = .ok (.value (.pointer (some ⟨w.heap.size, 0, none⟩))) (w.alloc (.cells cs 145)) := by
  simp [boxK, go_sem]
theorem execOp_bldK_10 (ρ : Operand → Value) (d : Option Tmp) (a : Operand) (ty : TypeId) (pos : String) (af : Array Edge) (g : Option (Nat × Bool)) :
    execOp ρ { dst := d, op := .build 145 #[(0, a)], type := ty, pos := pos, after := af, guard := g } = bldK 145 (ρ a) := by simp [execOp, bldK]
theorem execOp_boxK_10 (ρ : Operand → Value) (d : Option Tmp) (a : Operand) (ty : TypeId) (pos : String) (af : Array Edge) (g : Option (Nat × Bool)) :
    execOp ρ { dst := d, op := .box 145 a, type := ty, pos := pos, after := af, guard := g } = boxK 145 (ρ a) := rfl
theorem bldK_11 (w : World) {y0 y1 x0 x1 x2 x3 x4 x5 x6 x7 x8 x9 x10 x11 x12 x13 x14 x15 : Value} : (bldK 184 (.agg #[y0, y1, x0, x1, x2, x3, x4, x5, x6, x7, x8, x9, x10, x11, x12, x13, x14, x15])).run Tryz.prog w = .ok (.value (.agg #[y0, y1, x0, x1, x2, x3, x4, x5, x6, x7, x8, x9, x10, x11, x12, x13, x14, x15])) w := by
  have h : Tryz.prog.built 184 [(0, .agg #[y0, y1, x0, x1, x2, x3, x4, x5, x6, x7, x8, x9, x10, x11, x12, x13, x14, x15])] = some #[y0, y1, x0, x1, x2, x3, x4, x5, x6, x7, x8, x9, x10, x11, x12, x13, x14, x15] := by kernel_rfl
  have := run_build (P := Tryz.prog) w 184 #[(0, .agg #[y0, y1, x0, x1, x2, x3, x4, x5, x6, x7, x8, x9, x10, x11, x12, x13, x14, x15])] _ h
  simp only [bldK, Sem.run_bind, this, Result.andThen, Sem.run_pure]
theorem boxK_11 (w : World) {cs : Array Value} : (boxK 184 (.agg cs)).run Tryz.prog w = .ok (.value (.pointer (some ⟨w.heap.size, 0, none⟩))) (w.alloc (.cells cs 184)) := by
  simp [boxK, go_sem]
theorem execOp_bldK_11 (ρ : Operand → Value) (d : Option Tmp) (a : Operand) (ty : TypeId) (pos : String) (af : Array Edge) (g : Option (Nat × Bool)) :
    execOp ρ { dst := d, op := .build 184 #[(0, a)], type := ty, pos := pos, after := af, guard := g } = bldK 184 (ρ a) := by simp [execOp, bldK]
theorem execOp_boxK_11 (ρ : Operand → Value) (d : Option Tmp) (a : Operand) (ty : TypeId) (pos : String) (af : Array Edge) (g : Option (Nat × Bool)) :
    execOp ρ { dst := d, op := .box 184 a, type := ty, pos := pos, after := af, guard := g } = boxK 184 (ρ a) := rfl
end Go.Proofs.YthebeomenjfdlaaGreat
