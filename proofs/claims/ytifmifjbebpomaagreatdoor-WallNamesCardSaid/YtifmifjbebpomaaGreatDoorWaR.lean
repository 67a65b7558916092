/- What the wall's rows share: the listed table out of the row's condition; a world that meets the condition. -/
import Derived.Test.YtifmifjbebpomaaGreatDoorRows
import Derived.Test.YtifmifjbebpomaaGreatDoorWaP
import Derived.ChangeSame
import Derived.ChangeVars
import Derived.JoinedOf
import Derived.RowKit
import Derived.LaidLaws
import Derived.LaidHandle
import Derived.LaidSub
import Derived.Lib.LaidU8
namespace Go.Proofs.YtifmifjbebpomaaGreatDoor
open Go.ChangeShapes Go.WideShapes Go.RowKit Go.Lib

theorem wr_own : ownKnob Tryz.prog.godebug = none := by kernel_rfl
theorem wr_g64 : Tryz.prog.globalNamed "math/bits.deBruijn64tab" = some 2 := by kernel_rfl
theorem wr_y64 : (Tryz.prog.globals[2]?).map (·.type) = some 247 := by kernel_rfl
theorem wr_a64 : Tryz.prog.underlying 247 = some (.array 64 5) := by kernel_rfl
theorem wr_u8 : Tryz.prog.underlying 5 = some (.int .u8) := by kernel_rfl
theorem wr_c8 : Tryz.prog.cellsOf 5 = 1 := by kernel_rfl
theorem wr_c64 : Tryz.prog.cellsOf 247 = 64 := by kernel_rfl
theorem wr_data : (Rows.laid_math_bits_deBruijn64tab : DataW Unit) = tabData .u8 (Lib.deBruijn64tab.map fun n : Nat => (n : Int)) := by rfl

abbrev WLaid : List (String × DataW Unit) := [("math/bits.deBruijn32tab", Rows.laid_math_bits_deBruijn32tab), ("math/bits.deBruijn64tab", Rows.laid_math_bits_deBruijn64tab), ("errors.errorType", Rows.laid_errors_errorType)]
theorem wr_filter : WLaid.filter (fun x => x.2.handleName?.isNone) = [("math/bits.deBruijn32tab", Rows.laid_math_bits_deBruijn32tab), ("math/bits.deBruijn64tab", Rows.laid_math_bits_deBruijn64tab)] := by rfl

theorem tab64_of_laid {W : World} (h : laidMetH Tryz.prog WLaid W) : Tab64 W := by
  have h1 := (laidMetH_iff.1 h).1
  rw [wr_filter] at h1
  obtain ⟨g, t, cs, fuel, p, hg, hty, hvar, hd⟩ := Go.Lib.laidMet.reads h1 (n := "math/bits.deBruijn64tab") (d := Rows.laid_math_bits_deBruijn64tab) (List.mem_cons_of_mem _ (List.mem_cons_self ..))
  obtain rfl := Option.some.inj (wr_g64.symm.trans hg)
  obtain rfl := Option.some.inj (wr_y64.symm.trans hty)
  rw [wr_data] at hd
  have hcs := cells_of_tab wr_a64 wr_u8 wr_c8 wr_c64 hd
  intro j hj
  have := World.var?_cell hg hvar j
  rw [this, ← Array.getElem?_toList, hcs]
  simp [hj]

/-- A world that meets the condition: the settled one, the three variables laid. -/
noncomputable def laidWorld (os : Os) : World :=
  let w0 := World.holding Tryz.prog os ⟨#[], #[], []⟩
  { w0 with heap := ((w0.heap.modify 0 fun
      | .cells _ t frozen => .cells #[.iface 164 (.agg #[.pointer (some ⟨3, 51, none⟩)])] t frozen
      | o => o).modify 1 fun
      | .cells _ t frozen => .cells (Lib.deBruijn32tab.map fun n : Nat => Value.int .u8 (n : Int)).toArray t frozen
      | o => o).modify 2 fun
      | .cells _ t frozen => .cells (Lib.deBruijn64tab.map fun n : Nat => Value.int .u8 (n : Int)).toArray t frozen
      | o => o }
set_option maxRecDepth 100000 in
theorem laidWorld_data (os : Os) (args : Array Value) : laidMet Tryz.prog (WLaid.filter fun x => x.2.handleName?.isNone) ((laidWorld os).forCall (fun _ _ => 0) ⟨#[], args, []⟩).memory :=
  laidMet_of_run' 4 (by kernel_rfl) (by kernel_rfl)
set_option maxRecDepth 100000 in
theorem laidWorld_hand (os : Os) (args : Array Value) : (WLaid.filter fun x => x.2.handleName?.isSome).all (handleAtB Tryz.prog ((laidWorld os).forCall (fun _ _ => 0) ⟨#[], args, []⟩).memory) = true := by kernel_rfl
theorem laidWorld_met (os : Os) (args : Array Value) : laidMetH Tryz.prog WLaid ((laidWorld os).forCall (fun _ _ => 0) ⟨#[], args, []⟩).memory :=
  laidMetH_of_parts (laidWorld_data os args) (laidWorld_hand os args)
end Go.Proofs.YtifmifjbebpomaaGreatDoor
