/- Free, where no gate stands on the way. -/
import Derived.Test.YtmefjkggibbhoaaGreatWalkC
import Derived.Test.YtmefjkggibbhoaaGreatWalkD
import Derived.Test.YtmefjkggibbhoaaGreatPure
import Derived.Deep.QuietTactic
import Derived.BigQuiet
namespace Go.Proofs.YtmefjkggibbhoaaGreat
open Go.RowKit Go.ChangeMaps Go.MapKept
variable {w : World} {p : Nat} {M : WM} {F : Nat → Prop}

theorem cell_below' {w w' : World} (hb : Below w.heap.size w w') {a : Addr} {v : Value} (h : w.cell? a = some v) : w'.cell? a = some v := by
  have : a.block < w.heap.size := by
    unfold World.cell? at h
    cases ho : w.heap[a.block]? with
    | none => simp [ho] at h
    | some o => exact blk_lt ho
  exact (hb.cell this).trans h

theorem meas_step {n k : Nat} (h : k < n) (hw : wrap64 ((k : Int) + 1) = (k : Int) + 1) : n - (intOf (.int .i64 (wrap64 ((k : Int) + 1)))).toNat < n - (intOf (.int .i64 (k : Int))).toNat := by
  rw [hw]
  have e1 : (intOf (.int .i64 ((k : Int) + 1))).toNat = k + 1 := by simp only [intOf]; omega
  have e2 : (intOf (.int .i64 (k : Int))).toNat = k := by simp only [intOf]; omega
  rw [e1, e2]
  omega

def freeL (M : WM) : Int → List Int → Bool
  | _, [] => true
  | a, r :: l => match M.at r with
    | none => false
    | some t => if t.kind = 14 then freeL M a l else if M.openB a t.home = true then freeL M t.home l else false

def freeE (v : Bool) : Int := if v = true then 0 else 7


end Go.Proofs.YtmefjkggibbhoaaGreat
