/- A part of the proof, several texts in one: GLay, GLayB, PlA. -/
import Derived.Test.YtcoiccbmcjdheaamAM
import Derived.Test.YtcoiccbmcjdheaamAO
import Derived.Test.YtcoiccbmcjdheaamAQ
import Derived.Test.YtcoiccbmcjdheaamAU
/- What and Lay of things whose values are any; Make of a cell with any value. -/
namespace Go.Proofs.Ytcoiccbmcjdheaa
open Go.RowKit Go.ChangeMaps Go.MapKept
variable {w : World} {p : Nat} {M : WM} {F : Nat → Prop}

/-- A thing's values may be. -/
structure Fair (t : Th) : Prop where
  v : mayV t.v = true
  vs : ∀ x ∈ t.vs, mayV x = true
  len : t.vs.length ≤ 1024


end Go.Proofs.Ytcoiccbmcjdheaa
/- Lay of a thing whose values are any, over one. -/
namespace Go.Proofs.Ytcoiccbmcjdheaa
open Go.RowKit Go.ChangeMaps Go.MapKept
variable {w : World} {p : Nat} {M : WM} {F : Nat → Prop}

/-- The thing r is turned into x (its lists laid anew). -/
def LaidS (w : World) (p : Nat) (M : WM) (F : Nat → Prop) (r : Int) (x : Th) (w' : World) : Prop :=
  ∃ vl' vals' F', ((x.v.l = [] → vl' = .slice none 0 0) ∧ (x.vals = .slice none 0 0 → vals' = .slice none 0 0)) ∧ IsW w' p (M.set r { x with vl := vl', vals := vals' }) F' ∧ Keeps F w w' ∧ ∀ b, F' b → F b ∨ w.heap.size ≤ b
/-- The same, the values' slice not told. -/
def LaidG (w : World) (p : Nat) (M : WM) (F : Nat → Prop) (r : Int) (x : Th) (w' : World) : Prop :=
  ∃ vl' vals' F', (x.v.l = [] → vl' = .slice none 0 0) ∧ IsW w' p (M.set r { x with vl := vl', vals := vals' }) F' ∧ Keeps F w w' ∧ ∀ b, F' b → F b ∨ w.heap.size ≤ b



end Go.Proofs.Ytcoiccbmcjdheaa
/- plain: the small calls. -/
namespace Go.Proofs.Ytcoiccbmcjdheaa
open Go.RowKit Go.ChangeMaps Go.MapKept
variable {w : World} {p : Nat} {M : WM} {F : Nat → Prop}












end Go.Proofs.Ytcoiccbmcjdheaa
