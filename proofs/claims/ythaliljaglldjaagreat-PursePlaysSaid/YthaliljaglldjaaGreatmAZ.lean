/- A part of the proof, several texts in one: PlG. -/
import Derived.Test.YthaliljaglldjaaGreatmAY
/- plain: get of a tally, a cell, a log; put where there is none. Printed by gen_get.py. -/
namespace Go.Proofs.YthaliljaglldjaaGreat
open Go.RowKit Go.ChangeMaps Go.MapKept
variable {w:World} {p:Nat} {M:WM} {F:Nat→Prop}
end Go.Proofs.YthaliljaglldjaaGreat
