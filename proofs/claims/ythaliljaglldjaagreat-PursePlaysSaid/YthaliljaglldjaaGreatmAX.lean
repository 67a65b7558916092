/- A part of the proof, several texts in one: PlF. -/
import Derived.Test.YthaliljaglldjaaGreatmAW
/- plain.find: a thing as what it is. -/
namespace Go.Proofs.YthaliljaglldjaaGreat
open Go.RowKit Go.ChangeMaps Go.MapKept
variable {w:World} {p:Nat} {M:WM} {F:Nat→Prop}
end Go.Proofs.YthaliljaglldjaaGreat
