/- A part of the proof, several texts in one: PlQ. -/
import Derived.Test.YthaliljaglldjaaGreatmAZ
import Derived.Test.YthaliljaglldjaaGreatmAJ
/- plain: a value more behind some. Printed by gen_q.py. -/
namespace Go.Proofs.YthaliljaglldjaaGreat
open Go.RowKit Go.ChangeMaps Go.MapKept
variable {w:World} {p:Nat} {M:WM} {F:Nat→Prop}
end Go.Proofs.YthaliljaglldjaaGreat
