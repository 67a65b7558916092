/- A part of the proof, several texts in one: Turn, PlT. -/
import Derived.Test.YthaliljaglldjaaGreatmAG
import Derived.Test.YthaliljaglldjaaGreatmAX
import Derived.StillTailTactics
/- A region that draws its order: operations that only read, some of them tied to nothing; ONE call that turns memory; a tail in one forced order that waits for all of them. -/
namespace Go.Proofs.YthaliljaglldjaaGreat
open Go.RowKit
end Go.Proofs.YthaliljaglldjaaGreat
/- plain: a tally is given a number, is read. -/
namespace Go.Proofs.YthaliljaglldjaaGreat
open Go.RowKit Go.ChangeMaps Go.MapKept
variable {w:World} {p:Nat} {M:WM} {F:Nat→Prop}
end Go.Proofs.YthaliljaglldjaaGreat
