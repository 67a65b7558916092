/- A part of the proof, several texts in one: PlB, PlC. -/
import Derived.Test.YthaliljaglldjaaGreatmAV
import Derived.Laws.Tables
/- plain: a thing is made. -/
namespace Go.Proofs.YthaliljaglldjaaGreat
open Go.RowKit Go.ChangeMaps Go.MapKept
variable {w:World} {p:Nat} {M:WM} {F:Nat→Prop}
end Go.Proofs.YthaliljaglldjaaGreat
/- A plain thing's base in memory: eighteen cells, read, built and laid at once. -/
namespace Go.Proofs.YthaliljaglldjaaGreat
open Go.RowKit Go.ChangeMaps Go.MapKept
end Go.Proofs.YthaliljaglldjaaGreat
