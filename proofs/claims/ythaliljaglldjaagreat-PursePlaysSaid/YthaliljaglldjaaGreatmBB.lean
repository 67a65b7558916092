/- A part of the proof, several texts in one: GrowL, PlR, Other, Prm. -/
import Derived.Test.YthaliljaglldjaaGreatmAG
import Derived.Test.YthaliljaglldjaaGreatmAZ
import Derived.Test.YthaliljaglldjaaGreatmBA
import Derived.Test.YthaliljaglldjaaGreatmAE
import Derived.Test.YthaliljaglldjaaGreatmAK
import Derived.Test.YthaliljaglldjaaGreatmAW
/- A region that draws its order: a head that makes memory, a store, a tail in one forced order; ONE operation of the head (a value taken out of a pair) may still come up behind the store. -/
namespace Go.Proofs.YthaliljaglldjaaGreat
open Go.RowKit
section
variable {P:Program} {ops:Array Oper} {Q:Exit→Act→World→Prop}
end
end Go.Proofs.YthaliljaglldjaaGreat
/- plain: get of a promise. -/
namespace Go.Proofs.YthaliljaglldjaaGreat
open Go.RowKit Go.ChangeMaps Go.MapKept
variable {w:World} {p:Nat} {M:WM} {F:Nat→Prop}
end Go.Proofs.YthaliljaglldjaaGreat
/- other: where no other thing of a kind leans so, it says no. -/
namespace Go.Proofs.YthaliljaglldjaaGreat
open Go.RowKit Go.ChangeMaps Go.MapKept
variable {w:World} {p:Nat} {M:WM} {F:Nat→Prop}
end Go.Proofs.YthaliljaglldjaaGreat
/- plain: Promise, where there is room for two. -/
namespace Go.Proofs.YthaliljaglldjaaGreat
open Go.RowKit Go.ChangeMaps Go.MapKept
variable {w:World} {p:Nat} {M:WM} {F:Nat→Prop}
end Go.Proofs.YthaliljaglldjaaGreat
