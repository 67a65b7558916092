/- A part of the proof, several texts in one: FormV, GLay, GLayB, PlA. -/
import Derived.Test.YthaliljaglldjaaGreatmAM
import Derived.Test.YthaliljaglldjaaGreatmAB
import Derived.Test.YthaliljaglldjaaGreatmAR
import Derived.Test.YthaliljaglldjaaGreatmAC
import Derived.Deep.QuietTactic
import Derived.BigQuiet
import Derived.Test.YthaliljaglldjaaGreatmAI
import Derived.Test.YthaliljaglldjaaGreatmAQ
import Derived.Test.YthaliljaglldjaaGreatmAS
/- form: a What that is one, its values any. Printed by gen_formv.py. -/
namespace Go.Proofs.YthaliljaglldjaaGreat
open Go.RowKit Go.ChangeMaps Go.MapKept
variable {w:World} {p:Nat} {M:WM} {F:Nat→Prop}
end Go.Proofs.YthaliljaglldjaaGreat
/- What and Lay of things whose values are any; Make of a cell with any value. -/
namespace Go.Proofs.YthaliljaglldjaaGreat
open Go.RowKit Go.ChangeMaps Go.MapKept
variable {w:World} {p:Nat} {M:WM} {F:Nat→Prop}
end Go.Proofs.YthaliljaglldjaaGreat
/- Lay of a thing whose values are any, over one. -/
namespace Go.Proofs.YthaliljaglldjaaGreat
open Go.RowKit Go.ChangeMaps Go.MapKept
variable {w:World} {p:Nat} {M:WM} {F:Nat→Prop}
end Go.Proofs.YthaliljaglldjaaGreat
/- plain: the small calls. -/
namespace Go.Proofs.YthaliljaglldjaaGreat
open Go.RowKit Go.ChangeMaps Go.MapKept
variable {w:World} {p:Nat} {M:WM} {F:Nat→Prop}
end Go.Proofs.YthaliljaglldjaaGreat
