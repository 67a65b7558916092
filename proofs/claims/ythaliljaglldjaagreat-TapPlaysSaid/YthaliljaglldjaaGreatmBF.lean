/- Part of the proof. -/
import Derived.Test.YthaliljaglldjaaGreatmBE
import Derived.Sort.QuietIn
import Derived.Sort.CutIn
namespace Go.Proofs.YthaliljaglldjaaGreat
open Go.RowKit Go.ChangeMaps Go.MapKept
section
variable {w:World} {q:Nat} {M:WM} {G:Nat->Prop}
end
section
variable {w:World} {q:Nat} {M:WM} {G:Nat->Prop}
end
end Go.Proofs.YthaliljaglldjaaGreat
namespace Go.Proofs.YthaliljaglldjaaGreat
open Go.RowKit Go.Shelf Go.ChangeMaps Go.MapKept
section
attribute [local go_sem] Oper.semAt_some
end
end Go.Proofs.YthaliljaglldjaaGreat
namespace Go.Proofs.YthaliljaglldjaaGreat
open Go.RowKit Go.ChangeMaps Go.MapKept
section
variable {w:World} {q:Nat} {M:WM} {G:Nat->Prop}
end
end Go.Proofs.YthaliljaglldjaaGreat
namespace Go.Proofs.YthaliljaglldjaaGreat
open Go.RowKit Go.Shelf Go.ChangeMaps Go.MapKept
section
attribute [local go_sem] Oper.semAt_some
theorem row_slice {W:World} {base:Nat} {e:TypeId} {v:Value} {n:Nat} {xs:List Value} (h:W.ownsRow base e 1 v n xs) :
 ∃ a cap,v=.slice a n cap/\∀ k,k<n->∃ g,a=some ⟨g,0,none⟩/\W.cell? ⟨g,k,none⟩=xs[k]?:=by
 rcases h.2 with ⟨rfl,h0⟩ | ⟨g,cap,cur,rfl,-⟩
 ·subst h0;exact⟨none,0,rfl,fun k hk=>by omega⟩
 ·exact⟨_,cap,rfl,fun k hk=>⟨g,rfl,h.cellAt k (by omega)⟩⟩
end
end Go.Proofs.YthaliljaglldjaaGreat
