/- The sides' tree: Open, Parent, cuts. -/
import Derived.Test.YtmefjkggibbhoaaGreatWalkA
namespace Go.Proofs.YtmefjkggibbhoaaGreat
open Go.RowKit Go.ChangeMaps Go.MapKept

def WM.cutAt (M : WM) (n : Nat) : Bool := M.cuts.getD n false
def WM.par (M : WM) (n : Nat) : Int := M.parents.getD n 0
def openF (M : WM) : Nat → Int → Int → Bool
  | 0, _, _ => true
  | f + 1, a, b => if a = b then true else if a < b then (if M.cutAt b.toNat then false else openF M f (M.par (b.toNat - 1)) a) else (if M.cutAt a.toNat then false else openF M f (M.par (a.toNat - 1)) b)
def WM.openB (M : WM) (a b : Int) : Bool := sideB M a && sideB M b && openF M (a.toNat + b.toNat) a b

section
variable {w : World} {p : Nat} {M : WM} {F : Nat → Prop} {pa : Option Addr} {pc cg cc mg mc tb fb fn : Nat} {bl : Int → Nat}
theorem WV.cutCell (h : WV w p M F pa pc cg cc mg mc tb fb fn bl) {n : Nat} (hn : n < M.made.length) : w.cell? ⟨cg, n, none⟩ = some (.bool (M.cutAt n)) := by
  have h1 := h.ok.cuts
  have h2 := h.ok.made
  exact h.cut.cell (by rw [List.getElem?_map, List.getElem?_eq_getElem (by omega), WM.cutAt, List.getD_eq_getElem?_getD, List.getElem?_eq_getElem (by omega)]; rfl)
theorem WV.parCell (h : WV w p M F pa pc cg cc mg mc tb fb fn bl) {n : Nat} (hn : n < M.parents.length) : ∃ b o, pa = some ⟨b, o, none⟩ ∧ w.cell? ⟨b, o + n, none⟩ = some (.int .i64 (M.par n)) := by
  obtain ⟨b, o, h1, _, _, h2⟩ := h.pars n (M.par n) (by rw [WM.par, List.getD_eq_getElem?_getD, List.getElem?_eq_getElem hn]; rfl)
  exact ⟨b, o, h1, h2⟩
theorem WM.ok.par_le (h : M.ok) {n : Nat} (hn : n < M.parents.length) : 0 ≤ M.par n ∧ M.par n ≤ n := by
  have := h.tree n (M.par n) (by rw [WM.par, List.getD_eq_getElem?_getD, List.getElem?_eq_getElem hn]; rfl)
  exact this
end

section
variable {w : World} {p : Nat} {M : WM} {F : Nat → Prop}


end
end Go.Proofs.YtmefjkggibbhoaaGreat
