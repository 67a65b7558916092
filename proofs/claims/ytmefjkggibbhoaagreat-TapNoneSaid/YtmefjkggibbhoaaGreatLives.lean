/- lives of posternlaw07: it is true. -/
import Derived.Test.YtmefjkggibbhoaaGreatNewW
import Derived.Test.YtmefjkggibbhoaaGreatFacet
import Derived.Test.YtmefjkggibbhoaaGreatFree
import Derived.Test.YtmefjkggibbhoaaGreatFormA
import Derived.Test.YtmefjkggibbhoaaGreatFits
import Derived.Test.YtmefjkggibbhoaaGreatWalkE
import Derived.Deep.QuietTactic
import Derived.BigQuiet
namespace Go.Proofs.YtmefjkggibbhoaaGreat
open Go.RowKit Go.ChangeMaps Go.MapKept

def LM0 : WM := WM.new [0, 0, 1]
def LM1 : WM := LM0.add (lt 1 1 1 7 0 0 0 0 0 false)
def LM2 : WM := LM1.add (ft 1 1)
def LM3 : WM := LM2.cutE 1

theorem ltree : TreeOk [0, 0, 1] := ⟨by decide, fun i p h => by
  match i, h with
  | 0, h => simp at h; omega
  | 1, h => simp at h; omega
  | 2, h => simp at h; omega⟩
theorem lnotree : ¬ TreeOk [0, 2] := fun h => by
  have := (h.2 1 2 rfl).2
  omega
theorem ladd : AddOk LM0 (lt 1 1 1 7 0 0 0 0 0 false) where
  wf := ⟨by show (1 : Int) ≤ 1 ∧ (1 : Int) ≤ 16; decide, rfl, rfl, by show (0 : Int) ≤ 0 ∧ (0 : Int) ≤ 255; decide⟩
  last := by decide
  home := fun _ => by decide
  made := fun _ => by decide
  wrap := fun h => absurd h (by decide)
  gate := fun h => absurd h (by decide)
  purse := fun h => absurd h (by decide)
  facet := fun h => absurd h (by decide)
theorem lable1 : AbleIs LM1 63 1 3 := AbleIs.mk_base (t := lt 1 1 1 7 0 0 0 0 0 false) rfl (by decide) (by decide)
theorem lable2 : AbleIs LM2 63 1 3 := AbleIs.mk_base (t := lt 1 1 1 7 0 0 0 0 0 false) rfl (by decide) (by decide)
theorem lable3 : AbleIs LM3 63 2 1 := AbleIs.mk_facet (t := ft 1 1) rfl rfl (AbleIs.mk_base (t := lt 1 1 1 7 0 0 0 0 0 false) rfl (by decide) (by decide))
theorem lway : WayIs LM3 2 [2, 1] := WayIs.mk_wrap (t := ft 1 1) rfl rfl (WayIs.mk_base (t := lt 1 1 1 7 0 0 0 0 0 false) rfl rfl)
theorem lfree0 : freeL LM3 0 [2, 1] = false := by decide
theorem lfree3 : freeL LM3 3 [2, 1] = true := by decide
theorem lfind1 : LM1.find 1 1 = none := by decide
theorem lfind2 : LM2.find 1 1 = some 2 := by decide
theorem lall : ∀ x ∈ ([2, 1] : List Int), ∃ t, LM3.at x = some t ∧ t.kind ≠ 15 := by
  intro x hx
  simp only [List.mem_cons, List.not_mem_nil, or_false] at hx
  rcases hx with rfl | rfl
  · exact ⟨ft 1 1, rfl, by decide⟩
  · exact ⟨lt 1 1 1 7 0 0 0 0 0 false, rfl, by decide⟩

/-- A world of the call's own: all of it lies above what was there. -/
def Own (w0 w : World) (p : Nat) (M : WM) : Prop := ∃ F, IsW w p M F ∧ (∀ b, F b → w0.heap.size ≤ b) ∧ Below w0.heap.size w0 w
theorem Own.below {w0 w w' : World} {p : Nat} {M : WM} (h : Own w0 w p M) (hb : Below w.heap.size w w') : Own w0 w' p M := by
  obtain ⟨F, h1, h2, h3⟩ := h
  exact ⟨F, h1.below hb, h2, h3.trans (hb.mono h3.size)⟩
theorem Own.turn {w0 w w' : World} {p : Nat} {M' : WM} {F F' : Nat → Prop} (h2 : ∀ b, F b → w0.heap.size ≤ b) (h3 : Below w0.heap.size w0 w) (hW : IsW w' p M' F') (hg : Grew F w F' w') : Own w0 w' p M' := by
  refine ⟨F', hW, fun b hb => ?_, h3.trans (Keeps.below hg.1 h3.size h2)⟩
  rcases hg.2 b hb with h | h
  · exact h2 b h
  · exact Nat.le_trans h3.size h


end Go.Proofs.YtmefjkggibbhoaaGreat
