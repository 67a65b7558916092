/- A thing more: index, lay. An edge that is cut. -/
import Derived.Test.YtmefjkggibbhoaaGreatWalkC
import Derived.Test.YtmefjkggibbhoaaGreatPure
import Derived.StillTailTactics
import Derived.Deep.QuietTactic
import Derived.BigQuiet
namespace Go.Proofs.YtmefjkggibbhoaaGreat
open Go.RowKit Go.ChangeMaps Go.MapKept

theorem drew_map {P : Program} {k : TypeId} {w : World} {b n : Nat} {f : Value → Option Value} (h : HasMap P k w b f n) : HasMap P k w.drew b f n := h

/-- A map of at most n entries. -/
def MapLe (P : Program) (k : TypeId) (w : World) (b : Nat) (f : Value → Option Value) (n : Nat) : Prop := ∃ m, m ≤ n ∧ HasMap P k w b f m

theorem index_plain {w : World} {p tb b : Nat} {r k : Int} (c2 : w.cell? ⟨p, 2, none⟩ = some (.map (some tb)))
    (hl : (Instr.lookup 60 (.map (some tb)) (.int .i64 r) false).run Tryz.prog w = .ok (.pointer (some ⟨b, 0, none⟩)) w) (k0 : w.cell? ⟨b, 0, none⟩ = some (.int .u8 k)) (hk : (k == 14) = false) :
    Calls Tryz.prog 42 #[.pointer (some ⟨p, 0, none⟩), .int .i64 r] w fun e w' => e = .returned (.tuple #[]) ∧ w = w' := by
  go_enter Tryz.func42, Tryz.ntmps42
  go_wp2
  go_end0
  exact ⟨rfl, rfl⟩

set_option maxRecDepth 8000 in
theorem index_facet {w : World} {p tb fb b fn : Nat} {r t s : Int} {f g : Value → Option Value} (c2 : w.cell? ⟨p, 2, none⟩ = some (.map (some tb))) (c3 : w.cell? ⟨p, 3, none⟩ = some (.map (some fb)))
    (hl : (Instr.lookup 60 (.map (some tb)) (.int .i64 r) false).run Tryz.prog w = .ok (.pointer (some ⟨b, 0, none⟩)) w) (k0 : w.cell? ⟨b, 0, none⟩ = some (.int .u8 14))
    (k6 : w.cell? ⟨b, 10, none⟩ = some (.int .i64 t)) (k8 : w.cell? ⟨b, 12, none⟩ = some (.int .u8 s)) (ht : (Lit.int .i64 t).wf = true) (hs : (Lit.int .u8 s).wf = true)
    (hm : HasMap Tryz.prog 140 w fb f fn) (hn : fn < maxLen) (hg : g (fkey t s) = some (.int .i64 r)) (hg' : ∀ x, x ≠ fkey t s → g x = f x) :
    Calls Tryz.prog 42 #[.pointer (some ⟨p, 0, none⟩), .int .i64 r] w fun e w' => e = .returned (.tuple #[]) ∧ Turned w w' fb ∧ MapLe Tryz.prog 140 w' fb g (fn + 1) := by
  obtain ⟨kl, hkl⟩ := key_f ht hs
  obtain ⟨w2, hrun, r1, r2⟩ := (drew_map hm).store keyedFKey Tryz.underlying61 hn hkl (.int .i64 r) hg hg'
  simp only [fkey] at hrun
  have Hr1 : Hid (MapLe Tryz.prog 140 w2 fb g (fn + 1)) := ⟨_, by split <;> omega, r1⟩
  have Hr2 : Hid (Turned w w2 fb) := Turned.of_drew r2
  clear r1 r2 hm hg hg' hkl hn
  go_enter Tryz.func42, Tryz.ntmps42
  go_wp2
  go_still_tail 14, (by kernel_rfl)
  change wpList _ _ _ _ _ w.drew
  go_wp2
  go_end0
  exact ⟨rfl, Hr2.out, Hr1.out⟩

/-- The world's own calls change last, one thing, and what is made at home: an edge that is cut. -/
def WM.cutE (M : WM) (n : Nat) : WM := { M with cuts := M.cuts.set n true }
theorem WM.cutE_ok {M : WM} (h : M.ok) (n : Nat) : (M.cutE n).ok := { h with cuts := by show (M.cuts.set n true).length = _; rw [List.length_set]; exact h.cuts }


end Go.Proofs.YtmefjkggibbhoaaGreat
