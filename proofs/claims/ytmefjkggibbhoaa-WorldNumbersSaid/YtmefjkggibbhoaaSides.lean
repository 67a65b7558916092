/- WorldSides: the small calls that are left. -/
import Derived.Test.YtmefjkggibbhoaaLives
import Derived.Test.YtmefjkggibbhoaaTree
import Derived.Deep.QuietTactic
import Derived.BigQuiet
namespace Go.Proofs.Ytmefjkggibbhoaa
open Go.RowKit Go.ChangeMaps Go.MapKept
variable {w : World} {p : Nat} {M : WM} {F : Nat → Prop}

set_option maxRecDepth 8000 in
theorem CutEdge_bad (hW : IsW w p M F) (n : Int) (h : edgeB M n = false) : Calls Try.prog 48 #[.pointer (some ⟨p, 0, none⟩), .int .i64 n] w fun e w' => e = .returned (.int .i64 2) ∧ w = w' := by
  have hno := none_W hW
  have hed := edge_W hW n
  rw [h] at hed
  go_enter Try.func48, Try.ntmps48
  go_wp2_with (first | (go_at_call 50; refine hno.mono ?_; rintro e w' ⟨rfl, rfl⟩) | (go_at_call 77; refine hed.mono ?_; rintro e w' ⟨rfl, rfl⟩))
  go_ret
  exact ⟨rfl, rfl⟩

def modV (s N : Int) : Int := (s.tmod N + N).tmod N
theorem modV_bound (s : Int) {N : Int} (h0 : 0 < N) : 0 ≤ modV s N ∧ modV s N < N := by
  have h2 := Int.lt_tmod_of_pos s h0
  exact ⟨Int.tmod_nonneg _ (by omega), Int.tmod_lt_of_pos _ h0⟩

set_option maxRecDepth 8000 in
theorem mod_W (w : World) (s N : Int) (h0 : 0 < N) (h16 : N ≤ 16) : Calls Try.prog 17 #[.int .i64 s, .int .i64 N] w fun e w' => e = .returned (.int .i64 (modV s N)) ∧ w' = w := by
  have hw : wrap64 (s.tmod N + N) = s.tmod N + N := by
    have h1 := Int.tmod_lt_of_pos s h0
    have h2 := Int.lt_tmod_of_pos s h0
    unfold wrap64
    omega
  have hz : (N == 0) = false := by simp; omega
  have hz' : ¬ N = 0 := by omega
  have hz2 : (N == -1) = false := by simp; omega
  obtain ⟨v, hv⟩ : ∃ v, v = modV s N := ⟨_, rfl⟩
  rw [← hv]
  have HV : Hid (modV s N = v) := hv.symm
  clear hv h0 h16
  go_enter Try.func17, Try.ntmps17
  go_wp2
  go_ret
  refine ⟨?_, rfl⟩
  rw [← HV.out]
  rfl
end Go.Proofs.Ytmefjkggibbhoaa
