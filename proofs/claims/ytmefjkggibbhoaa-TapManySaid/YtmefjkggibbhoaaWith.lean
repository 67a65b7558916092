/- With: where there is room, where there is none. -/
import Derived.Test.YtmefjkggibbhoaaBecome
namespace Go.Proofs.Ytmefjkggibbhoaa
open Go.RowKit Go.ChangeMaps Go.MapKept
variable {w : World} {p : Nat} {M : WM} {F : Nat → Prop}

set_option maxHeartbeats 1000000 in
set_option maxRecDepth 8000 in
/-- With is made, behind its tests. -/
theorem With_of (hW : IsW w p M F) {h r n c a b : Int} {R : Ending → World → Prop} (home : 0 ≤ h ∧ h < M.made.length) {v : Th} (hr : M.at r = some v) (hn : M.at n = some (tallyT h c))
    (hm : Calls Try.prog 64 #[.pointer (some ⟨p, 0, none⟩), .agg #[.int .u8 16, .int .i64 h, .int .u8 0, .int .i64 0, .string ⟨#[]⟩, .slice none 0 0, .int .i64 0, .slice none 0 0, .int .i64 0, .int .i64 0, .int .i64 r, .int .i64 n, .int .u8 0, .bool false, .slice none 0 0, .slice none 0 0]] w fun e w' => e = .returned (.tuple #[.int .i64 a, .int .i64 b]) ∧ Hid (R e w')) :
    Calls Try.prog 27 #[.pointer (some ⟨p, 0, none⟩), .int .i64 h, .int .i64 r, .int .i64 n] w fun e w' => Hid (R e w') := by
  have HM := (show Hid _ from hm)
  have hnw := hW.ok.at_wf hn
  have HY := (show Hid _ from tmay_W hW home (hW.ok.at_wf hr) hr)
  have hI := Is_W hW hnw
  rw [hn] at hI
  have HI := (show Hid _ from hI)
  have hH := Home_W hW hnw
  rw [show M.homeOf n = h by simp [WM.homeOf, hn], show M.hasHome n = true by simp [WM.hasHome, hn]] at hH
  have HH := (show Hid _ from hH)
  have hK := Kind_W hW hnw
  rw [show M.kindOf n = 3 by simp [WM.kindOf, hn]] at hK
  have HK := (show Hid _ from hK)
  clear hm hW hr hn hI hH hK hnw home
  go_enter Try.func27, Try.ntmps27
  go_wp2_with fail
  refine Calls.mono HY.out ?_
  rintro e _ ⟨rfl, rfl⟩
  go_wp2_with fail
  refine Calls.mono HI.out ?_
  rintro e _ ⟨rfl, rfl⟩
  go_wp2_with fail
  refine Calls.mono HH.out ?_
  rintro e _ ⟨rfl, rfl⟩
  go_wp2_with fail
  refine Calls.mono HK.out ?_
  rintro e _ ⟨rfl, rfl⟩
  go_wp2_with fail
  refine Calls.mono HM.out ?_
  rintro e w1 ⟨rfl, hR⟩
  go_wp2_with fail
  go_ret2
  exact hR

theorem With_W (hW : IsW w p M F) (hl : M.last + 1 ≤ 1099511627776) {h r n c : Int} (home : 0 ≤ h ∧ h < M.made.length) (room : M.made.getD h.toNat 0 < 512) {v : Th} (hr : M.at r = some v) (hn : M.at n = some (tallyT h c)) :
    Calls Try.prog 27 #[.pointer (some ⟨p, 0, none⟩), .int .i64 h, .int .i64 r, .int .i64 n] w fun e w' => Hid (MadeOk w p M F (tapT h r n) e w') :=
  With_of hW home hr hn ((made_tap hW hl home room hr hn).mono fun _ _ hm => ⟨hm.out.1, hm⟩)
theorem With_no (hW : IsW w p M F) (hl : M.last + 1 ≤ 1099511627776) {h r n c : Int} (home : 0 ≤ h ∧ h < M.made.length) (room : ¬ M.made.getD h.toNat 0 < 512) {v : Th} (hr : M.at r = some v) (hn : M.at n = some (tallyT h c)) :
    Calls Try.prog 27 #[.pointer (some ⟨p, 0, none⟩), .int .i64 h, .int .i64 r, .int .i64 n] w fun e w' => Hid (e = .returned (.tuple #[.int .i64 0, .int .i64 8]) ∧ Below w.heap.size w w') :=
  With_of hW home hr hn ((made_tapNo hW hl home room hr hn).mono fun _ _ hm => ⟨hm.out.1, hm⟩)
end Go.Proofs.Ytmefjkggibbhoaa
