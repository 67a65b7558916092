/- lives of posternlaw10: it is true. -/
import Derived.Test.YtmefjkggibbhoaaNewW
import Derived.Test.YtmefjkggibbhoaaLives
import Derived.Test.YtmefjkggibbhoaaMove
import Derived.Test.YtmefjkggibbhoaaCheck
namespace Go.Proofs.Ytmefjkggibbhoaa
open Go.RowKit Go.ChangeMaps Go.MapKept

def PM0 : WM := WM.new []
def PM1 : WM := makeM PM0 (mintT 0 0 0)
def PM2 : WM := (PM1.add (purseT 0 10 1)).set 1 (mintT 0 (0 + 10) 0)
def PM3 : WM := (PM2.add (purseT 0 3 1)).set 2 (purseT 0 (10 - 3) 1)
def PM4 : WM := (PM3.set 3 (purseT 0 (3 + 7) 1)).set 2 (purseT 0 0 1)
theorem ptree : TreeOk [] := ⟨by decide, fun i p h => by simp at h⟩
theorem pat1 : PM1.at 1 = some (mintT 0 0 0) := rfl
theorem pat2 : PM2.at 1 = some (mintT 0 10 0) := rfl
theorem pat2' : PM2.at 2 = some (purseT 0 10 1) := rfl
theorem pat3 : PM3.at 2 = some (purseT 0 7 1) := rfl
theorem pat3' : PM3.at 3 = some (purseT 0 3 1) := rfl
theorem pat4 : PM4.at 3 = some (purseT 0 10 1) := rfl
theorem pths : PM4.things = [(1, mintT 0 10 0), (2, purseT 0 0 1), (3, purseT 0 10 1)] := rfl
theorem ppur : ∀ x ∈ PM4.things, x.2.kind = 9 → ∃ h n m, x.2 = purseT h n m ∧ 0 ≤ n := by
  rw [pths]
  intro x hx hk
  simp only [List.mem_cons, List.not_mem_nil, or_false] at hx
  rcases hx with rfl | rfl | rfl
  · cases hk
  · exact ⟨0, 0, 1, rfl, by decide⟩
  · exact ⟨0, 10, 1, rfl, by decide⟩
theorem pmint : ∀ x ∈ PM4.things, x.2.kind = 8 → ∃ h N lo, x.2 = mintT h N lo ∧ N - lo = sumF (PM4.things.filter (isP x.1)) := by
  rw [pths]
  intro x hx hk
  simp only [List.mem_cons, List.not_mem_nil, or_false] at hx
  rcases hx with rfl | rfl | rfl
  · exact ⟨0, 10, 0, rfl, by decide⟩
  · cases hk
  · cases hk

set_option maxHeartbeats 4000000 in
set_option maxRecDepth 8000 in
theorem lives10_W (w : World) : Calls Try.prog 36 #[] w fun e w' => e = .returned (.bool true) ∧ Below w.heap.size w w' := by
  go_enter Try.func36, Try.ntmps36
  go_wp2_with fail
  refine (New_W w none 0 [] (.inl rfl)).mono ?_
  rintro e w1 hpost
  obtain ⟨p, F, rfl, hW, hF, hb⟩ := (Or.resolve_right hpost (fun h => h.1 ptree)).2
  clear hpost
  have HO : Hid (Own w w1 p PM0) := ⟨F, hW, fun b h => hF b h, hb⟩
  clear hW hF hb
  go_wp2_with fail
  obtain ⟨F, hW, h2, h3⟩ := HO.out
  refine (Mint_W hW (by decide) (h := 0) (by decide)).mono ?_
  rintro e w2 (⟨-, rfl, F', hW', hg⟩ | ⟨hx, -, -⟩)
  rotate_left
  · exact absurd (by decide) hx
  have HO2 : Hid (Own w w2 p PM1) := Own.turn h2 h3 hW' hg
  clear HO hW h2 h3 hW' hg
  simp only [show PM0.last + 1 = 1 from rfl]
  go_wp2_with fail
  obtain ⟨F2, hW, h2, h3⟩ := HO2.out
  refine (Ask_W hW (r := 1) rfl (by decide) (by decide) pat1 (by decide) (by decide) (n := 10)).mono ?_
  rintro e w3 (⟨hx, -⟩ | ⟨hx, -⟩ | ⟨-, hx, -⟩ | ⟨-, -, rfl, F', hW', hg⟩)
  · exact absurd hx (by decide)
  · exact absurd hx (by decide)
  · exact absurd (by decide) hx
  have HO3 : Hid (Own w w3 p PM2) := Own.turn h2 h3 hW' hg
  clear HO2 hW h2 h3 hW' hg
  simp only [show PM1.last + 1 = 2 from rfl]
  go_wp2_with fail
  obtain ⟨F3, hW, h2, h3⟩ := HO3.out
  refine (Ask_W hW (r := 1) rfl (by decide) (by decide) pat2 (by decide) (by decide) (n := -1)).mono ?_
  rintro e w4 (⟨-, rfl, hb⟩ | ⟨hx, -⟩ | ⟨hx, -⟩ | ⟨hx, -⟩)
  rotate_left
  · exact absurd hx (by decide)
  · exact absurd hx (by decide)
  · exact absurd hx (by decide)
  have HO4 : Hid (Own w w4 p PM2) := HO3.out.below hb
  clear HO3 hW h2 h3 hb
  go_wp2_with fail
  obtain ⟨F4, hW, h2, h3⟩ := HO4.out
  refine (Take_W hW (r := 2) rfl (by decide) (by decide) pat2' pat2 (by decide) (n := 3)).mono ?_
  rintro e w5 (⟨hx, -⟩ | ⟨hx, -⟩ | ⟨-, hx, -⟩ | ⟨-, -, rfl, F', hW', hg⟩)
  · exact absurd hx (by decide)
  · exact absurd hx (by decide)
  · exact absurd (by decide) hx
  have HO5 : Hid (Own w w5 p PM3) := Own.turn h2 h3 hW' hg
  clear HO4 hW h2 h3 hW' hg
  simp only [show PM2.last + 1 = 3 from rfl]
  go_wp2_with fail
  obtain ⟨F5, hW, h2, h3⟩ := HO5.out
  refine (Get_W hW (r := 2) rfl pat3).mono ?_
  rintro e w6 ⟨rfl, hb⟩
  have HO6 : Hid (Own w w6 p PM3) := HO5.out.below hb
  clear HO5 hW h2 h3 hb
  go_wp2_with fail
  obtain ⟨F6, hW, h2, h3⟩ := HO6.out
  refine (Move_W hW pat3' pat3 (by decide) (by decide) (by decide) (by decide)).mono ?_
  rintro e w7 (⟨hx, -⟩ | ⟨-, -, hx, -⟩ | ⟨-, -, -, rfl, hW', hk⟩)
  · exact absurd hx (by decide)
  · exact absurd hx (by decide)
  have HO7 : Hid (Own w w7 p PM4) := ⟨F6, hW', h2, h3.trans (Keeps.below hk h3.size h2)⟩
  clear HO6 hW h2 h3 hW' hk
  go_wp2_with fail
  obtain ⟨F7, hW, h2, h3⟩ := HO7.out
  refine (Get_W hW (r := 3) rfl pat4).mono ?_
  rintro e w8 ⟨rfl, hb⟩
  have HO8 : Hid (Own w w8 p PM4) := HO7.out.below hb
  clear HO7 hW h2 h3 hb
  go_wp2_with fail
  obtain ⟨F8, hW, h2, h3⟩ := HO8.out
  refine (Check_W hW ppur pmint).mono ?_
  rintro e w9 ⟨rfl, hb⟩
  have HB9 : Hid (Below w.heap.size w w9) := h3.trans (hb.mono h3.size)
  clear HO8 hW h2 h3 hb
  go_wp2_with fail
  go_ret
  exact ⟨rfl, HB9.out⟩
end Go.Proofs.Ytmefjkggibbhoaa
