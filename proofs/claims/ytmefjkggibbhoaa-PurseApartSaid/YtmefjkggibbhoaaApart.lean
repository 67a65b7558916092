/- PurseApart: the walk. -/
import Derived.Test.YtmefjkggibbhoaaOf
import Derived.Test.YtmefjkggibbhoaaLives10
namespace Go.Proofs.Ytmefjkggibbhoaa
open Go.RowKit Go.ChangeMaps Go.MapKept

def AM0 : WM := WM.new [0, 1]
def AM1 (s : Int) : WM := makeM AM0 (mintT s 0 0)
def AM2 (s : Int) : WM := makeM (AM1 s) (mintT s 0 0)
def AM3 (s a : Int) : WM := ((AM2 s).add (purseT s a 1)).set 1 (mintT s (0 + a) 0)
def AM4 (s a b : Int) : WM := ((AM3 s a).add (purseT s b 2)).set 2 (mintT s (0 + b) 0)
theorem atree : TreeOk [0, 1] := ⟨by decide, fun i p h => by
  match i, h with
  | 0, h => simp at h; omega
  | 1, h => simp at h; omega⟩
theorem aroom {s : Int} (hs : 0 ≤ s ∧ s ≤ 2) (a : Int) : AM0.made.getD s.toNat 0 < 512 ∧ (AM1 s).made.getD s.toNat 0 < 512 ∧ (AM2 s).made.getD s.toNat 0 < 512 ∧ (AM3 s a).made.getD s.toNat 0 < 512 := by
  have : s = 0 ∨ s = 1 ∨ s = 2 := by omega
  rcases this with rfl | rfl | rfl
  all_goals exact ⟨(by decide : (0 : Int) < 512), (by decide : (1 : Int) < 512), (by decide : (2 : Int) < 512), (by decide : (3 : Int) < 512)⟩
theorem ahome {s : Int} (hs : 0 ≤ s ∧ s ≤ 2) (a : Int) : (0 ≤ s ∧ s < AM0.made.length) ∧ (0 ≤ s ∧ s < (AM1 s).made.length) ∧ (0 ≤ s ∧ s < (AM2 s).made.length) ∧ (0 ≤ s ∧ s < (AM3 s a).made.length) := by
  have : s = 0 ∨ s = 1 ∨ s = 2 := by omega
  rcases this with rfl | rfl | rfl
  · exact ⟨(by decide : (0 : Int) ≤ 0 ∧ (0 : Int) < 3), (by decide : (0 : Int) ≤ 0 ∧ (0 : Int) < 3), (by decide : (0 : Int) ≤ 0 ∧ (0 : Int) < 3), (by decide : (0 : Int) ≤ 0 ∧ (0 : Int) < 3)⟩
  · exact ⟨(by decide : (0 : Int) ≤ 1 ∧ (1 : Int) < 3), (by decide : (0 : Int) ≤ 1 ∧ (1 : Int) < 3), (by decide : (0 : Int) ≤ 1 ∧ (1 : Int) < 3), (by decide : (0 : Int) ≤ 1 ∧ (1 : Int) < 3)⟩
  · exact ⟨(by decide : (0 : Int) ≤ 2 ∧ (2 : Int) < 3), (by decide : (0 : Int) ≤ 2 ∧ (2 : Int) < 3), (by decide : (0 : Int) ≤ 2 ∧ (2 : Int) < 3), (by decide : (0 : Int) ≤ 2 ∧ (2 : Int) < 3)⟩
theorem aat2 (s : Int) : (AM2 s).at 1 = some (mintT s 0 0) := rfl
theorem aat3 (s a : Int) : (AM3 s a).at 2 = some (mintT s 0 0) := rfl
theorem aat41 (s a b : Int) : (AM4 s a b).at 1 = some (mintT s (0 + a) 0) := rfl
theorem aat43 (s a b : Int) : (AM4 s a b).at 3 = some (purseT s a 1) := rfl
theorem aat44 (s a b : Int) : (AM4 s a b).at 4 = some (purseT s b 2) := rfl

set_option maxHeartbeats 4000000 in
set_option maxRecDepth 8000 in
theorem apart_W (w : World) (a b sd : Int) (ha : 0 ≤ a ∧ a ≤ 65535) (hb : 0 ≤ b ∧ b ≤ 65535) (hs : 0 ≤ sd ∧ sd ≤ 255) :
    Calls Try.prog 10 #[.int .u16 a, .int .u16 b, .int .u8 sd] w fun e w' => e = .returned (.bool true) ∧ Below w.heap.size w w' := by
  obtain ⟨ha0, ha1⟩ := ha
  obtain ⟨hb0, hb1⟩ := hb
  obtain ⟨hs0, hs1⟩ := hs
  have Hs : Hid (0 ≤ sd % 3 ∧ sd % 3 ≤ 2) := ⟨by omega, by omega⟩
  go_enter Try.func10, Try.ntmps10
  go_wp2_with fail
  refine (New_W _ _ 2 [0, 1] (.inr ⟨w.heap.size, 0, rfl, fun j x hx => ?_⟩)).mono ?_
  · rw [cell_blk (blk_new w _)]
    match j, hx with
    | 0, hx => simpa using hx
    | 1, hx => simpa using hx
  rintro e w1 hpost
  obtain ⟨p, F, rfl, hW, hF, hb⟩ := (Or.resolve_right hpost (fun h => h.1 atree)).2
  clear hpost
  have HO : Hid (Own w w1 p AM0) := ⟨F, hW, fun b h => by have := hF b h; simp at this; omega, ((Below.refl _ _).alloc (Nat.le_refl _) _).trans (hb.mono (by simp))⟩
  clear hW hF hb
  go_wp2_with fail
  revert Hs
  generalize sd % 3 = s
  intro Hs
  obtain ⟨F, hW, h2, h3⟩ := HO.out
  refine (Mint_W hW (by decide) (ahome Hs.out 0).1).mono ?_
  rintro e w2 (⟨-, rfl, F', hW', hg⟩ | ⟨hx, -, -⟩)
  rotate_left
  · exact absurd (aroom Hs.out 0).1 hx
  have HO2 : Hid (Own w w2 p (AM1 s)) := Own.turn h2 h3 hW' hg
  clear HO hW h2 h3 hW' hg
  simp only [show AM0.last + 1 = 1 from rfl]
  go_wp2_with fail
  obtain ⟨F2, hW, h2, h3⟩ := HO2.out
  refine (Mint_W hW (show (AM1 s).last + 1 ≤ _ from (by decide : (2 : Int) ≤ 1099511627776)) (ahome Hs.out 0).2.1).mono ?_
  rintro e w3 (⟨-, rfl, F', hW', hg⟩ | ⟨hx, -, -⟩)
  rotate_left
  · exact absurd (aroom Hs.out 0).2.1 hx
  have HO3 : Hid (Own w w3 p (AM2 s)) := Own.turn h2 h3 hW' hg
  clear HO2 hW h2 h3 hW' hg
  simp only [show (AM1 s).last + 1 = 2 from rfl]
  go_wp2_with fail
  obtain ⟨F3, hW, h2, h3⟩ := HO3.out
  refine (Ask_W hW (r := 1) rfl (show (AM2 s).last + 1 ≤ _ from (by decide : (3 : Int) ≤ 1099511627776)) (ahome Hs.out 0).2.2.1 (aat2 s) (by decide) (by decide) (n := a)).mono ?_
  rintro e w4 (⟨hx, -⟩ | ⟨hx, -⟩ | ⟨-, hx, -⟩ | ⟨-, -, rfl, F', hW', hg⟩)
  · omega
  · omega
  · exact absurd (aroom Hs.out 0).2.2.1 hx
  have HO4 : Hid (Own w w4 p (AM3 s a)) := Own.turn h2 h3 hW' hg
  clear HO3 hW h2 h3 hW' hg
  simp only [show (AM2 s).last + 1 = 3 from rfl]
  go_wp2_with fail
  obtain ⟨F4, hW, h2, h3⟩ := HO4.out
  refine (Ask_W hW (r := 2) rfl (show (AM3 s a).last + 1 ≤ _ from (by decide : (4 : Int) ≤ 1099511627776)) (ahome Hs.out a).2.2.2 (aat3 s a) (by decide) (by decide) (n := b)).mono ?_
  rintro e w5 (⟨hx, -⟩ | ⟨hx, -⟩ | ⟨-, hx, -⟩ | ⟨-, -, rfl, F', hW', hg⟩)
  · omega
  · omega
  · exact absurd (aroom Hs.out a).2.2.2 hx
  have HO5 : Hid (Own w w5 p (AM4 s a b)) := Own.turn h2 h3 hW' hg
  clear HO4 hW h2 h3 hW' hg
  simp only [show (AM3 s a).last + 1 = 4 from rfl]
  go_wp2_with fail
  obtain ⟨F5, hW, h2, h3⟩ := HO5.out
  refine (Of_purse hW (aat43 s a b)).mono ?_
  rintro e w6 ⟨rfl, hb⟩
  have HO6 : Hid (Own w w6 p (AM4 s a b)) := HO5.out.below hb
  clear HO5 hW h2 h3 hb
  go_wp2_with fail
  obtain ⟨F6, hW, h2, h3⟩ := HO6.out
  refine (Of_purse hW (aat44 s a b)).mono ?_
  rintro e w7 ⟨rfl, hb⟩
  have HO7 : Hid (Own w w7 p (AM4 s a b)) := HO6.out.below hb
  clear HO6 hW h2 h3 hb
  go_wp2_with fail
  obtain ⟨F7, hW, h2, h3⟩ := HO7.out
  refine (Of_mint hW (aat41 s a b)).mono ?_
  rintro e w8 ⟨rfl, hb⟩
  have HO8 : Hid (Own w w8 p (AM4 s a b)) := HO7.out.below hb
  have Hh : Hid (0 ≤ s ∧ s < (AM4 s a b).made.length) := by
    have := (ahome Hs.out a).2.2.2
    show 0 ≤ s ∧ s < (AM4 s a b).made.length
    have e : (AM4 s a b).made.length = (AM3 s a).made.length := made_len (AM3 s a) (purseT s b 2)
    rw [e]
    exact this
  clear HO7 hW h2 h3 hb
  go_wp2_with fail
  obtain ⟨F8, hW, h2, h3⟩ := HO8.out
  refine (Move_W hW (aat43 s a b) (aat44 s a b) Hh.out Hh.out ⟨ha0, by omega⟩ ⟨hb0, by omega⟩).mono ?_
  rintro e w9 (⟨-, rfl, hb⟩ | ⟨-, hx, -⟩ | ⟨-, hx, -⟩)
  rotate_left
  · exact absurd hx (by decide)
  · exact absurd hx (by decide)
  have HO9 : Hid (Own w w9 p (AM4 s a b)) := HO8.out.below hb
  clear HO8 hW h2 h3 hb
  go_wp2_with fail
  obtain ⟨F9, hW, h2, h3⟩ := HO9.out
  refine (Move_W hW (aat43 s a b) (aat43 s a b) Hh.out Hh.out ⟨ha0, by omega⟩ ⟨ha0, by omega⟩).mono ?_
  rintro e w10 (⟨-, rfl, hb⟩ | ⟨hx, -⟩ | ⟨hx, -⟩)
  rotate_left
  · exact absurd rfl hx
  · exact absurd rfl hx
  have HO10 : Hid (Own w w10 p (AM4 s a b)) := HO9.out.below hb
  clear HO9 hW h2 h3 hb
  go_wp2_with fail
  obtain ⟨F10, hW, h2, h3⟩ := HO10.out
  refine (Move_mint hW (aat43 s a b) (aat41 s a b)).mono ?_
  rintro e w11 ⟨rfl, hb⟩
  have HO11 : Hid (Own w w11 p (AM4 s a b)) := HO10.out.below hb
  clear HO10 hW h2 h3 hb
  go_wp2_with fail
  obtain ⟨F11, hW, h2, h3⟩ := HO11.out
  refine (Home_W hW (r := 3) rfl).mono ?_
  rw [show (AM4 s a b).homeOf 3 = s from rfl, show (AM4 s a b).hasHome 3 = true from rfl]
  rintro e _ ⟨rfl, rfl⟩
  clear hW h2 h3
  go_wp2_with fail
  obtain ⟨F11, hW, h2, h3⟩ := HO11.out
  refine (Get_W hW (r := 3) rfl (aat43 s a b)).mono ?_
  rintro e w12 ⟨rfl, hb⟩
  have HO12 : Hid (Own w w12 p (AM4 s a b)) := HO11.out.below hb
  clear HO11 hW h2 h3 hb
  go_wp2_with fail
  obtain ⟨F12, hW, h2, h3⟩ := HO12.out
  refine (Get_W hW (r := 4) rfl (aat44 s a b)).mono ?_
  rintro e w13 ⟨rfl, hb⟩
  have HO13 : Hid (Own w w13 p (AM4 s a b)) := HO12.out.below hb
  clear HO12 hW h2 h3 hb
  go_wp2_with fail
  refine (lives10_W w13).mono ?_
  rintro e w14 ⟨rfl, hb⟩
  have HB14 : Hid (Below w.heap.size w w14) := by
    obtain ⟨F13, hW, h2, h3⟩ := HO13.out
    exact h3.trans (hb.mono h3.size)
  clear HO13 hb
  go_wp2_with fail
  go_ret
  exact ⟨rfl, HB14.out⟩
end Go.Proofs.Ytmefjkggibbhoaa
