/- PurseMany: the walk. -/
import Derived.Test.YtmefjkggibbhoaaBk
import Derived.Test.YtmefjkggibbhoaaLives10
namespace Go.Proofs.Ytmefjkggibbhoaa
open Go.RowKit Go.ChangeMaps Go.MapKept

theorem ytree : TreeOk [0] := ⟨by decide, fun i p h => by
  match i, h with
  | 0, h => simp at h; omega⟩
theorem Bk.start1 : Bk (makeM (WM.new [0]) (mintT 1 0 0)) 1 0 [] where
  things := rfl
  last := rfl
  home := by decide
  made := rfl
  nn x hx := by cases hx
  sum := rfl
  le := by decide
/-- k purses of 1 have been taken. -/
def ManyAt (M : WM) (k : Nat) (b : List Int) : Prop := Bk M 1 9007199254740992 b ∧ b.length = k + 2 ∧ b[0]? = some (9007199254740992 - (k : Int))
theorem ManyAt.take {M : WM} {k : Nat} {b : List Int} (h : ManyAt M k b) (hk : k < 509) :
    ManyAt ((M.add (purseT 1 1 1)).set 2 (purseT 1 (9007199254740992 - (k : Int) - 1) 1)) (k + 1) ((b.set 0 (9007199254740992 - (k : Int) - 1)) ++ [1]) := by
  obtain ⟨h1, h2, h3⟩ := h
  refine ⟨h1.take (i := 0) h3 (by omega), by simp [h2], ?_⟩
  rw [List.getElem?_append_left (by simp; omega), List.getElem?_set_self (by omega)]
  exact congrArg some (by omega)
theorem Bk.made_W {w : World} {p : Nat} {M : WM} {F : Nat → Prop} {h S : Int} {b : List Int} (hW : IsW w p M F) (H : Bk M h S b) :
    Calls Try.prog 25 #[.pointer (some ⟨p, 0, none⟩), .int .i64 h] w fun e w' => e = .returned (.int .i64 ((b.length : Int) + 1)) ∧ w = w' := by
  have := Made_W hW h
  rw [if_pos (sideB_iff.2 H.home), H.made] at this
  exact this

set_option maxHeartbeats 4000000 in
set_option maxRecDepth 100000 in
theorem many_W (w : World) : Calls Try.prog 12 #[] w fun e w' => e = .returned (.bool true) ∧ Below w.heap.size w w' := by
  go_enter Try.func12, Try.ntmps12
  go_wp2_with fail
  refine (New_W _ _ 1 [0] (.inr ⟨w.heap.size, 0, rfl, fun j x hx => ?_⟩)).mono ?_
  · rw [cell_blk (blk_new w _)]
    match j, hx with
    | 0, hx => simpa using hx
  rintro e w1 hpost
  obtain ⟨p, F, rfl, hW, hF, hb⟩ := (Or.resolve_right hpost (fun h => h.1 ytree)).2
  clear hpost
  have HO : Hid (Own w w1 p (WM.new [0])) := ⟨F, hW, fun b h => by have := hF b h; simp at this; omega, ((Below.refl _ _).alloc (Nat.le_refl _) _).trans (hb.mono (by simp))⟩
  clear hW hF hb
  go_wp2_with fail
  obtain ⟨F, hW, h2, h3⟩ := HO.out
  refine (Mint_W hW (by decide) (h := 1) (by decide)).mono ?_
  rintro e w2 (⟨-, rfl, F', hW', hg⟩ | ⟨hx, -, -⟩)
  rotate_left
  · exact absurd (by decide) hx
  have HO2 : Hid (Own w w2 p (makeM (WM.new [0]) (mintT 1 0 0))) := Own.turn h2 h3 hW' hg
  have HB2 := (show Hid _ from Bk.start1)
  clear HO hW h2 h3 hW' hg
  simp only [show (WM.new [0]).last + 1 = 1 from rfl]
  revert HO2 HB2
  generalize makeM (WM.new [0]) (mintT 1 0 0) = M2
  intro HO2 HB2
  go_wp2_with fail
  obtain ⟨F2, hW, h2, h3⟩ := HO2.out
  refine (Ask_W hW (r := 1) rfl (by rw [HB2.out.last]; decide) HB2.out.home HB2.out.mint (by decide) (by decide) (n := 9007199254740989)).mono ?_
  rintro e w3 (⟨hx, -⟩ | ⟨hx, -⟩ | ⟨-, hx, -⟩ | ⟨-, -, rfl, F', hW', hg⟩)
  · exact absurd hx (by decide)
  · exact absurd hx (by decide)
  · exact absurd (by rw [HB2.out.made]; decide) hx
  rw [show M2.last + 1 = 2 by rw [HB2.out.last]; rfl]
  have HO3 : Hid (Own w w3 p _) := Own.turn h2 h3 hW' hg
  have HB3 := (show Hid _ from HB2.out.ask (n := 9007199254740989) (by decide) (by decide))
  clear HO2 HB2 hW h2 h3 hW' hg
  revert HO3 HB3
  generalize (M2.add _).set _ _ = M3
  rw [show (0 : Int) + 9007199254740989 = 9007199254740989 from rfl]
  intro HO3 HB3
  have HB3 : Hid (Bk M3 1 9007199254740989 [9007199254740989]) := HB3
  go_wp2_with fail
  obtain ⟨F3, hW, h2, h3⟩ := HO3.out
  refine (Ask_W hW (r := 1) rfl (by rw [HB3.out.last]; decide) HB3.out.home HB3.out.mint (by decide) (by decide) (n := 4)).mono ?_
  rintro e w4 (⟨hx, -⟩ | ⟨-, rfl, hb⟩ | ⟨hx, -⟩ | ⟨hx, -⟩)
  · exact absurd hx (by decide)
  rotate_left
  · exact absurd hx (by decide)
  · exact absurd hx (by decide)
  have HO4 : Hid (Own w w4 p M3) := HO3.out.below hb
  clear HO3 hW h2 h3 hb
  go_wp2_with fail
  obtain ⟨F4, hW, h2, h3⟩ := HO4.out
  refine (Ask_W hW (r := 1) rfl (by rw [HB3.out.last]; decide) HB3.out.home HB3.out.mint (by decide) (by decide) (n := 3)).mono ?_
  rintro e w5 (⟨hx, -⟩ | ⟨hx, -⟩ | ⟨-, hx, -⟩ | ⟨-, -, rfl, F', hW', hg⟩)
  · exact absurd hx (by decide)
  · exact absurd hx (by decide)
  · exact absurd (by rw [HB3.out.made]; decide) hx
  rw [show M3.last + 1 = 3 by rw [HB3.out.last]; rfl]
  have HO5 : Hid (Own w w5 p _) := Own.turn h2 h3 hW' hg
  have HB5 := (show Hid _ from HB3.out.ask (n := 3) (by decide) (by decide))
  clear HO4 HB3 hW h2 h3 hW' hg
  revert HO5 HB5
  generalize (M3.add _).set _ _ = M5
  rw [show (9007199254740989 : Int) + 3 = 9007199254740992 from rfl]
  intro HO5 HB5
  have HB5 : Hid (Bk M5 1 9007199254740992 [9007199254740989, 3]) := HB5
  go_wp2_with fail
  obtain ⟨F5, hW, h2, h3⟩ := HO5.out
  refine (Ask_W hW (r := 1) rfl (by rw [HB5.out.last]; decide) HB5.out.home HB5.out.mint (by decide) (by decide) (n := 1)).mono ?_
  rintro e w6 (⟨hx, -⟩ | ⟨-, rfl, hb⟩ | ⟨hx, -⟩ | ⟨hx, -⟩)
  · exact absurd hx (by decide)
  rotate_left
  · exact absurd hx (by decide)
  · exact absurd hx (by decide)
  have HO6 : Hid (Own w w6 p M5) := HO5.out.below hb
  clear HO5 hW h2 h3 hb
  go_wp2_with fail
  obtain ⟨F6, hW, h2, h3⟩ := HO6.out
  refine (Move_W hW (HB5.out.purse (i := 0) rfl) (HB5.out.purse (i := 1) rfl) HB5.out.home HB5.out.home (by decide) (by decide)).mono ?_
  rintro e w7 (⟨hx, -⟩ | ⟨-, -, hx, -⟩ | ⟨-, -, -, rfl, hW', hk⟩)
  · exact absurd hx (by decide)
  · exact absurd hx (by decide)
  have HO7 : Hid (Own w w7 p _) := ⟨F6, hW', h2, h3.trans (Keeps.below hk h3.size h2)⟩
  have HB7 := (show Hid _ from HB5.out.move (i := 0) (j := 1) (by decide) rfl rfl)
  clear HO6 HB5 hW h2 h3 hW' hk
  revert HO7 HB7
  generalize (M5.set _ _).set _ _ = M7
  intro HO7 HB7
  have HB7 : Hid (ManyAt M7 0 [9007199254740992, 0]) := ⟨HB7.out, rfl, rfl⟩
  go_wp2_with fail
  obtain ⟨F7, hW, h2, h3⟩ := HO7.out
  refine (Get_W hW (r := 2) rfl (HB7.out.1.purse (i := 0) rfl)).mono ?_
  rintro e w8 ⟨rfl, hb⟩
  have HO8 : Hid (Own w w8 p M7) := HO7.out.below hb
  clear HO7 hW h2 h3 hb
  go_wp2_with fail
  go_loopw [16] (fun vi wr => ∃ (k : Nat) (M : WM) (b : List Int), vi = .int .i64 k ∧ k ≤ 509 ∧ Hid (ManyAt M k b) ∧ Hid (Own w wr p M)) (fun vi _ => 509 - (intOf vi).toNat)
  case atStart => exact ⟨0, M7, _, rfl, by omega, HB7, HO8⟩
  case round =>
    clear HO8 HB7
    obtain ⟨k, M, b, rfl, hk, HA, HO⟩ := hrel
    obtain ⟨F, hW, h2, h3⟩ := HO.out
    have hm := Bk.made_W hW HA.out.1
    rw [show (b.length : Int) + 1 = (k : Int) + 3 by rw [HA.out.2.1]; omega] at hm
    have HM := (show Hid _ from hm)
    have h600 : (k : Int) < 600 := by omega
    clear hW h2 h3 hm
    by_cases hkm : k < 509
    · have hlt : (k : Int) + 3 < 512 := by omega
      go_wp2_with fail
      refine Calls.mono HM.out ?_
      rintro e _ ⟨rfl, rfl⟩
      go_wp2_with fail
      obtain ⟨F, hW, h2, h3⟩ := HO.out
      refine (Take_W hW (r := 2) rfl (by rw [HA.out.1.last]; have := HA.out.2.1; omega) HA.out.1.home (HA.out.1.purse (i := 0) HA.out.2.2) HA.out.1.mint ⟨by omega, by omega⟩ (n := 1)).mono ?_
      rintro e w9 (⟨hx, -⟩ | ⟨hx, -⟩ | ⟨-, hx, -⟩ | ⟨-, -, rfl, F', hW', hg⟩)
      · exact absurd hx (by decide)
      · omega
      · exact absurd (by rw [HA.out.1.made]; have := HA.out.2.1; omega) hx
      have HO9 : Hid (Own w w9 p _) := Own.turn h2 h3 hW' hg
      have HA9 := (show Hid _ from HA.out.take hkm)
      clear HO HA HM hW h2 h3 hW' hg
      go_wp2_with fail
      go_roundw
      case rel => exact ⟨k + 1, _, _, by go_num, by omega, HA9, HO9⟩
      case measure => simp [intOf]; omega
    · obtain rfl : k = 509 := by omega
      have hlt : ¬ (((509 : Nat) : Int) + 3 < 512) := by omega
      go_wp2_with fail
      refine Calls.mono HM.out ?_
      rintro e _ ⟨rfl, rfl⟩
      have hN : (9007199254740992 : Int) - ((509 : Nat) : Int) = 9007199254740483 := rfl
      have HA2 : Hid (Bk M 1 9007199254740992 b ∧ b.length = 511 ∧ b[0]? = some 9007199254740483) := by
        obtain ⟨a1, a2, a3⟩ := HA.out
        rw [hN] at a3
        exact ⟨a1, a2, a3⟩
      clear hN HA
      go_wp2_with fail
      obtain ⟨F, hW, h2, h3⟩ := HO.out
      refine (Take_W hW (r := 2) rfl (by rw [HA2.out.1.last]; have := HA2.out.2.1; omega) HA2.out.1.home (HA2.out.1.purse (i := 0) HA2.out.2.2) HA2.out.1.mint (by decide) (n := 0)).mono ?_
      rintro e w9 (⟨hx, -⟩ | ⟨hx, -⟩ | ⟨-, -, rfl, hb⟩ | ⟨-, hx, -⟩)
      · exact absurd hx (by decide)
      · exact absurd hx (by decide)
      rotate_left
      · exact absurd hx (by rw [HA2.out.1.made]; have := HA2.out.2.1; omega)
      have HO9 : Hid (Own w w9 p M) := HO.out.below hb
      clear HO hW h2 h3 hb
      go_wp2_with fail
      obtain ⟨F, hW, h2, h3⟩ := HO9.out
      refine (Ask_W hW (r := 1) rfl (by rw [HA2.out.1.last]; have := HA2.out.2.1; omega) HA2.out.1.home HA2.out.1.mint (by decide) (by decide) (n := 0)).mono ?_
      rintro e w10 (⟨hx, -⟩ | ⟨hx, -⟩ | ⟨-, -, rfl, hb⟩ | ⟨-, hx, -⟩)
      · exact absurd hx (by decide)
      · exact absurd hx (by decide)
      rotate_left
      · exact absurd hx (by rw [HA2.out.1.made]; have := HA2.out.2.1; omega)
      have HO10 : Hid (Own w w10 p M) := HO9.out.below hb
      clear HO9 hW h2 h3 hb
      go_wp2_with fail
      obtain ⟨F, hW, h2, h3⟩ := HO10.out
      refine (Get_W hW (r := 2) rfl (HA2.out.1.purse (i := 0) HA2.out.2.2)).mono ?_
      rintro e w11 ⟨rfl, hb⟩
      have HO11 : Hid (Own w w11 p M) := HO10.out.below hb
      clear HO10 hW h2 h3 hb
      go_wp2_with fail
      obtain ⟨F, hW, h2, h3⟩ := HO11.out
      refine (Check_W hW HA2.out.1.pur HA2.out.1.mints).mono ?_
      rintro e w12 ⟨rfl, hb⟩
      have HO12 : Hid (Own w w12 p M) := HO11.out.below hb
      clear HO11 hW h2 h3 hb
      go_wp2_with fail
      refine (lives10_W w12).mono ?_
      rintro e w13 ⟨rfl, hb⟩
      have HB13 : Hid (Below w.heap.size w w13) := by
        obtain ⟨F, -, -, h3⟩ := HO12.out
        exact h3.trans (hb.mono h3.size)
      clear HO12 hb
      go_wp2_with fail
      go_ret
      exact ⟨rfl, HB13.out⟩
end Go.Proofs.Ytmefjkggibbhoaa
