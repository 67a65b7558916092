/- TapMany: the walk. -/
import Derived.Test.YtmefjkggibbhoaaWith
import Derived.Test.YtmefjkggibbhoaaLives13
namespace Go.Proofs.Ytmefjkggibbhoaa
open Go.RowKit Go.ChangeMaps Go.MapKept

def NM1 : WM := (WM.new []).add (lt 1 0 0 0 0 0 0 0 0 false)
def NM2 : WM := NM1.add (tallyT 0 9007199254740991)
def NM3 : WM := NM2.add (tapT 0 1 2)
def NM4 : WM := NM3.add (tapT 0 3 2)
def NM5 : WM := NM4.set 2 (tallyT 0 9007199254740992)
theorem nths4 : NM4.things = [(1, lt 1 0 0 0 0 0 0 0 0 false), (2, tallyT 0 9007199254740991), (3, tapT 0 1 2), (4, tapT 0 3 2)] := rfl
theorem nths5 : NM5.things = [(1, lt 1 0 0 0 0 0 0 0 0 false), (2, tallyT 0 9007199254740992), (3, tapT 0 1 2), (4, tapT 0 3 2)] := rfl
theorem ntw : TW NM4 := fun r t h hk => by
  have := at_mem h
  rw [nths4] at this
  simp only [List.mem_cons, List.not_mem_nil, or_false, Prod.mk.injEq] at this
  rcases this with ⟨-, rfl⟩ | ⟨-, rfl⟩ | ⟨-, rfl⟩ | ⟨-, rfl⟩
  · cases hk
  · cases hk
  · exact ⟨0, 1, 2, 0, 9007199254740991, rfl, rfl, by decide, by decide⟩
  · exact ⟨0, 3, 2, 0, 9007199254740991, rfl, rfl, by decide, by decide⟩
theorem nlite : ∀ r t, NM5.at r = some t → Lite t := fun r t h => by
  have := at_mem h
  rw [nths5] at this
  simp only [List.mem_cons, List.not_mem_nil, or_false, Prod.mk.injEq] at this
  rcases this with ⟨-, rfl⟩ | ⟨-, rfl⟩ | ⟨-, rfl⟩ | ⟨-, rfl⟩ <;> exact ⟨_, _, _, _, _, _, _, _, _, _, rfl, plain0⟩
theorem nway : WayIs NM4 4 [4, 3, 1] := WayIs.mk_wrap (t := tapT 0 3 2) rfl rfl (WayIs.mk_wrap (t := tapT 0 1 2) rfl rfl (WayIs.mk_base (t := lt 1 0 0 0 0 0 0 0 0 false) rfl rfl))
theorem nset (c : Int) : (NM4.set 2 (tallyT 0 c)).set 2 (tallyT 0 9007199254740992) = NM5 := rfl
theorem npass : NM4.pass [4, 3, 1] = NM5 := by
  show ((NM4.cnt 4).cnt 3).cnt 1 = _
  have h4 : NM4.at 4 = some (tapT 0 3 2) := rfl
  have h2 : NM4.at 2 = some (tallyT 0 9007199254740991) := rfl
  rw [cnt_tap h4 h2]
  have e1 : up 9007199254740991 = 9007199254740992 := by decide
  rw [e1]
  have h3 : (NM4.set 2 (tallyT 0 9007199254740992)).at 3 = some (tapT 0 1 2) := rfl
  have h2' : (NM4.set 2 (tallyT 0 9007199254740992)).at 2 = some (tallyT 0 9007199254740992) := rfl
  rw [cnt_tap h3 h2']
  have e2 : up 9007199254740992 = 9007199254740992 := by decide
  rw [e2, nset]
  exact cnt_not (t := lt 1 0 0 0 0 0 0 0 0 false) rfl (by decide)

/-- k logs beside. -/
structure TManyAt (M : WM) (k : Nat) : Prop where
  at1 : M.at 1 = some (lt 1 0 0 0 0 0 0 0 0 false)
  at2 : M.at 2 = some (tallyT 0 9007199254740992)
  last : M.last = k + 4
  mlen : M.made.length = 1
  made : M.made.getD 0 0 = k + 4
  len : M.things.length = k + 4
  lite : ∀ r t, M.at r = some t → Lite t
theorem TManyAt.start : TManyAt NM5 0 := ⟨rfl, rfl, rfl, rfl, rfl, rfl, nlite⟩
theorem TManyAt.add {M : WM} {k : Nat} (hM : M.ok) (h : TManyAt M k) : TManyAt (M.add (lt 2 0 0 0 0 0 0 0 0 false)) (k + 1) where
  at1 := WM.add_at_old hM _ h.at1
  at2 := WM.add_at_old hM _ h.at2
  last := by
    have := h.last
    show M.last + 1 = _
    omega
  mlen := (made_len M _).trans h.mlen
  made := by
    have h1 := h.made
    have h2 := h.mlen
    show (M.made.set 0 (M.made.getD 0 0 + 1)).getD 0 0 = _
    rw [List.getD_eq_getElem?_getD, List.getElem?_set_self (by omega)]
    simp only [Option.getD_some]
    omega
  len := by
    have := h.len
    show (M.things ++ [_]).length = _
    simp [this]
  lite := fun r t ht => by
    rw [WM.add_at hM] at ht
    split at ht
    · cases ht
      exact ⟨_, _, _, _, _, _, _, _, _, _, rfl, plain0⟩
    · exact h.lite r t ht
theorem TManyAt.made_W {w : World} {p : Nat} {M : WM} {F : Nat → Prop} {k : Nat} (hW : IsW w p M F) (H : TManyAt M k) :
    Calls Try.prog 25 #[.pointer (some ⟨p, 0, none⟩), .int .i64 0] w fun e w' => e = .returned (.int .i64 ((k : Int) + 4)) ∧ w = w' := by
  have := Made_W hW 0
  rw [if_pos (sideB_iff.2 ⟨Int.le_refl _, by rw [H.mlen]; decide⟩), show (0 : Int).toNat = 0 from rfl, H.made] at this
  exact this

set_option maxHeartbeats 4000000 in
set_option maxRecDepth 100000 in
theorem tmany_W (w : World) : Calls Try.prog 7 #[] w fun e w' => e = .returned (.bool true) ∧ Below w.heap.size w w' := by
  go_enter Try.func7, Try.ntmps7
  go_wp2_with fail
  refine (New_W w none 0 [] (.inl rfl)).mono ?_
  rintro e w1 hpost
  obtain ⟨p, F, rfl, hW, hF, hb⟩ := (Or.resolve_right hpost (fun h => h.1 ttree)).2
  clear hpost
  have HO : Hid (Own w w1 p (WM.new [])) := ⟨F, hW, fun b h => hF b h, hb⟩
  clear hW hF hb
  go_wp2_with fail
  obtain ⟨F, hW, h2, h3⟩ := HO.out
  refine (Make_1 hW (by decide) (h := 0) (by decide) plain0).mono ?_
  rintro e w2 (⟨-, rfl, F', hW', hg⟩ | ⟨hx, -, -⟩)
  rotate_left
  · exact absurd (by decide) hx
  rw [makeM, if_neg (by simp)] at hW'
  have HO2 : Hid (Own w w2 p NM1) := Own.turn h2 h3 hW' hg
  clear HO hW h2 h3 hW' hg
  simp only [show (WM.new []).last + 1 = 1 from rfl]
  go_wp2_with fail
  obtain ⟨F, hW, h2, h3⟩ := HO2.out
  refine (Make_3 hW (by decide) (h := 0) (by decide) (n := 9007199254740991) (by decide)).mono ?_
  rintro e w3 (⟨-, rfl, F', hW', hg⟩ | ⟨hx, -, -⟩)
  rotate_left
  · exact absurd (by decide) hx
  rw [makeM, if_neg (by simp)] at hW'
  have HO3 : Hid (Own w w3 p NM2) := Own.turn h2 h3 hW' hg
  clear HO2 hW h2 h3 hW' hg
  simp only [show NM1.last + 1 = 2 from rfl]
  go_wp2_with fail
  obtain ⟨F, hW, h2, h3⟩ := HO3.out
  refine (With_W hW (by decide) (h := 0) (r := 1) (n := 2) (c := 9007199254740991) (by decide) (by decide) (v := lt 1 0 0 0 0 0 0 0 0 false) rfl rfl).mono ?_
  rintro e w4 hm
  obtain ⟨rfl, F', hW', hg⟩ := hm.out
  have HO4 : Hid (Own w w4 p NM3) := Own.turn h2 h3 hW' hg
  clear HO3 hW h2 h3 hW' hg hm
  simp only [show NM2.last + 1 = 3 from rfl]
  go_wp2_with fail
  obtain ⟨F, hW, h2, h3⟩ := HO4.out
  refine (With_W hW (by decide) (h := 0) (r := 3) (n := 2) (c := 9007199254740991) (by decide) (by decide) (v := tapT 0 1 2) rfl rfl).mono ?_
  rintro e w5 hm
  obtain ⟨rfl, F', hW', hg⟩ := hm.out
  have HO5 : Hid (Own w w5 p NM4) := Own.turn h2 h3 hW' hg
  clear HO4 hW h2 h3 hW' hg hm
  simp only [show NM3.last + 1 = 4 from rfl]
  go_wp2_with fail
  obtain ⟨F, hW, h2, h3⟩ := HO5.out
  refine (Pass_W hW ntw nway (t0 := tapT 0 3 2) rfl).mono ?_
  rintro e w6 ⟨rfl, hW', hk⟩
  rw [npass] at hW'
  have HO6 : Hid (Own w w6 p NM5) := ⟨F, hW', h2, h3.trans (Keeps.below hk h3.size h2)⟩
  clear HO5 hW h2 h3 hW' hk
  go_wp2_with fail
  obtain ⟨F, hW, h2, h3⟩ := HO6.out
  refine (Count_tap hW (r := 3) (h := 0) (tg := 1) (n := 2) (h' := 0) (c := 9007199254740992) rfl rfl).mono ?_
  rintro e w7 ⟨rfl, hb⟩
  have HO7 : Hid (Own w w7 p NM5) := HO6.out.below hb
  clear HO6 hW h2 h3 hb
  have HA0 := (show Hid _ from TManyAt.start)
  go_wp2_with fail
  go_loopw [13] (fun vi wr => ∃ (k : Nat) (M : WM), vi = .int .i64 k ∧ k ≤ 507 ∧ Hid (TManyAt M k) ∧ Hid (Own w wr p M)) (fun vi _ => 507 - (intOf vi).toNat)
  case atStart => exact ⟨0, NM5, rfl, by omega, HA0, HO7⟩
  case round =>
    clear HO7 HA0
    obtain ⟨k, M, rfl, hk, HA, HO⟩ := hrel
    obtain ⟨F, hW, h2, h3⟩ := HO.out
    have HM := (show Hid _ from TManyAt.made_W hW HA.out)
    have h600 : (k : Int) < 600 := by omega
    clear hW h2 h3
    by_cases hkm : k < 507
    · have hlt : (k : Int) + 4 < 511 := by omega
      go_wp2_with fail
      refine Calls.mono HM.out ?_
      rintro e _ ⟨rfl, rfl⟩
      go_wp2_with fail
      obtain ⟨F, hW, h2, h3⟩ := HO.out
      refine (Make_2 hW (by rw [HA.out.last]; omega) (h := 0) ⟨by omega, by rw [HA.out.mlen]; omega⟩).mono ?_
      rintro e w9 (⟨-, rfl, F', hW', hg⟩ | ⟨hx, -, -⟩)
      rotate_left
      · exact absurd (show M.made.getD (0 : Int).toNat 0 < 512 by show M.made.getD 0 0 < 512; rw [HA.out.made]; omega) hx
      rw [makeM, if_neg (by simp)] at hW'
      have HO9 : Hid (Own w w9 p (M.add (lt 2 0 0 0 0 0 0 0 0 false))) := Own.turn h2 h3 hW' hg
      have HA9 := (show Hid _ from TManyAt.add hW.ok HA.out)
      clear HO HA HM hW h2 h3 hW' hg
      go_wp2_with fail
      go_roundw
      case rel => exact ⟨k + 1, _, by go_num, by omega, HA9, HO9⟩
      case measure => simp [intOf]; omega
    · obtain rfl : k = 507 := by omega
      have hlt : ¬ (((507 : Nat) : Int) + 4 < 511) := by omega
      go_wp2_with fail
      refine Calls.mono HM.out ?_
      rintro e _ ⟨rfl, rfl⟩
      have HB : Hid (M.last = 511 ∧ M.made.length = 1 ∧ M.made.getD 0 0 = 511 ∧ M.things.length = 511) := ⟨HA.out.last, HA.out.mlen, HA.out.made, HA.out.len⟩
      have HC : Hid (M.at 1 = some (lt 1 0 0 0 0 0 0 0 0 false) ∧ M.at 2 = some (tallyT 0 9007199254740992) ∧ ∀ r t, M.at r = some t → Lite t) := ⟨HA.out.at1, HA.out.at2, HA.out.lite⟩
      clear HM HA hlt h600 hk hkm
      go_wp2_with fail
      obtain ⟨F, hW, h2, h3⟩ := HO.out
      have hL := Len_W hW
      rw [HB.out.2.2.2] at hL
      refine hL.mono ?_
      rintro e _ ⟨rfl, rfl⟩
      clear hL hW h2 h3
      go_wp2_with fail
      obtain ⟨F, hW, h2, h3⟩ := HO.out
      refine (tMake_full hW HC.out.2.2 (by rw [HB.out.1]; decide) (h := 0) (r := 1) ⟨by omega, by rw [HB.out.2.1]; omega⟩ HB.out.2.2.1 HC.out.1).mono ?_
      rintro e w9 ⟨rfl, F', hW', hg⟩
      have HO9 : Hid (Own w w9 p M) := Own.turn h2 h3 hW' hg
      clear HO hW h2 h3 hW' hg
      go_wp2_with fail
      obtain ⟨F, hW, h2, h3⟩ := HO9.out
      refine (With_W hW (by rw [HB.out.1]; decide) (h := 0) (r := 1) (n := 2) (c := 9007199254740992) ⟨by omega, by rw [HB.out.2.1]; omega⟩ (show M.made.getD 0 0 < 512 by rw [HB.out.2.2.1]; decide) HC.out.1 HC.out.2.1).mono ?_
      rintro e w10 hm
      obtain ⟨rfl, F', hW', hg⟩ := hm.out
      have HO10 : Hid (Own w w10 p (M.add (tapT 0 1 2))) := Own.turn h2 h3 hW' hg
      have HD : Hid ((M.add (tapT 0 1 2)).last = 512 ∧ (M.add (tapT 0 1 2)).made.length = 1 ∧ (M.add (tapT 0 1 2)).made.getD 0 0 = 512 ∧ (M.add (tapT 0 1 2)).things.length = 512 ∧ (M.add (tapT 0 1 2)).at 1 = some (lt 1 0 0 0 0 0 0 0 0 false) ∧ (M.add (tapT 0 1 2)).at 2 = some (tallyT 0 9007199254740992)) := by
        obtain ⟨b1, b2, b3, b4⟩ := HB.out
        refine ⟨by show M.last + 1 = _; omega, (made_len M _).trans b2, ?_, ?_, WM.add_at_old hW.ok _ HC.out.1, WM.add_at_old hW.ok _ HC.out.2.1⟩
        · show (M.made.set 0 (M.made.getD 0 0 + 1)).getD 0 0 = _
          rw [List.getD_eq_getElem?_getD, List.getElem?_set_self (by omega), b3]
          rfl
        · show (M.things ++ [_]).length = _
          simp [b4]
      have hlast : M.last + 1 = 512 := by have := HB.out.1; omega
      rw [hlast]
      clear HO9 hW h2 h3 hW' hg hm HB HC hlast
      revert HO10 HD
      generalize M.add (tapT 0 1 2) = M2
      intro HO10 HD
      go_wp2_with fail
      obtain ⟨F, hW, h2, h3⟩ := HO10.out
      refine (With_no hW (by rw [HD.out.1]; decide) (h := 0) (r := 1) (n := 2) (c := 9007199254740992) ⟨by omega, by rw [HD.out.2.1]; omega⟩ (show ¬ M2.made.getD 0 0 < 512 by rw [HD.out.2.2.1]; decide) HD.out.2.2.2.2.1 HD.out.2.2.2.2.2).mono ?_
      rintro e w11 hm
      obtain ⟨rfl, hb⟩ := hm.out
      have HO11 : Hid (Own w w11 p M2) := HO10.out.below hb
      clear HO10 hW h2 h3 hb hm
      go_wp2_with fail
      obtain ⟨F, hW, h2, h3⟩ := HO11.out
      have hL := Len_W hW
      rw [HD.out.2.2.2.1] at hL
      refine hL.mono ?_
      rintro e _ ⟨rfl, rfl⟩
      clear hL hW h2 h3
      go_wp2_with fail
      refine (lives13_W w11).mono ?_
      rintro e w12 ⟨rfl, hb⟩
      have HB12 : Hid (Below w.heap.size w w12) := by
        obtain ⟨F, -, -, h3⟩ := HO11.out
        exact h3.trans (hb.mono h3.size)
      clear hb HO11
      go_wp2_with fail
      go_ret
      exact ⟨rfl, HB12.out⟩
end Go.Proofs.Ytmefjkggibbhoaa
