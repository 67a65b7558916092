/- lives of posternlaw13: it is true. -/
import Derived.Test.YtmefjkggibbhoaaGreatTapD
import Derived.Test.YtmefjkggibbhoaaGreatNewW
import Derived.Test.YtmefjkggibbhoaaGreatLives
namespace Go.Proofs.YtmefjkggibbhoaaGreat
open Go.RowKit Go.ChangeMaps Go.MapKept

def TM1 : WM := (WM.new []).add (lt 1 0 0 0 0 0 0 0 0 false)
def TM2 : WM := (TM1.add (tallyT 0 0)).add (tapT 0 1 (TM1.last + 1))
def TM3 : WM := TM2.set 2 (tallyT 0 1)
theorem ttree : TreeOk [] := ⟨by decide, fun i p h => by simp at h⟩
theorem tths2 : TM2.things = [(1, lt 1 0 0 0 0 0 0 0 0 false), (2, tallyT 0 0), (3, tapT 0 1 2)] := rfl
theorem tths3 : TM3.things = [(1, lt 1 0 0 0 0 0 0 0 0 false), (2, tallyT 0 1), (3, tapT 0 1 2)] := rfl
theorem tlight1 : ∀ r t, TM1.at r = some t → Lite t := fun r t h => by
  have := at_mem h
  rw [show TM1.things = [(1, lt 1 0 0 0 0 0 0 0 0 false)] from rfl] at this
  simp only [List.mem_cons, List.not_mem_nil, or_false, Prod.mk.injEq] at this
  obtain ⟨-, rfl⟩ := this
  exact ⟨_, _, _, _, _, _, _, _, _, _, rfl, plain0⟩
theorem ttw {M : WM} {c : Int} (hths : M.things = [(1, lt 1 0 0 0 0 0 0 0 0 false), (2, tallyT 0 c), (3, tapT 0 1 2)]) (hm : M.made.length = 1) (hc : 0 ≤ c ∧ c ≤ 9007199254740992) : TW M := fun r t h hk => by
  have := at_mem h
  rw [hths] at this
  simp only [List.mem_cons, List.not_mem_nil, or_false, Prod.mk.injEq] at this
  rcases this with ⟨-, rfl⟩ | ⟨-, rfl⟩ | ⟨-, rfl⟩
  · cases hk
  · cases hk
  · refine ⟨0, 1, 2, 0, c, rfl, ?_, by rw [hm]; decide, hc⟩
    show M.things.lookup 2 = _
    rw [hths]
    rfl
theorem tway3 (M : WM) {c : Int} (hths : M.things = [(1, lt 1 0 0 0 0 0 0 0 0 false), (2, tallyT 0 c), (3, tapT 0 1 2)]) : WayIs M 3 [3, 1] ∧ WayIs M 1 [1] := by
  have h1 : M.at 1 = some (lt 1 0 0 0 0 0 0 0 0 false) := by
    show M.things.lookup 1 = _
    rw [hths]
    rfl
  have h3 : M.at 3 = some (tapT 0 1 2) := by
    show M.things.lookup 3 = _
    rw [hths]
    rfl
  have hw1 : WayIs M 1 [1] := WayIs.mk_base h1 rfl
  exact ⟨WayIs.mk_wrap h3 rfl hw1, hw1⟩
theorem tpass2 : TM2.pass [3, 1] = TM3 := by
  have h3 : TM2.at 3 = some (tapT 0 1 2) := rfl
  have h2 : TM2.at 2 = some (tallyT 0 0) := rfl
  show (TM2.cnt 3).cnt 1 = _
  rw [cnt_tap h3 h2]
  exact cnt_not (t := lt 1 0 0 0 0 0 0 0 0 false) rfl (by decide)
theorem tpass3 : TM3.pass [1] = TM3 := show TM3.cnt 1 = TM3 from cnt_not (t := lt 1 0 0 0 0 0 0 0 0 false) rfl (by decide)
theorem ttaps : TM3.tapsL [3, 1] = [3] := rfl

set_option maxHeartbeats 4000000 in
set_option maxRecDepth 8000 in
theorem lives13_W (w : World) : Calls Tryz.prog 7 #[] w fun e w' => e = .returned (.bool true) ∧ Below w.heap.size w w' := by
  go_enter Tryz.func7, Tryz.ntmps7
  go_wp2_with fail
  refine (New_W w none 0 [] (.inl rfl)).mono ?_
  rintro e w1 hpost
  obtain ⟨p, F, rfl, hW, hF, hb⟩ := (Or.resolve_right hpost (fun h => h.1 ttree)).2
  clear hpost
  have HO : Hid (Own w w1 p (WM.new [])) := ⟨F, hW, fun b h => hF b h, hb⟩
  clear hW hF hb
  go_wp2_with fail
  obtain ⟨F, hW, h2, h3⟩ := HO.out
  refine (Make_1 hW (by decide) (h := 0) (by decide) plain0).mono ?_
  rintro e w2 (⟨-, rfl, F', hW', hg⟩ | ⟨hx, -, -⟩)
  rotate_left
  · exact absurd (by decide) hx
  rw [makeM, if_neg (by simp)] at hW'
  have HO2 : Hid (Own w w2 p TM1) := Own.turn h2 h3 hW' hg
  clear HO hW h2 h3 hW' hg
  simp only [show (WM.new []).last + 1 = 1 from rfl]
  go_wp2_with fail
  obtain ⟨F2, hW, h2, h3⟩ := HO2.out
  refine (tMake_W hW tlight1 (by decide) (h := 0) (r := 1) (by decide) (by decide) (v := lt 1 0 0 0 0 0 0 0 0 false) rfl).mono ?_
  rintro e w3 ⟨rfl, F', hW', hg⟩
  have HO3 : Hid (Own w w3 p TM2) := Own.turn h2 h3 hW' hg
  clear HO2 hW h2 h3 hW' hg
  simp only [show TM1.last + 2 = 3 from rfl, show TM1.last + 1 = 2 from rfl]
  go_wp2_with fail
  obtain ⟨F3, hW, h2, h3⟩ := HO3.out
  refine (Pass_W hW (ttw tths2 rfl (by decide)) (tway3 TM2 tths2).1 (t0 := tapT 0 1 2) rfl).mono ?_
  rintro e w4 ⟨rfl, hW', hk⟩
  rw [tpass2] at hW'
  have HO4 : Hid (Own w w4 p TM3) := ⟨F3, hW', h2, h3.trans (Keeps.below hk h3.size h2)⟩
  clear HO3 hW h2 h3 hW' hk
  go_wp2_with fail
  obtain ⟨F4, hW, h2, h3⟩ := HO4.out
  refine (Pass_W hW (ttw tths3 rfl (by decide)) (tway3 TM3 tths3).2 (t0 := lt 1 0 0 0 0 0 0 0 0 false) rfl).mono ?_
  rintro e w5 ⟨rfl, hW', hk⟩
  rw [tpass3] at hW'
  have HO5 : Hid (Own w w5 p TM3) := ⟨F4, hW', h2, h3.trans (Keeps.below hk h3.size h2)⟩
  clear HO4 hW h2 h3 hW' hk
  go_wp2_with fail
  obtain ⟨F5, hW, h2, h3⟩ := HO5.out
  refine (Count_tap hW (r := 3) (h := 0) (tg := 1) (n := 2) (h' := 0) (c := 1) rfl rfl).mono ?_
  rintro e w6 ⟨rfl, hb⟩
  have HO6 : Hid (Own w w6 p TM3) := HO5.out.below hb
  clear HO5 hW h2 h3 hb
  go_wp2_with fail
  obtain ⟨F6, hW, h2, h3⟩ := HO6.out
  refine (Count_not hW (r := 1) (k := 1) (h := 0) (vk := 0) (vn := 0) (n := 0) (l := 0) (tg := 0) (bi := 0) (s := 0) (fu := false) rfl plain0 (by decide)).mono ?_
  rintro e w7 ⟨rfl, hb⟩
  have HO7 : Hid (Own w w7 p TM3) := HO6.out.below hb
  clear HO6 hW h2 h3 hb
  go_wp2_with fail
  obtain ⟨F7, hW, h2, h3⟩ := HO7.out
  refine (Taps_W hW (tway3 TM3 tths3).1 (t0 := tapT 0 1 2) rfl).mono ?_
  rw [ttaps]
  rintro e w8 ⟨v, rfl, hrow, hb⟩
  obtain ⟨a, cap, rfl, hcells⟩ := way_cells hrow
  obtain ⟨g, rfl, -, -, hc⟩ := hcells 0 (by decide)
  have hc : w8.cell? ⟨g, 0, none⟩ = some (.int .i64 3) := hc
  have HB8 : Hid (Below w.heap.size w w8) := h3.trans (hb.mono h3.size)
  clear HO7 hW h2 h3 hb hcells hrow
  go_wp2_with fail
  go_ret
  exact ⟨rfl, HB8.out⟩
end Go.Proofs.YtmefjkggibbhoaaGreat
