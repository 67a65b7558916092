/- A part of the proof, several texts in one: SameW, Lives10. -/
import Derived.Test.YtmefjkggibbhoaaGreatmAX
import Derived.Test.YtmefjkggibbhoaaGreatmAP
import Derived.Test.YtmefjkggibbhoaaGreatmAU
import Derived.Test.YtmefjkggibbhoaaGreatmAL
import Derived.Test.YtmefjkggibbhoaaGreatmAO
/- world.Same of two worlds that are the same: it says yes. -/
namespace Go.Proofs.YtmefjkggibbhoaaGreat
open Go.RowKit Go.ChangeMaps Go.MapKept

theorem setRow_other (W : World) {a b : Nat} (h : b ≠ a) (xs : Array Value) : (W.setRow a xs).heap[b]? = W.heap[b]? := by
  simp [World.setRow, Array.getElem?_modify, Ne.symm h]
theorem boxed_aw (w1 : World) (xs : Array Value) (hs : xs.size = 5) (h1 : xs.all (·.oneCell') = true) :
    ∃ w2, (stA (.pointer (some ⟨w1.heap.size, 0, none⟩)) (.agg xs)).run Tryz.prog ((w1.alloc (.cells #[.slice none 0 0, .slice none 0 0, .slice none 0 0, .int .i64 0, .slice none 0 0] 112)).alloc (.cells #[.slice none 0 0, .slice none 0 0, .slice none 0 0, .int .i64 0, .slice none 0 0] 112)) = .ok .skip w2 ∧
      Below w1.heap.size w1 w2 ∧ w2.heap[w1.heap.size]? = some (.cells xs 112 (0, 0)) ∧ w2.heap[w1.heap.size + 1]? = some (.cells #[.slice none 0 0, .slice none 0 0, .slice none 0 0, .int .i64 0, .slice none 0 0] 112 (0, 0)) :=
  ⟨_, storeA_blk (blk2_old w1 _ _) rfl hs h1, Below.setRow (((Below.refl _ _).alloc (Nat.le_refl _) _).alloc (by simp) _) (Nat.le_refl _) _, heap_setRow_at (blk2_old w1 _ _), (setRow_other _ (by omega) xs).trans (blk2_new w1 _ _)⟩

set_option maxHeartbeats 4000000 in
set_option maxRecDepth 100000 in
theorem Same_W {w : World} {p q : Nat} {M : WM} {F G : Nat → Prop} (hW : IsW w p M F) (hV : IsW w q M G) (light : ∀ r t, M.at r = some t → Lite t) (hsm : M.things.length ≤ 1000000) :
    Calls Tryz.prog 21 #[.pointer (some ⟨p, 0, none⟩), .pointer (some ⟨q, 0, none⟩)] w fun e w' => e = .returned (.bool true) ∧ Below w.heap.size w w' := by
  have HW := (show Hid (IsW w p M F) from hW)
  have HV := (show Hid (IsW w q M G) from hV)
  have HL := (show Hid (∀ r t, M.at r = some t → Lite t) from light)
  clear hW hV light
  go_enter Tryz.func21, Tryz.ntmps21
  go_wp2_with fail
  refine (none_W HW.out).mono ?_
  rintro e _ ⟨rfl, rfl⟩
  go_wp2_with fail
  refine (none_W HV.out).mono ?_
  rintro e _ ⟨rfl, rfl⟩
  go_wp2_with fail
  refine (Tell_W HW.out HL.out hsm).mono ?_
  rintro e w1 ⟨x, rfl, hx, hb1⟩
  have HX1 := (show Hid (Told M (cutsTo M M.cuts.length) x w1) from hx)
  have HV1 := (show Hid (IsW w1 q M G) from HV.out.below hb1)
  have HB1 := (show Hid (Below w.heap.size w w1) from hb1)
  clear hx hb1 HW HV
  go_wp2_with fail
  refine (Tell_W HV1.out HL.out hsm).mono ?_
  rintro e w2 ⟨y, rfl, hy, hb2⟩
  have hB2 := HB1.out.trans (hb2.mono HB1.out.size)
  obtain ⟨pa, ca, pb, cb, pc, cc, pd, cd, rfl, a1, a2, a3, a4⟩ := HX1.out.below hb2
  obtain ⟨qa, da, qb, db, qc, dc, qd, dd, rfl, b1, b2, b3, b4⟩ := hy
  obtain ⟨w3, hs3, hb3, g3, g3'⟩ := boxed_aw w2 #[.slice pa M.parents.length ca, .slice pb (cutsTo M M.cuts.length).length cb, .slice pc M.things.length cc, .int .i64 M.last, .slice pd M.made.length cd] rfl (by simp [go_sem])
  have hs4 := storeA_blk (c' := #[.slice qa M.parents.length da, .slice qb (cutsTo M M.cuts.length).length db, .slice qc M.things.length dc, .int .i64 M.last, .slice qd M.made.length dd]) g3' rfl rfl (by simp [go_sem])
  have hb4 : Below w2.heap.size w2 (w3.setRow (w2.heap.size + 1) #[.slice qa M.parents.length da, .slice qb (cutsTo M M.cuts.length).length db, .slice qc M.things.length dc, .int .i64 M.last, .slice qd M.made.length dd]) := Below.setRow hb3 (by omega) _
  have HG : Hid ((w3.setRow (w2.heap.size + 1) #[.slice qa M.parents.length da, .slice qb (cutsTo M M.cuts.length).length db, .slice qc M.things.length dc, .int .i64 M.last, .slice qd M.made.length dd]).heap[w2.heap.size]? = some (.cells #[.slice pa M.parents.length ca, .slice pb (cutsTo M M.cuts.length).length cb, .slice pc M.things.length cc, .int .i64 M.last, .slice pd M.made.length cd] 112 (0, 0)) ∧ (w3.setRow (w2.heap.size + 1) #[.slice qa M.parents.length da, .slice qb (cutsTo M M.cuts.length).length db, .slice qc M.things.length dc, .int .i64 M.last, .slice qd M.made.length dd]).heap[w2.heap.size + 1]? = some (.cells #[.slice qa M.parents.length da, .slice qb (cutsTo M M.cuts.length).length db, .slice qc M.things.length dc, .int .i64 M.last, .slice qd M.made.length dd] 112 (0, 0))) := ⟨(setRow_other _ (by omega) _).trans g3, heap_setRow_at g3'⟩
  have HB4 : Hid (Below w.heap.size w (w3.setRow (w2.heap.size + 1) #[.slice qa M.parents.length da, .slice qb (cutsTo M M.cuts.length).length db, .slice qc M.things.length dc, .int .i64 M.last, .slice qd M.made.length dd])) := hB2.trans (hb4.mono hB2.size)
  have HT : Hid (IntArg .i64 w2 pa M.parents ∧ IntArg .i64 w2 pb (cutsTo M M.cuts.length) ∧ EntAt w2 pc M.things ∧ IntArg .i64 w2 pd M.made ∧ IntArg .i64 w2 qa M.parents ∧ IntArg .i64 w2 qb (cutsTo M M.cuts.length) ∧ EntAt w2 qc M.things ∧ IntArg .i64 w2 qd M.made) := ⟨a1, a2, a3, a4, b1, b2, b3, b4⟩
  have HK4 : Hid (Below w2.heap.size w2 (w3.setRow (w2.heap.size + 1) #[.slice qa M.parents.length da, .slice qb (cutsTo M M.cuts.length).length db, .slice qc M.things.length dc, .int .i64 M.last, .slice qd M.made.length dd])) := hb4
  have Hok2 := (show Hid M.ok from HV1.out.ok)
  have Hok := (show Hid (M.parents.length ≤ 1000000 ∧ M.made.length ≤ 1000000 ∧ (cutsTo M M.cuts.length).length ≤ 1000000) from by
    have h1 := HV1.out.ok
    have h2 := h1.sides
    have h3 := h1.made
    have h4 := h1.cuts
    have h5 := cutsTo_len M M.cuts.length
    exact ⟨by omega, by omega, by omega⟩)
  clear hb4 hB2 hb2 hb3 g3 g3' a1 a2 a3 a4 b1 b2 b3 b4 HX1 HV1 HB1
  go_upto_region 4 with fail
  clear hs3 hs4
  revert HG HB4 HT HK4
  generalize w3.setRow _ _ = w4
  intro HG HB4 HT HK4
  obtain ⟨nc, hnc⟩ : ∃ nc, nc = (cutsTo M M.cuts.length).length := ⟨_, rfl⟩
  have Hnc := (show Hid (nc = (cutsTo M M.cuts.length).length) from hnc)
  rw [← hnc] at HG ⊢
  clear hnc
  obtain ⟨A, hA⟩ : ∃ A, A = w2.heap.size := ⟨_, rfl⟩
  rw [← hA] at HG ⊢
  clear hA
  have x0 : w4.cell? ⟨A, 0, none⟩ = some (.slice pa M.parents.length ca) := by rw [cell_blk HG.out.1]; rfl
  have y0 : w4.cell? ⟨A + 1, 0, none⟩ = some (.slice qa M.parents.length da) := by rw [cell_blk HG.out.2]; rfl
  go_wp2_with fail
  refine (equalSide_W w4 pa qa _ ca da M.parents (intArg_below HT.out.1 HK4.out) (intArg_below HT.out.2.2.2.2.1 HK4.out) rfl Hok.out.1).mono ?_
  rintro e w5 ⟨rfl, hb⟩
  replace HG : Hid (_ ∧ _) := ⟨below_blk hb HG.out.1, below_blk hb HG.out.2⟩
  replace HB4 := (show Hid (Below w.heap.size w w5) from HB4.out.trans (hb.mono HB4.out.size))
  replace HK4 := (show Hid (Below w2.heap.size w2 w5) from HK4.out.trans (hb.mono HK4.out.size))
  clear hb x0 y0
  have x1 : w5.cell? ⟨A, 1, none⟩ = some (.slice pb nc cb) := by rw [cell_blk HG.out.1]; rfl
  have y1 : w5.cell? ⟨A + 1, 1, none⟩ = some (.slice qb nc db) := by rw [cell_blk HG.out.2]; rfl
  go_wp2_with fail
  refine (equalInt_W w5 pb qb nc cb db (cutsTo M M.cuts.length) (intArg_below HT.out.2.1 HK4.out) (intArg_below HT.out.2.2.2.2.2.1 HK4.out) Hnc.out (by rw [Hnc.out]; exact Hok.out.2.2)).mono ?_
  rintro e w6 ⟨rfl, hb⟩
  replace HG : Hid (_ ∧ _) := ⟨below_blk hb HG.out.1, below_blk hb HG.out.2⟩
  replace HB4 := (show Hid (Below w.heap.size w w6) from HB4.out.trans (hb.mono HB4.out.size))
  replace HK4 := (show Hid (Below w2.heap.size w2 w6) from HK4.out.trans (hb.mono HK4.out.size))
  clear hb x1 y1
  have x3 : w6.cell? ⟨A, 3, none⟩ = some (.int .i64 M.last) := by rw [cell_blk HG.out.1]; rfl
  have y3 : w6.cell? ⟨A + 1, 3, none⟩ = some (.int .i64 M.last) := by rw [cell_blk HG.out.2]; rfl
  have x4 : w6.cell? ⟨A, 4, none⟩ = some (.slice pd M.made.length cd) := by rw [cell_blk HG.out.1]; rfl
  have y4 : w6.cell? ⟨A + 1, 4, none⟩ = some (.slice qd M.made.length dd) := by rw [cell_blk HG.out.2]; rfl
  go_wp2_with fail
  refine (equalInt_W w6 pd qd _ cd dd M.made (intArg_below HT.out.2.2.2.1 HK4.out) (intArg_below HT.out.2.2.2.2.2.2.2 HK4.out) rfl Hok.out.2.1).mono ?_
  rintro e w7 ⟨rfl, hb⟩
  replace HG : Hid (_ ∧ _) := ⟨below_blk hb HG.out.1, below_blk hb HG.out.2⟩
  replace HB4 := (show Hid (Below w.heap.size w w7) from HB4.out.trans (hb.mono HB4.out.size))
  replace HK4 := (show Hid (Below w2.heap.size w2 w7) from HK4.out.trans (hb.mono HK4.out.size))
  clear hb x3 y3 x4 y4
  have x2 : w7.cell? ⟨A, 2, none⟩ = some (.slice pc M.things.length cc) := by rw [cell_blk HG.out.1]; rfl
  have y2 : w7.cell? ⟨A + 1, 2, none⟩ = some (.slice qc M.things.length dc) := by rw [cell_blk HG.out.2]; rfl
  go_wp2_with fail
  refine (eqfEntry_W w7 pc qc _ cc dc M.things (HT.out.2.2.1.below HK4.out) (HT.out.2.2.2.2.2.2.1.below HK4.out) (fun x hx => HL.out x.1 x.2 (Hok2.out.at_of_mem hx)) rfl (by omega)).mono ?_
  rintro e w8 ⟨rfl, hb⟩
  replace HB4 := (show Hid (Below w.heap.size w w8) from HB4.out.trans (hb.mono HB4.out.size))
  clear hb x2 y2
  go_wp2_with fail
  go_ret
  exact ⟨rfl, HB4.out⟩
end Go.Proofs.YtmefjkggibbhoaaGreat
/- lives of posternlaw10: it is true. -/
namespace Go.Proofs.YtmefjkggibbhoaaGreat
open Go.RowKit Go.ChangeMaps Go.MapKept

def PM0 : WM := WM.new []
def PM1 : WM := makeM PM0 (mintT 0 0 0)
def PM2 : WM := (PM1.add (purseT 0 10 1)).set 1 (mintT 0 (0 + 10) 0)
def PM3 : WM := (PM2.add (purseT 0 3 1)).set 2 (purseT 0 (10 - 3) 1)
def PM4 : WM := (PM3.set 3 (purseT 0 (3 + 7) 1)).set 2 (purseT 0 0 1)
theorem ptree : TreeOk [] := ⟨by decide, fun i p h => by simp at h⟩
theorem pat1 : PM1.at 1 = some (mintT 0 0 0) := rfl
theorem pat2 : PM2.at 1 = some (mintT 0 10 0) := rfl
theorem pat2' : PM2.at 2 = some (purseT 0 10 1) := rfl
theorem pat3 : PM3.at 2 = some (purseT 0 7 1) := rfl
theorem pat3' : PM3.at 3 = some (purseT 0 3 1) := rfl
theorem pat4 : PM4.at 3 = some (purseT 0 10 1) := rfl
theorem pths : PM4.things = [(1, mintT 0 10 0), (2, purseT 0 0 1), (3, purseT 0 10 1)] := rfl
theorem ppur : ∀ x ∈ PM4.things, x.2.kind = 9 → ∃ h n m, x.2 = purseT h n m ∧ 0 ≤ n := by
  rw [pths]
  intro x hx hk
  simp only [List.mem_cons, List.not_mem_nil, or_false] at hx
  rcases hx with rfl | rfl | rfl
  · cases hk
  · exact ⟨0, 0, 1, rfl, by decide⟩
  · exact ⟨0, 10, 1, rfl, by decide⟩
theorem pmint : ∀ x ∈ PM4.things, x.2.kind = 8 → ∃ h N lo, x.2 = mintT h N lo ∧ N - lo = sumF (PM4.things.filter (isP x.1)) := by
  rw [pths]
  intro x hx hk
  simp only [List.mem_cons, List.not_mem_nil, or_false] at hx
  rcases hx with rfl | rfl | rfl
  · exact ⟨0, 10, 0, rfl, by decide⟩
  · cases hk
  · cases hk

set_option maxHeartbeats 4000000 in
set_option maxRecDepth 8000 in
theorem lives10_W (w : World) : Calls Tryz.prog 22 #[] w fun e w' => e = .returned (.bool true) ∧ Below w.heap.size w w' := by
  go_enter Tryz.func22, Tryz.ntmps22
  go_wp2_with fail
  refine (New_W w none 0 [] (.inl rfl)).mono ?_
  rintro e w1 hpost
  obtain ⟨p, F, rfl, hW, hF, hb⟩ := (Or.resolve_right hpost (fun h => h.1 ptree)).2
  clear hpost
  have HO : Hid (Own w w1 p PM0) := ⟨F, hW, fun b h => hF b h, hb⟩
  clear hW hF hb
  go_wp2_with fail
  obtain ⟨F, hW, h2, h3⟩ := HO.out
  refine (Mint_W hW (by decide) (h := 0) (by decide)).mono ?_
  rintro e w2 (⟨-, rfl, F', hW', hg⟩ | ⟨hx, -, -⟩)
  rotate_left
  · exact absurd (by decide) hx
  have HO2 : Hid (Own w w2 p PM1) := Own.turn h2 h3 hW' hg
  clear HO hW h2 h3 hW' hg
  simp only [show PM0.last + 1 = 1 from rfl]
  go_wp2_with fail
  obtain ⟨F2, hW, h2, h3⟩ := HO2.out
  refine (Ask_W hW (r := 1) rfl (by decide) (by decide) pat1 (by decide) (by decide) (n := 10)).mono ?_
  rintro e w3 (⟨hx, -⟩ | ⟨hx, -⟩ | ⟨-, hx, -⟩ | ⟨-, -, rfl, F', hW', hg⟩)
  · exact absurd hx (by decide)
  · exact absurd hx (by decide)
  · exact absurd (by decide) hx
  have HO3 : Hid (Own w w3 p PM2) := Own.turn h2 h3 hW' hg
  clear HO2 hW h2 h3 hW' hg
  simp only [show PM1.last + 1 = 2 from rfl]
  go_wp2_with fail
  obtain ⟨F3, hW, h2, h3⟩ := HO3.out
  refine (Ask_W hW (r := 1) rfl (by decide) (by decide) pat2 (by decide) (by decide) (n := -1)).mono ?_
  rintro e w4 (⟨-, rfl, hb⟩ | ⟨hx, -⟩ | ⟨hx, -⟩ | ⟨hx, -⟩)
  rotate_left
  · exact absurd hx (by decide)
  · exact absurd hx (by decide)
  · exact absurd hx (by decide)
  have HO4 : Hid (Own w w4 p PM2) := HO3.out.below hb
  clear HO3 hW h2 h3 hb
  go_wp2_with fail
  obtain ⟨F4, hW, h2, h3⟩ := HO4.out
  refine (Take_W hW (r := 2) rfl (by decide) (by decide) pat2' pat2 (by decide) (n := 3)).mono ?_
  rintro e w5 (⟨hx, -⟩ | ⟨hx, -⟩ | ⟨-, hx, -⟩ | ⟨-, -, rfl, F', hW', hg⟩)
  · exact absurd hx (by decide)
  · exact absurd hx (by decide)
  · exact absurd (by decide) hx
  have HO5 : Hid (Own w w5 p PM3) := Own.turn h2 h3 hW' hg
  clear HO4 hW h2 h3 hW' hg
  simp only [show PM2.last + 1 = 3 from rfl]
  go_wp2_with fail
  obtain ⟨F5, hW, h2, h3⟩ := HO5.out
  refine (Get_W hW (r := 2) rfl pat3).mono ?_
  rintro e w6 ⟨rfl, hb⟩
  have HO6 : Hid (Own w w6 p PM3) := HO5.out.below hb
  clear HO5 hW h2 h3 hb
  go_wp2_with fail
  obtain ⟨F6, hW, h2, h3⟩ := HO6.out
  refine (Move_W hW pat3' pat3 (by decide) (by decide) (by decide) (by decide)).mono ?_
  rintro e w7 (⟨hx, -⟩ | ⟨-, -, hx, -⟩ | ⟨-, -, -, rfl, hW', hk⟩)
  · exact absurd hx (by decide)
  · exact absurd hx (by decide)
  have HO7 : Hid (Own w w7 p PM4) := ⟨F6, hW', h2, h3.trans (Keeps.below hk h3.size h2)⟩
  clear HO6 hW h2 h3 hW' hk
  go_wp2_with fail
  obtain ⟨F7, hW, h2, h3⟩ := HO7.out
  refine (Get_W hW (r := 3) rfl pat4).mono ?_
  rintro e w8 ⟨rfl, hb⟩
  have HO8 : Hid (Own w w8 p PM4) := HO7.out.below hb
  clear HO7 hW h2 h3 hb
  go_wp2_with fail
  obtain ⟨F8, hW, h2, h3⟩ := HO8.out
  refine (Check_W hW ppur pmint).mono ?_
  rintro e w9 ⟨rfl, hb⟩
  have HB9 : Hid (Below w.heap.size w w9) := h3.trans (hb.mono h3.size)
  clear HO8 hW h2 h3 hb
  go_wp2_with fail
  go_ret
  exact ⟨rfl, HB9.out⟩
end Go.Proofs.YtmefjkggibbhoaaGreat
