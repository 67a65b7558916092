/- Acts: Why, and Do where the way is cut. -/
import Derived.Test.YtifmifjbebpomaaGreatDoorWaG
import Derived.Test.YtifmifjbebpomaaGreatDoorFree
import Derived.Test.YtifmifjbebpomaaGreatDoorRefs
import Derived.Test.YtifmifjbebpomaaGreatDoorWalkA
namespace Go.Proofs.YtifmifjbebpomaaGreatDoor
open Go.RowKit Go.ChangeMaps Go.MapKept
variable {w : World} {p : Nat} {M : WM} {F : Nat → Prop}

theorem acthere_W (hW : IsW w p M F) : Calls Tryz.prog 98 #[.pointer (some ⟨p, 0, none⟩)] w fun e w' => e = .returned (.bool true) ∧ w = w' := by
  have hS := Sides_W hW
  have hm : (0 : Int) < M.made.length := by have := hW.ok.made; omega
  have Hm := (show Hid (0 < M.made.length) from by have := hW.ok.made; show _ < _; omega)
  go_enter Tryz.func98, Tryz.ntmps98
  go_wp2_with (go_at_call 31; refine hS.mono ?_; rintro e w' ⟨rfl, rfl⟩)
  go_ret
  exact ⟨by simp; exact Hm.out, rfl⟩
theorem acside_W (hW : IsW w p M F) {s : Int} (hs : sideB M s = true) : Calls Tryz.prog 99 #[.pointer (some ⟨p, 0, none⟩), .int .i64 s] w fun e w' => e = .returned (.bool true) ∧ w = w' := by
  have hS := Sides_W hW
  obtain ⟨h0, h1⟩ := sideB_iff.1 hs
  go_enter Tryz.func99, Tryz.ntmps99
  go_wp2_with (go_at_call 31; refine hS.mono ?_; rintro e w' ⟨rfl, rfl⟩)
  go_ret
  exact ⟨rfl, rfl⟩
set_option maxRecDepth 20000 in
theorem aOne_1 (w : World) : Calls Tryz.prog 100 #[.int .u8 1] w fun e w' => e = .returned (.bool true) ∧ Below w.heap.size w w' := by
  go_enter Tryz.func100, Tryz.ntmps100
  go_wp2
  go_ret
  exact ⟨by kernel_rfl, Below.refl _ _⟩
theorem aHas_W (w : World) (s b : Int) : Calls Tryz.prog 102 #[.int .u8 s, .int .u8 b] w fun e w' => e = .returned (.bool (bits .and .u8 (bits .andNot .u8 b s) 63 == 0)) ∧ Below w.heap.size w w' := by
  go_enter Tryz.func102, Tryz.ntmps102
  go_wp2
  go_ret
  exact ⟨rfl, Below.refl _ _⟩
theorem acknown_plain (w : World) (p : Nat) : Calls Tryz.prog 101 #[.pointer (some ⟨p, 0, none⟩), .agg #[.int .u8 0, .int .i64 0, .string ⟨#[]⟩, .slice none 0 0, .int .i64 0]] w fun e w' => e = .returned (.bool true) ∧ Below w.heap.size w w' := by
  have h := fun W => vRefs_W W 0 0 (.inl ⟨rfl, rfl⟩)
  go_enter Tryz.func101, Tryz.ntmps101
  go_wp2_with fail
  refine (h _).mono ?_
  rintro e w1 ⟨rfl, hb⟩
  have HB : Hid (Below w.heap.size w w1) := ((Below.refl _ _).alloc (Nat.le_refl _) _).trans (hb.mono (by simp))
  clear hb
  go_wp2_with fail
  refine wp_loop_rounds 1 ?_
  rw [rounds_succ]
  go_wp2_with fail
  go_ret
  exact ⟨rfl, HB.out⟩
set_option maxRecDepth 8000 in
theorem acWhy_W (hW : IsW w p M F) {a r v : Int} {l : List Int} {t0 : Th} (ha : sideB M a = true) (hr : (Lit.int .i64 r).wf = true) (hl : WayIs M r l) (ht0 : M.at r = some t0) (hall : ∀ x ∈ l, ∃ t, M.at x = some t ∧ t.kind ≠ 15)
    (hv : AbleIs M 63 r v) (hav : (bits .and .u8 (bits .andNot .u8 1 v) 63 == 0) = true) :
    Calls Tryz.prog 59 #[.pointer (some ⟨p, 0, none⟩), .int .i64 a, .int .i64 r, .int .u8 1, .agg #[.int .u8 0, .int .i64 0, .string ⟨#[]⟩, .slice none 0 0, .int .i64 0]] w fun e w' => e = .returned (.int .i64 (freeE (freeL M a l))) ∧ Below w.heap.size w w' := by
  obtain ⟨w1, hw1⟩ : ∃ w1, w.alloc (.cells #[.int .u8 0, .int .i64 0, .string ⟨#[]⟩, .slice none 0 0, .int .i64 0] 29) = w1 := ⟨_, rfl⟩
  have hb1 : Below w.heap.size w w1 := by rw [← hw1]; exact (Below.refl _ _).alloc (Nat.le_refl _) _
  have hx : w1.heap[w.heap.size]? = some (.cells #[.int .u8 0, .int .i64 0, .string ⟨#[]⟩, .slice none 0 0, .int .i64 0] 29 (0, 0)) := by rw [← hw1]; exact blk_new w _
  have HB1 := (show Hid (Below w.heap.size w w1) from hb1)
  have HX : Hid (∀ W, Below w1.heap.size w1 W → W.cell? ⟨w.heap.size, 0, none⟩ = some (.int .u8 0) ∧ W.cell? ⟨w.heap.size, 1, none⟩ = some (.int .i64 0) ∧ W.cell? ⟨w.heap.size, 2, none⟩ = some (.string ⟨#[]⟩) ∧ W.cell? ⟨w.heap.size, 3, none⟩ = some (.slice none 0 0) ∧ W.cell? ⟨w.heap.size, 4, none⟩ = some (.int .i64 0)) := fun W hb => by
    have h := (hb.block _ (blk_lt hx)).trans hx
    refine ⟨?_, ?_, ?_, ?_, ?_⟩ <;> (rw [cell_blk h]; rfl)
  have HW : Hid (IsW w1 p M F) := hW.below hb1
  have HA := (show Hid (sideB M a = true ∧ WayIs M r l ∧ M.at r = some t0 ∧ (∀ x ∈ l, ∃ t, M.at x = some t ∧ t.kind ≠ 15) ∧ AbleIs M 63 r v ∧ (bits .and .u8 (bits .andNot .u8 1 v) 63 == 0) = true) from ⟨ha, hl, ht0, hall, hv, hav⟩)
  have HO := fun W => aOne_1 W
  have HVM := fun W => vMay_W W 0 0 (.inl ⟨rfl, rfl⟩)
  have HK := fun W => acknown_plain W p
  have HH := fun W => aHas_W W v 1
  obtain ⟨fe, hfe⟩ : ∃ fe, freeE (freeL M a l) = fe := ⟨_, rfl⟩
  rw [hfe]
  have Hfe := (show Hid _ from hfe)
  clear hb1 hx hW ha hl ht0 hall hv hav hfe
  go_enter Tryz.func59, Tryz.ntmps59
  go_wp2_with fail
  refine (acthere_W HW.out).mono ?_
  rintro e _ ⟨rfl, rfl⟩
  go_wp2_with fail
  refine (acside_W HW.out HA.out.1).mono ?_
  rintro e _ ⟨rfl, rfl⟩
  go_wp2_with fail
  refine (HO _).mono ?_
  rintro e w2 ⟨rfl, hb2⟩
  obtain ⟨x0, x1, x2, x3, x4⟩ := HX.out w2 hb2
  have HB2 := (show Hid (Below w1.heap.size w1 w2) from hb2)
  clear hb2
  go_wp2_with fail
  refine (HVM _).mono ?_
  rintro e w3 ⟨rfl, hb3⟩
  have HB3 : Hid (Below w1.heap.size w1 w3) := HB2.out.trans (hb3.mono HB2.out.size)
  clear hb3 x0 x1 x2 x3 x4
  obtain ⟨x0, x1, x2, x3, x4⟩ := HX.out w3 HB3.out
  go_wp2_with fail
  refine (Is_W (HW.out.below HB3.out) hr).mono ?_
  rw [HA.out.2.2.1]
  rintro e _ ⟨rfl, rfl⟩
  go_wp2_with fail
  refine (HK _).mono ?_
  rintro e w4 ⟨rfl, hb4⟩
  have HB4 : Hid (Below w1.heap.size w1 w4) := HB3.out.trans (hb4.mono HB3.out.size)
  clear hb4 x0 x1 x2 x3 x4
  go_wp2_with fail
  refine (Able_W (HW.out.below HB4.out) hr HA.out.2.2.2.2.1).mono ?_
  rintro e w5 ⟨rfl, hb5⟩
  have HB5 : Hid (Below w1.heap.size w1 w5) := HB4.out.trans (hb5.mono HB4.out.size)
  clear hb5
  go_wp2_with fail
  refine (HH _).mono ?_
  rw [HA.out.2.2.2.2.2]
  rintro e w6 ⟨rfl, hb6⟩
  have HB6 : Hid (Below w1.heap.size w1 w6) := HB5.out.trans (hb6.mono HB5.out.size)
  clear hb6
  go_wp2_with fail
  refine (Free_W (HW.out.below HB6.out) HA.out.1 hr HA.out.2.1 HA.out.2.2.1 HA.out.2.2.2.1).mono ?_
  rw [Hfe.out]
  rintro e w7 ⟨rfl, hb7⟩
  have HB7 : Hid (Below w1.heap.size w1 w7) := HB6.out.trans (hb7.mono HB6.out.size)
  clear hb7
  go_wp2_with fail
  go_ret
  exact ⟨rfl, HB1.out.trans (HB7.out.mono HB1.out.size)⟩
/-- The nothing is written over itself. -/
theorem set5V {W : World} {b : Nat} (h : W.heap[b]? = some (.cells #[.int .u8 0, .int .i64 0, .string ⟨#[]⟩, .slice none 0 0, .int .i64 0] 29 (0, 0))) : ∃ W', ((((W.setCell ⟨b, 0, none⟩ (.int .u8 0)).setCell ⟨b, 1, none⟩ (.int .i64 0)).setCell ⟨b, 2, none⟩ (.string ⟨#[]⟩)).setCell ⟨b, 3, none⟩ (.slice none 0 0)).setCell ⟨b, 4, none⟩ (.int .i64 0) = W' ∧
    W'.heap[b]? = some (.cells #[.int .u8 0, .int .i64 0, .string ⟨#[]⟩, .slice none 0 0, .int .i64 0] 29 (0, 0)) ∧ (∀ c, c ≠ b → W'.heap[c]? = W.heap[c]?) ∧ ∀ (B : Nat) (w : World), Below B w W → B ≤ b → Below B w W' := by
  refine ⟨_, rfl, blk_setCell (blk_setCell (blk_setCell (blk_setCell (blk_setCell h 0 _) 1 _) 2 _) 3 _) 4 _, fun c hc => ?_, fun B w hb hB => ((((hb.setCell hB _).setCell hB _).setCell hB _).setCell hB _).setCell hB _⟩
  exact (Below.heap_setCell _ _ _ _ hc).trans ((Below.heap_setCell _ _ _ _ hc).trans ((Below.heap_setCell _ _ _ _ hc).trans ((Below.heap_setCell _ _ _ _ hc).trans (Below.heap_setCell _ _ _ _ hc))))
theorem results_V2 {fn : Func} {q x : Tmp} (h : fn.results = #[.cell q 29, .tmp x]) (tmps : Array Value) (W : World) (g : Nat) (hp : tmps.getD q undef = .pointer (some ⟨g, 0, none⟩))
    (hg : W.heap[g]? = some (.cells #[.int .u8 0, .int .i64 0, .string ⟨#[]⟩, .slice none 0 0, .int .i64 0] 29 (0, 0))) : (results fn tmps).run Tryz.prog W = .ok (.tuple #[.agg #[.int .u8 0, .int .i64 0, .string ⟨#[]⟩, .slice none 0 0, .int .i64 0], tmps.getD x undef]) W := by
  have h1 := run_loadVar_row W g 29 29 _ _ _ hg Tryz.underlying29 rfl (by kernel_rfl)
  unfold results
  rw [h]
  rw [Array.getD_eq_getD_getElem?] at hp
  simp [hp, asAddr, h1, Result.andThen]
set_option maxRecDepth 8000 in
/-- Do where the way is cut. -/
theorem acDo_cut (hW : IsW w p M F) {a r v : Int} {l : List Int} {t0 : Th} (ha : sideB M a = true) (hr : (Lit.int .i64 r).wf = true) (hl : WayIs M r l) (ht0 : M.at r = some t0) (hall : ∀ x ∈ l, ∃ t, M.at x = some t ∧ t.kind ≠ 15)
    (hv : AbleIs M 63 r v) (hav : (bits .and .u8 (bits .andNot .u8 1 v) 63 == 0) = true) (hcut : freeL M a l = false) :
    Calls Tryz.prog 26 #[.pointer (some ⟨p, 0, none⟩), .int .i64 a, .int .i64 r, .int .u8 1, .agg #[.int .u8 0, .int .i64 0, .string ⟨#[]⟩, .slice none 0 0, .int .i64 0], .nilFunc] w fun e w' =>
      ∃ g, e = .returned (.tuple #[.agg #[.int .u8 0, .int .i64 0, .string ⟨#[]⟩, .slice none 0 0, .int .i64 0], .iface 235 (.pointer (some ⟨g, 0, none⟩))]) ∧ FaultAt w' g 7 ∧ Below w.heap.size w w' ∧ w.heap.size ≤ g := by
  have HC := (show Hid (∀ W, Below w.heap.size w W → Calls Tryz.prog 59 #[.pointer (some ⟨p, 0, none⟩), .int .i64 a, .int .i64 r, .int .u8 1, .agg #[.int .u8 0, .int .i64 0, .string ⟨#[]⟩, .slice none 0 0, .int .i64 0]] W fun e w' => e = .returned (.int .i64 7) ∧ Below W.heap.size W w') from fun W hb => by
    have h := acWhy_W (hW.below hb) ha hr hl ht0 hall hv hav
    rw [hcut] at h
    exact h)
  have HF := fun W => acOf_W 7 (by decide) W
  clear hW ha hl ht0 hall hv hav hcut
  obtain ⟨wA, hwA⟩ : ∃ wA, (((((w.alloc (.cells #[.pointer (some ⟨p, 0, none⟩)] 31)).alloc (.cells #[.int .i64 r] 24)).alloc (.cells #[.int .u8 1] 25)).alloc (.cells #[.int .u8 0, .int .i64 0, .string ⟨#[]⟩, .slice none 0 0, .int .i64 0] 29)).alloc (.cells #[.nilFunc] 130)).alloc (.cells #[.int .u8 0, .int .i64 0, .string ⟨#[]⟩, .slice none 0 0, .int .i64 0] 29) = wA := ⟨_, rfl⟩
  have hbA : Below w.heap.size w wA := by rw [← hwA]; exact ((((((Below.refl _ _).alloc (Nat.le_refl _) _).alloc (by simp) _).alloc (by simp; omega) _).alloc (by simp; omega) _).alloc (by simp; omega) _).alloc (by simp; omega) _
  have hxA : wA.heap[w.heap.size + 5]? = some (.cells #[.int .u8 0, .int .i64 0, .string ⟨#[]⟩, .slice none 0 0, .int .i64 0] 29 (0, 0)) := by
    rw [← hwA]
    have h := blk_new ((((((w.alloc (.cells #[.pointer (some ⟨p, 0, none⟩)] 31)).alloc (.cells #[.int .i64 r] 24)).alloc (.cells #[.int .u8 1] 25)).alloc (.cells #[.int .u8 0, .int .i64 0, .string ⟨#[]⟩, .slice none 0 0, .int .i64 0] 29)).alloc (.cells #[.nilFunc] 130))) (.cells #[.int .u8 0, .int .i64 0, .string ⟨#[]⟩, .slice none 0 0, .int .i64 0] 29)
    simpa using h
  have HXA := (show Hid (wA.heap[w.heap.size + 5]? = some (.cells #[.int .u8 0, .int .i64 0, .string ⟨#[]⟩, .slice none 0 0, .int .i64 0] 29 (0, 0))) from hxA)
  have HBA := (show Hid (Below w.heap.size w wA) from hbA)
  have HwA := (show Hid (_ = wA) from hwA)
  clear hbA hxA hwA
  go_enter Tryz.func26, Tryz.ntmps26
  go_wp2_with fail
  rw [HwA.out]
  refine (HC.out _ HBA.out).mono ?_
  rintro e w2 ⟨rfl, hb2⟩
  have HB2 := (show Hid (Below wA.heap.size wA w2) from hb2)
  clear hb2 HwA
  go_wp2_with fail
  refine (HF _).mono ?_
  rintro e w3 ⟨g, rfl, hg, hgs, hb3⟩
  have HB3 : Hid (Below wA.heap.size wA w3) := HB2.out.trans (hb3.mono HB2.out.size)
  have HG := (show Hid (FaultAt w3 g 7 ∧ w2.heap.size ≤ g) from ⟨hg, hgs⟩)
  have hx := (HB3.out.block _ (blk_lt HXA.out)).trans HXA.out
  have HX := (show Hid (w3.heap[w.heap.size + 5]? = some (.cells #[.int .u8 0, .int .i64 0, .string ⟨#[]⟩, .slice none 0 0, .int .i64 0] 29 (0, 0))) from hx)
  have x0 : w3.cell? ⟨w.heap.size + 1 + 1 + 1 + 1 + 1, 0, none⟩ = some (.int .u8 0) := by rw [cell_blk hx]; rfl
  have x1 : w3.cell? ⟨w.heap.size + 1 + 1 + 1 + 1 + 1, 1, none⟩ = some (.int .i64 0) := by rw [cell_blk hx]; rfl
  have x2 : w3.cell? ⟨w.heap.size + 1 + 1 + 1 + 1 + 1, 2, none⟩ = some (.string ⟨#[]⟩) := by rw [cell_blk hx]; rfl
  have x3 : w3.cell? ⟨w.heap.size + 1 + 1 + 1 + 1 + 1, 3, none⟩ = some (.slice none 0 0) := by rw [cell_blk hx]; rfl
  have x4 : w3.cell? ⟨w.heap.size + 1 + 1 + 1 + 1 + 1, 4, none⟩ = some (.int .i64 0) := by rw [cell_blk hx]; rfl
  have y0 : w3.frozen? ⟨w.heap.size + 1 + 1 + 1 + 1 + 1, 0, none⟩ = false := frozen_blk hx 0
  have y1 : w3.frozen? ⟨w.heap.size + 1 + 1 + 1 + 1 + 1, 1, none⟩ = false := frozen_blk hx 1
  have y2 : w3.frozen? ⟨w.heap.size + 1 + 1 + 1 + 1 + 1, 2, none⟩ = false := frozen_blk hx 2
  have y3 : w3.frozen? ⟨w.heap.size + 1 + 1 + 1 + 1 + 1, 3, none⟩ = false := frozen_blk hx 3
  have y4 : w3.frozen? ⟨w.heap.size + 1 + 1 + 1 + 1 + 1, 4, none⟩ = false := frozen_blk hx 4
  clear hb3 hg hgs hx
  go_wp2_with fail
  obtain ⟨w4, hw4, k1, k2, k3⟩ := set5V HX.out
  have hne : w.heap.size + 5 ≠ g := by
    have h1 := blk_lt HXA.out
    have h2 := HB2.out.size
    have h3 := HG.out.2
    omega
  have hsw : w.heap.size ≤ wA.heap.size := HBA.out.size
  exact ⟨rfl, _, results_V2 rfl _ _ (w.heap.size + 5) rfl (by rw [hw4]; exact k1), g, rfl, by rw [hw4]; exact (k2 g hne.symm).trans HG.out.1, by rw [hw4]; exact k3 _ _ (HBA.out.trans (HB3.out.mono hsw)) (by omega), by have := HG.out.2; have := HB2.out.size; omega⟩
end Go.Proofs.YtifmifjbebpomaaGreatDoor
