/- A part of the proof, several texts in one: WaE, WaM, Open. -/
import Derived.Test.YtifmifjbebpomaaGreatDoormAO
import Derived.Test.YtifmifjbebpomaaGreatDoormAN
import Derived.Test.YtifmifjbebpomaaGreatDoormAP
import Derived.Deep.RegionWith
import Derived.Deep.CutBlock
import Derived.Deep.DeepCutAuto
import Derived.Test.YtifmifjbebpomaaGreatDoormAE
import Derived.WalkKit
import Derived.ProofKit
import Derived.OpenShut
import Derived.ChangeSame
import Derived.ChangeSlices
import Derived.Carry
import Derived.RowKit
/- Walls: Why, where the way is cut. -/
namespace Go.Proofs.YtifmifjbebpomaaGreatDoor
open Go.RowKit Go.Shelf Go.ChangeMaps Go.MapKept

/-- errors.As leaves the fault in its target. -/
theorem as_fault' {w : World} {e : Addr} {B : Nat} (hB : w.heap[B]? = some (.cells #[.nilIface] 87 (0, 0))) :
    Calls Tryz.prog 28 #[.iface 235 (.pointer (some e)), .iface 89 (.pointer (some ⟨B, 0, none⟩))] w fun ev w' => ev = .returned (.bool true) ∧ w'.heap[B]? = some (.cells #[.iface 235 (.pointer (some e))] 87 (0, 0)) ∧ Keeps (fun b => b = B) w w' := by
  refine (as_fault (t := ⟨B, 0, none⟩) (by rw [cell_blk hB]; rfl) (frozen_blk hB 0)).mono ?_
  rintro ev _ ⟨rfl, rfl⟩
  have hb : Below w.heap.size w ((((w.alloc (.cells #[.pointer (some ⟨B, 0, none⟩)] 89)).alloc (.cells #[.pointer (some ⟨3, 89, none⟩), .pointer (some ⟨w.heap.size, 0, none⟩), .int .u64 150] 149)).alloc (.cells #[.pointer (some ⟨3, 89, none⟩), .pointer (some ⟨w.heap.size, 0, none⟩), .int .u64 150] 149)).alloc (.cells #[.pointer (some e)] 235)) :=
    ((((Below.refl _ _).alloc (Nat.le_refl _) _).alloc (by simp) _).alloc (by simp; omega) _).alloc (by simp; omega) _
  exact ⟨rfl, blk_setCell ((hb.block B (blk_lt hB)).trans hB) 0 _, Below.keeps (S := fun b => b = B) hb (Keeps.setCell (S := fun b => b = B) _ ⟨B, 0, none⟩ _ rfl)⟩

theorem results_H2 {fn : Func} {q x : Tmp} {e th : Int} {fr : Bool} (h : fn.results = #[.cell q 47, .tmp x]) (tmps : Array Value) (W : World) (g : Nat) (hp : tmps.getD q undef = .pointer (some ⟨g, 0, none⟩))
    (hg : W.heap[g]? = some (.cells #[.int .i64 e, .int .i64 th, .bool fr] 47 (0, 0))) : (results fn tmps).run Tryz.prog W = .ok (.tuple #[.agg #[.int .i64 e, .int .i64 th, .bool fr], tmps.getD x undef]) W := by
  have h1 := run_loadVar_row W g 47 47 _ _ _ hg Tryz.underlying47 rfl (by kernel_rfl)
  unfold results
  rw [h]
  rw [Array.getD_eq_getD_getElem?] at hp
  simp [hp, asAddr, h1, Result.andThen]
theorem below_undrew {w W : World} (h : Below w.drew.heap.size w.drew W) : Below w.heap.size w W := ⟨h.os, h.tape, h.output, h.size, h.block⟩
/-- Behind the act. -/
structure WhyAt (w : World) (M : WM) (p : Nat) (F : Nat → Prop) (u : Value) (W : World) : Prop where
  below : Below w.heap.size w W
  hop : W.heap[w.heap.size + 1]? = some (.cells #[.int .i64 0, .int .i64 0, .bool false] 47 (0, 0))
  err : ∃ g, u = .iface 235 (.pointer (some ⟨g, 0, none⟩)) ∧ FaultAt W g 7 ∧ w.heap.size + 2 ≤ g
theorem WhyAt.close {w W : World} {M : WM} {p g b : Nat} {F : Nat → Prop} (hv : W.heap[b]? = some (.cells #[.int .u8 0, .int .i64 0, .string ⟨#[]⟩, .slice none 0 0, .int .i64 0] 29 (0, 0))) (hb : Below w.heap.size w W) (hop : W.heap[w.heap.size + 1]? = some (.cells #[.int .i64 0, .int .i64 0, .bool false] 47 (0, 0)))
    (hg : FaultAt W g 7) (h1 : w.heap.size + 2 ≤ b) (h2 : g ≠ b) (h3 : w.heap.size + 2 ≤ g) : WhyAt w M p F (.iface 235 (.pointer (some ⟨g, 0, none⟩))) (((((W.setCell ⟨b, 0, none⟩ (.int .u8 0)).setCell ⟨b, 1, none⟩ (.int .i64 0)).setCell ⟨b, 2, none⟩ (.string ⟨#[]⟩)).setCell ⟨b, 3, none⟩ (.slice none 0 0)).setCell ⟨b, 4, none⟩ (.int .i64 0)) := by
  obtain ⟨W', hW', k1, k2, k3⟩ := set5V hv
  rw [hW']
  exact ⟨k3 _ _ hb (by omega), (k2 _ (by omega)).trans hop, g, rfl, (k2 _ h2).trans hg, h3⟩
theorem nvFacts {W : World} {b : Nat} (h : W.heap[b]? = some (.cells #[.int .u8 0, .int .i64 0, .string ⟨#[]⟩, .slice none 0 0, .int .i64 0] 29 (0, 0))) : (W.cell? ⟨b, 0, none⟩ = some (.int .u8 0) ∧ W.cell? ⟨b, 1, none⟩ = some (.int .i64 0) ∧ W.cell? ⟨b, 2, none⟩ = some (.string ⟨#[]⟩) ∧ W.cell? ⟨b, 3, none⟩ = some (.slice none 0 0) ∧ W.cell? ⟨b, 4, none⟩ = some (.int .i64 0)) ∧
    W.frozen? ⟨b, 0, none⟩ = false ∧ W.frozen? ⟨b, 1, none⟩ = false ∧ W.frozen? ⟨b, 2, none⟩ = false ∧ W.frozen? ⟨b, 3, none⟩ = false ∧ W.frozen? ⟨b, 4, none⟩ = false := by
  refine ⟨⟨?_, ?_, ?_, ?_, ?_⟩, ?_, ?_, ?_, ?_, ?_⟩
  iterate 5 (rw [cell_blk h]; rfl)
  all_goals exact frozen_blk h _
theorem WhyAt.drew {w W : World} {M : WM} {p : Nat} {F : Nat → Prop} {u : Value} (h : WhyAt w M p F u W) : WhyAt w M p F u W.drew := by
  obtain ⟨g, h1, h2, h3⟩ := h.err
  exact ⟨h.below.drew, h.hop, g, h1, h2, h3⟩
set_option maxHeartbeats 4000000 in
set_option maxRecDepth 8000 in
theorem wWhy_cut {w : World} {p : Nat} {M : WM} {F : Nat → Prop} {a r v : Int} {l : List Int} {t0 : Th} {ys : List Hop} {h : Hop} {i : Nat} (hW : IsW w p M F) (light : ∀ r t, M.at r = some t → Lite t)
    (ha : sideB M a = true) (hr : (Lit.int .i64 r).wf = true) (hl : WayIs M r l) (ht0 : M.at r = some t0) (hall : ∀ x ∈ l, ∃ t, M.at x = some t ∧ t.kind ≠ 15)
    (hv : AbleIs M 63 r v) (hav : (bits .and .u8 (bits .andNot .u8 1 v) 63 == 0) = true) (hcut : freeL M a l = false) (hwhat : WhatOk p M F) (hys : HopsIs M a l ys) (hlen : (ys.length : Int) ≤ 1099511627777) (hst : stopM 0 ys = some (h, i)) :
    Calls Tryz.prog 10 #[.pointer (some ⟨p, 0, none⟩), .int .i64 a, .int .i64 r, .int .u8 1, .agg #[.int .u8 0, .int .i64 0, .string ⟨#[]⟩, .slice none 0 0, .int .i64 0]] w fun e w' =>
      ∃ g, e = .returned (.tuple #[.agg #[.int .i64 h.edge, .int .i64 h.thing, .bool h.free], .iface 235 (.pointer (some ⟨g, 0, none⟩))]) ∧ FaultAt w' g 7 ∧ Below w.heap.size w w' := by
  have HW := (show Hid (IsW w p M F) from hW)
  have HLi := (show Hid (∀ r t, M.at r = some t → Lite t) from light)
  have HD := (show Hid (∀ (W : World) (q : Nat) (G : Nat → Prop), IsW W q M G → Calls Tryz.prog 26 #[.pointer (some ⟨q, 0, none⟩), .int .i64 a, .int .i64 r, .int .u8 1, .agg #[.int .u8 0, .int .i64 0, .string ⟨#[]⟩, .slice none 0 0, .int .i64 0], .nilFunc] W fun e w' =>
      ∃ g, e = .returned (.tuple #[.agg #[.int .u8 0, .int .i64 0, .string ⟨#[]⟩, .slice none 0 0, .int .i64 0], .iface 235 (.pointer (some ⟨g, 0, none⟩))]) ∧ FaultAt w' g 7 ∧ Below W.heap.size W w' ∧ W.heap.size ≤ g) from fun W q G h => acDo_cut h ha hr hl ht0 hall hv hav hcut)
  have HS := (show Hid (∀ (W : World), IsW W p M F → Calls Tryz.prog 9 #[.pointer (some ⟨p, 0, none⟩), .int .i64 a, .int .i64 r] W fun e w' => e = .returned (.tuple #[.agg #[.int .i64 h.edge, .int .i64 h.thing, .bool h.free], .int .i64 i, .bool true]) ∧ Below W.heap.size W w') from fun W hw => by
    have := wStop_W hw hwhat hr hl ha hys hlen
    rw [hst] at this
    exact this)
  clear hW light ha hl ht0 hall hv hav hcut hwhat hys hlen hst
  go_enter Tryz.func10, Tryz.ntmps10
  have HCp := (show Hid (∀ W, Below w.heap.size w W → Calls Tryz.prog 27 #[.pointer (some ⟨p, 0, none⟩)] W fun e w' => ∃ q, e = .returned (.pointer (some ⟨q, 0, none⟩)) ∧ (∃ G, IsW w' q M G) ∧ Below W.heap.size W w') from fun W hb => (Copy_W (HW.out.below hb) HLi).mono (fun e w' ⟨q, G, h1, h2, _, h4⟩ => ⟨q, h1, ⟨G, h2⟩, h4⟩))
  have HB0 : Hid (Below w.heap.size w ((w.alloc (.cells #[.int .u8 0, .int .i64 0, .string ⟨#[]⟩, .slice none 0 0, .int .i64 0] 29)).alloc (.cells #[.int .i64 0, .int .i64 0, .bool false] 47))) := ((Below.refl _ _).alloc (Nat.le_refl _) _).alloc (by simp) _
  have HX : Hid (∀ W, Below ((w.alloc (.cells #[.int .u8 0, .int .i64 0, .string ⟨#[]⟩, .slice none 0 0, .int .i64 0] 29)).alloc (.cells #[.int .i64 0, .int .i64 0, .bool false] 47)).heap.size ((w.alloc (.cells #[.int .u8 0, .int .i64 0, .string ⟨#[]⟩, .slice none 0 0, .int .i64 0] 29)).alloc (.cells #[.int .i64 0, .int .i64 0, .bool false] 47)) W → W.cell? ⟨w.heap.size, 0, none⟩ = some (.int .u8 0) ∧ W.cell? ⟨w.heap.size, 1, none⟩ = some (.int .i64 0) ∧ W.cell? ⟨w.heap.size, 2, none⟩ = some (.string ⟨#[]⟩) ∧ W.cell? ⟨w.heap.size, 3, none⟩ = some (.slice none 0 0) ∧ W.cell? ⟨w.heap.size, 4, none⟩ = some (.int .i64 0)) := fun W hb => by
    have h := (hb.block _ (by simp; omega)).trans (blk_old _ (.cells #[.int .i64 0, .int .i64 0, .bool false] 47) (blk_new w (.cells #[.int .u8 0, .int .i64 0, .string ⟨#[]⟩, .slice none 0 0, .int .i64 0] 29)))
    refine ⟨?_, ?_, ?_, ?_, ?_⟩ <;> (rw [cell_blk h]; rfl)
  go_upto_region 1 with fail
  go_cut [13] (fun u13 wx => Hid (WhyAt w M p F u13 wx))
  case first =>
    go_region_with (first
      | (go_at_call 27; refine (HCp.out _ (by first | exact HB0.out | exact HB0.out.drew | exact HB0.out.alloc HB0.out.size _ | exact (HB0.out.alloc HB0.out.size _).drew | exact HB0.out.drew.alloc HB0.out.size _)).mono ?_; rintro e w2 ⟨q, rfl, ⟨G, k1⟩, k2⟩
         have kb : Below w.heap.size w w2 := by first | exact HB0.out.trans (k2.mono HB0.out.size) | exact HB0.out.trans ((below_undrew k2).mono HB0.out.size) | exact (HB0.out.alloc HB0.out.size _).trans (k2.mono (HB0.out.alloc HB0.out.size _).size) | exact (HB0.out.alloc HB0.out.size _).trans ((below_undrew k2).mono (HB0.out.alloc HB0.out.size _).size)
         obtain ⟨kx, kh⟩ : w2.heap[w.heap.size]? = some (.cells #[.int .u8 0, .int .i64 0, .string ⟨#[]⟩, .slice none 0 0, .int .i64 0] 29 (0, 0)) ∧ w2.heap[w.heap.size + 1]? = some (.cells #[.int .i64 0, .int .i64 0, .bool false] 47 (0, 0)) := by
           have h1 := blk_old _ (.cells #[.int .i64 0, .int .i64 0, .bool false] 47) (blk_new w (.cells #[.int .u8 0, .int .i64 0, .string ⟨#[]⟩, .slice none 0 0, .int .i64 0] 29))
           have h2 := blkNew (w.alloc (.cells #[.int .u8 0, .int .i64 0, .string ⟨#[]⟩, .slice none 0 0, .int .i64 0] 29)) (.cells #[.int .i64 0, .int .i64 0, .bool false] 47) (g := w.heap.size + 1) (by simp)
           first
             | exact ⟨(k2.block _ (blk_lt h1)).trans h1, (k2.block _ (blk_lt h2)).trans h2⟩
             | exact ⟨(k2.block _ (blk_lt (blk_old _ _ h1))).trans (blk_old _ _ h1), (k2.block _ (blk_lt (blk_old _ _ h2))).trans (blk_old _ _ h2)⟩
         obtain ⟨x0, x1, x2, x3, x4⟩ := (nvFacts kx).1
         have a0 := fun o => (nvFacts (blk_old w2 o kx)).1.1
         have a1 := fun o => (nvFacts (blk_old w2 o kx)).1.2.1
         have a2 := fun o => (nvFacts (blk_old w2 o kx)).1.2.2.1
         have a3 := fun o => (nvFacts (blk_old w2 o kx)).1.2.2.2.1
         have a4 := fun o => (nvFacts (blk_old w2 o kx)).1.2.2.2.2
         have KX : Hid (Below w.heap.size w w2 ∧ w2.heap[w.heap.size + 1]? = some (.cells #[.int .i64 0, .int .i64 0, .bool false] 47 (0, 0)) ∧ w.heap.size + 2 ≤ w2.heap.size) := ⟨kb, kh, blk_lt kh⟩
         first
           | have K12 : Hid (w2.heap[w.heap.size + 1 + 1]? = some (.cells #[.int .u8 0, .int .i64 0, .string ⟨#[]⟩, .slice none 0 0, .int .i64 0] 29 (0, 0))) := (k2.block _ (by simp)).trans (blkNew _ _ (by simp))
           | skip
         clear kb kx kh)
      | (go_at_call 26; refine (HD.out _ _ _ (by first | exact k1 | exact k1.below ((Below.refl _ _).alloc (Nat.le_refl _) _) | exact k1.below below_drew)).mono ?_; rintro e w3 ⟨g, rfl, j1, j2, j3⟩
         have jb : Below w2.heap.size w2 w3 := by first | exact j2 | exact below_undrew j2 | exact ((Below.refl _ _).alloc (Nat.le_refl _) _).trans (j2.mono (by simp)) | exact ((Below.refl _ _).alloc (Nat.le_refl _) _).trans ((below_undrew j2).mono (by simp))
         have JX : Hid (Below w.heap.size w w3 ∧ w3.heap[w.heap.size + 1]? = some (.cells #[.int .i64 0, .int .i64 0, .bool false] 47 (0, 0)) ∧ FaultAt w3 g 7 ∧ w.heap.size + 2 ≤ w2.heap.size ∧ w2.heap.size ≤ w3.heap.size) := ⟨KX.out.1.trans (jb.mono KX.out.1.size), (jb.block _ (by have := KX.out.2.2; omega)).trans KX.out.2.1, j1, KX.out.2.2, jb.size⟩
         have JG : Hid (w2.heap.size ≤ g ∧ g < w3.heap.size) := ⟨by first | omega | (simp at j3; omega), blk_lt j1⟩
         first
           | have J12 : Hid (w3.heap[w2.heap.size]? = some (.cells #[.int .u8 0, .int .i64 0, .string ⟨#[]⟩, .slice none 0 0, .int .i64 0] 29 (0, 0)) ∧ g ≠ w2.heap.size) := ⟨(j2.block _ (by simp)).trans (blkNew _ _ (by simp)), by first | omega | (simp at j3; omega)⟩
             obtain ⟨⟨z0, z1, z2, z3, z4⟩, y0, y1, y2, y3, y4⟩ := nvFacts J12.out.1
           | have J12 : Hid (w3.heap[w.heap.size + 1 + 1]? = some (.cells #[.int .u8 0, .int .i64 0, .string ⟨#[]⟩, .slice none 0 0, .int .i64 0] 29 (0, 0)) ∧ w.heap.size + 2 < g) := ⟨(jb.block _ (blk_lt K12.out)).trans K12.out, by have h12 := blk_lt K12.out; first | omega | (simp at j3; omega)⟩
             obtain ⟨⟨z0, z1, z2, z3, z4⟩, y0, y1, y2, y3, y4⟩ := nvFacts J12.out.1
           | skip
         clear j1 j2 j3 jb))
    all_goals
      go_wp2_with fail
      go_meet
      case rel =>
        first
          | exact ⟨JX.out.1.alloc (Nat.le_trans (Nat.le_trans (Nat.le_add_right _ 2) JX.out.2.2.2.1) JX.out.2.2.2.2) _, blk_old _ _ JX.out.2.1, _, rfl, blk_old _ _ JX.out.2.2.1, by have := JG.out.1; have := JX.out.2.2.2.1; omega⟩
          | exact WhyAt.close J12.out.1 JX.out.1 JX.out.2.1 JX.out.2.2.1 (by have := JX.out.2.2.2.1; omega) J12.out.2 (by have := JG.out.1; have := JX.out.2.2.2.1; omega)
          | exact WhyAt.close J12.out.1 JX.out.1 JX.out.2.1 JX.out.2.2.1 (by omega) (by have := J12.out.2; omega) (by have := JG.out.1; have := JX.out.2.2.2.1; omega)
  obtain ⟨hBc, hHc, g, rfl, hGc, hgs⟩ := hcut
  have HBc := (show Hid (Below w.heap.size w wc ∧ w.heap.size + 2 ≤ g) from ⟨hBc, hgs⟩)
  have HHc := (show Hid (wc.heap[w.heap.size + 1]? = some (.cells #[.int .i64 0, .int .i64 0, .bool false] 47 (0, 0))) from hHc)
  have HGc := (show Hid (FaultAt wc g 7) from hGc)
  have hsz : w.heap.size + 1 < wc.heap.size := blk_lt hHc
  have HSz := (show Hid (w.heap.size + 2 ≤ wc.heap.size) from hsz)
  clear hBc hHc hGc hgs hsz HCp HB0 HX HLi HD
  refine ‹∀ (a : Act) (w : World), Code.wp Tryz.prog _ _ a w → _› _ _ ?_
  go_wp2_with fail
  have hF0 : (wc.alloc (.cells #[.nilIface] 87)).heap[wc.heap.size]? = some (.cells #[.nilIface] 87 (0, 0)) := blk_new wc _
  have hAs := as_fault' (e := ⟨g, 0, none⟩) hF0
  refine hAs.mono ?_
  rintro e w4 ⟨rfl, hF4, hK4⟩
  have hB4 : Below wc.heap.size wc w4 := ((Below.refl _ _).alloc (Nat.le_refl _) _).trans (Keeps.below hK4 (by simp) (fun x hx => by have e : x = wc.heap.size := hx; omega))
  have HB4 := (show Hid (Below wc.heap.size wc w4) from hB4)
  have c4 : w4.cell? ⟨wc.heap.size, 0, none⟩ = some (.iface 235 (.pointer (some ⟨g, 0, none⟩))) := by rw [cell_blk hF4]; rfl
  have HG4 : Hid (FaultAt w4 g 7) := HGc.out.below hB4
  have mC := Tryz.methodCodeT
  clear hF0 hAs hF4 hK4 hB4
  go_wp2_with fail
  refine (fCode_leaf HG4.out).mono ?_
  rintro e _ ⟨rfl, rfl⟩
  have HW4 : Hid (IsW w4 p M F) := HW.out.below (HBc.out.1.trans (HB4.out.mono HBc.out.1.size))
  go_wp2_with fail
  refine (HS.out _ HW4.out).mono ?_
  rintro e w5 ⟨rfl, hb5⟩
  have HB5 : Hid (Below wc.heap.size wc w5) := HB4.out.trans (hb5.mono HB4.out.size)
  have hh := (HB5.out.block _ (blk_lt HHc.out)).trans HHc.out
  have HH5 := (show Hid (w5.heap[w.heap.size + 1]? = some (.cells #[.int .i64 0, .int .i64 0, .bool false] 47 (0, 0))) from hh)
  have d0 : ∀ o, (w5.alloc o).cell? ⟨w.heap.size + 1, 0, none⟩ = some (.int .i64 0) := fun o => by rw [cell_blk (blk_old _ o hh)]; rfl
  have d1 : ∀ o, (w5.alloc o).cell? ⟨w.heap.size + 1, 1, none⟩ = some (.int .i64 0) := fun o => by rw [cell_blk (blk_old _ o hh)]; rfl
  have d2 : ∀ o, (w5.alloc o).cell? ⟨w.heap.size + 1, 2, none⟩ = some (.bool false) := fun o => by rw [cell_blk (blk_old _ o hh)]; rfl
  have e0 : ∀ o, (w5.alloc o).frozen? ⟨w.heap.size + 1, 0, none⟩ = false := fun o => frozen_blk (blk_old _ o hh) 0
  have e1 : ∀ o, (w5.alloc o).frozen? ⟨w.heap.size + 1, 1, none⟩ = false := fun o => frozen_blk (blk_old _ o hh) 1
  have e2 : ∀ o, (w5.alloc o).frozen? ⟨w.heap.size + 1, 2, none⟩ = false := fun o => frozen_blk (blk_old _ o hh) 2
  have HG5 : Hid (FaultAt w5 g 7) := HG4.out.below hb5
  clear hb5 hh c4
  go_wp2_with fail
  have k1 := blk_setCell (blk_setCell (blk_setCell (blk_old w5 (.cells #[.int .i64 h.edge, .int .i64 h.thing, .bool h.free] 47) HH5.out) 0 (.int .i64 h.edge)) 1 (.int .i64 h.thing)) 2 (.bool h.free)
  have k2 : FaultAt ((((w5.alloc (.cells #[.int .i64 h.edge, .int .i64 h.thing, .bool h.free] 47)).setCell ⟨w.heap.size + 1, 0, none⟩ (.int .i64 h.edge)).setCell ⟨w.heap.size + 1, 1, none⟩ (.int .i64 h.thing)).setCell ⟨w.heap.size + 1, 2, none⟩ (.bool h.free)) g 7 :=
    blk_other (blk_other (blk_other (blk_old _ _ HG5.out) ⟨w.heap.size + 1, 0, none⟩ _ (by have := HBc.out.2; show g ≠ w.heap.size + 1; omega)) ⟨w.heap.size + 1, 1, none⟩ _ (by have := HBc.out.2; show g ≠ w.heap.size + 1; omega)) ⟨w.heap.size + 1, 2, none⟩ _ (by have := HBc.out.2; show g ≠ w.heap.size + 1; omega)
  have hB5 : Below w.heap.size w w5 := HBc.out.1.trans (HB5.out.mono HBc.out.1.size)
  exact ⟨rfl, _, results_H2 rfl _ _ (w.heap.size + 1) rfl k1, g, rfl, k2, (((hB5.alloc hB5.size _).setCell (by show w.heap.size ≤ w.heap.size + 1; omega) _).setCell (by show w.heap.size ≤ w.heap.size + 1; omega) _).setCell (by show w.heap.size ≤ w.heap.size + 1; omega) _⟩
end Go.Proofs.YtifmifjbebpomaaGreatDoor
/- The wall's Why over worlds that are not there. -/
namespace Go.Proofs.YtifmifjbebpomaaGreatDoor
open Go.RowKit Go.Shelf Go.ChangeMaps Go.MapKept

theorem acthere_nil (w : World) : Calls Tryz.prog 98 #[.pointer none] w fun e w' => e = .returned (.bool false) ∧ w = w' := by
  go_enter Tryz.func98, Tryz.ntmps98
  go_wp2_with fail
  go_ret
  exact ⟨rfl, rfl⟩
theorem acWhy_nil (w : World) (a r by_ : Int) (v1 v2 v3 v4 v5 : Value) : Calls Tryz.prog 59 #[.pointer none, .int .i64 a, .int .i64 r, .int .u8 by_, .agg #[v1, v2, v3, v4, v5]] w fun e w' => e = .returned (.int .i64 1) ∧ Below w.heap.size w w' := by
  have H := fun W => acthere_nil W
  have HB : Hid (Below w.heap.size w (w.alloc (.cells #[v1, v2, v3, v4, v5] 29))) := (Below.refl _ _).alloc (Nat.le_refl _) _
  go_enter Tryz.func59, Tryz.ntmps59
  go_wp2_with fail
  refine (H _).mono ?_
  rintro e _ ⟨rfl, rfl⟩
  go_wp2_with fail
  go_ret
  exact ⟨rfl, HB.out⟩
set_option maxRecDepth 8000 in
theorem acDo_nil (w : World) (a r by_ : Int) (v1 v2 v3 v4 v5 : Value) :
    Calls Tryz.prog 26 #[.pointer none, .int .i64 a, .int .i64 r, .int .u8 by_, .agg #[v1, v2, v3, v4, v5], .nilFunc] w fun e w' =>
      ∃ g, e = .returned (.tuple #[.agg #[.int .u8 0, .int .i64 0, .string ⟨#[]⟩, .slice none 0 0, .int .i64 0], .iface 235 (.pointer (some ⟨g, 0, none⟩))]) ∧ FaultAt w' g 1 ∧ Below w.heap.size w w' ∧ w.heap.size ≤ g := by
  have HC := (show Hid (∀ W, Calls Tryz.prog 59 #[.pointer none, .int .i64 a, .int .i64 r, .int .u8 by_, .agg #[v1, v2, v3, v4, v5]] W fun e w' => e = .returned (.int .i64 1) ∧ Below W.heap.size W w') from fun W => acWhy_nil W a r by_ v1 v2 v3 v4 v5)
  have HF := fun W => acOf_W 1 (by decide) W
  obtain ⟨wA, hwA⟩ : ∃ wA, (((((w.alloc (.cells #[.pointer none] 31)).alloc (.cells #[.int .i64 r] 24)).alloc (.cells #[.int .u8 by_] 25)).alloc (.cells #[v1, v2, v3, v4, v5] 29)).alloc (.cells #[.nilFunc] 130)).alloc (.cells #[.int .u8 0, .int .i64 0, .string ⟨#[]⟩, .slice none 0 0, .int .i64 0] 29) = wA := ⟨_, rfl⟩
  have hbA : Below w.heap.size w wA := by rw [← hwA]; exact ((((((Below.refl _ _).alloc (Nat.le_refl _) _).alloc (by simp) _).alloc (by simp; omega) _).alloc (by simp; omega) _).alloc (by simp; omega) _).alloc (by simp; omega) _
  have hxA : wA.heap[w.heap.size + 5]? = some (.cells #[.int .u8 0, .int .i64 0, .string ⟨#[]⟩, .slice none 0 0, .int .i64 0] 29 (0, 0)) := by
    rw [← hwA]
    have h := blk_new ((((((w.alloc (.cells #[.pointer none] 31)).alloc (.cells #[.int .i64 r] 24)).alloc (.cells #[.int .u8 by_] 25)).alloc (.cells #[v1, v2, v3, v4, v5] 29)).alloc (.cells #[.nilFunc] 130))) (.cells #[.int .u8 0, .int .i64 0, .string ⟨#[]⟩, .slice none 0 0, .int .i64 0] 29)
    simpa using h
  have HXA := (show Hid (wA.heap[w.heap.size + 5]? = some (.cells #[.int .u8 0, .int .i64 0, .string ⟨#[]⟩, .slice none 0 0, .int .i64 0] 29 (0, 0))) from hxA)
  have HBA := (show Hid (Below w.heap.size w wA) from hbA)
  have HwA := (show Hid (_ = wA) from hwA)
  clear hbA hxA hwA
  go_enter Tryz.func26, Tryz.ntmps26
  go_wp2_with fail
  rw [HwA.out]
  refine (HC.out _).mono ?_
  rintro e w2 ⟨rfl, hb2⟩
  have HB2 := (show Hid (Below wA.heap.size wA w2) from hb2)
  clear hb2 HwA
  go_wp2_with fail
  refine (HF _).mono ?_
  rintro e w3 ⟨g, rfl, hg, hgs, hb3⟩
  have HB3 : Hid (Below wA.heap.size wA w3) := HB2.out.trans (hb3.mono HB2.out.size)
  have HG := (show Hid (FaultAt w3 g 1 ∧ w2.heap.size ≤ g) from ⟨hg, hgs⟩)
  have hx := (HB3.out.block _ (blk_lt HXA.out)).trans HXA.out
  have HX := (show Hid (w3.heap[w.heap.size + 5]? = some (.cells #[.int .u8 0, .int .i64 0, .string ⟨#[]⟩, .slice none 0 0, .int .i64 0] 29 (0, 0))) from hx)
  have x0 : w3.cell? ⟨w.heap.size + 1 + 1 + 1 + 1 + 1, 0, none⟩ = some (.int .u8 0) := by rw [cell_blk hx]; rfl
  have x1 : w3.cell? ⟨w.heap.size + 1 + 1 + 1 + 1 + 1, 1, none⟩ = some (.int .i64 0) := by rw [cell_blk hx]; rfl
  have x2 : w3.cell? ⟨w.heap.size + 1 + 1 + 1 + 1 + 1, 2, none⟩ = some (.string ⟨#[]⟩) := by rw [cell_blk hx]; rfl
  have x3 : w3.cell? ⟨w.heap.size + 1 + 1 + 1 + 1 + 1, 3, none⟩ = some (.slice none 0 0) := by rw [cell_blk hx]; rfl
  have x4 : w3.cell? ⟨w.heap.size + 1 + 1 + 1 + 1 + 1, 4, none⟩ = some (.int .i64 0) := by rw [cell_blk hx]; rfl
  have y0 : w3.frozen? ⟨w.heap.size + 1 + 1 + 1 + 1 + 1, 0, none⟩ = false := frozen_blk hx 0
  have y1 : w3.frozen? ⟨w.heap.size + 1 + 1 + 1 + 1 + 1, 1, none⟩ = false := frozen_blk hx 1
  have y2 : w3.frozen? ⟨w.heap.size + 1 + 1 + 1 + 1 + 1, 2, none⟩ = false := frozen_blk hx 2
  have y3 : w3.frozen? ⟨w.heap.size + 1 + 1 + 1 + 1 + 1, 3, none⟩ = false := frozen_blk hx 3
  have y4 : w3.frozen? ⟨w.heap.size + 1 + 1 + 1 + 1 + 1, 4, none⟩ = false := frozen_blk hx 4
  clear hb3 hg hgs hx
  go_wp2_with fail
  obtain ⟨w4, hw4, k1, k2, k3⟩ := set5V HX.out
  have hne : w.heap.size + 5 ≠ g := by
    have h1 := blk_lt HXA.out
    have h2 := HB2.out.size
    have h3 := HG.out.2
    omega
  have hsw : w.heap.size ≤ wA.heap.size := HBA.out.size
  exact ⟨rfl, _, results_V2 rfl _ _ (w.heap.size + 5) rfl (by rw [hw4]; exact k1), g, rfl, by rw [hw4]; exact (k2 g hne.symm).trans HG.out.1, by rw [hw4]; exact k3 _ _ (HBA.out.trans (HB3.out.mono hsw)) (by omega), by have := HG.out.2; have := HB2.out.size; omega⟩
theorem nvF5 {W : World} {b : Nat} {v1 v2 v3 v4 v5 : Value} (h : W.heap[b]? = some (.cells #[v1, v2, v3, v4, v5] 29 (0, 0))) : W.cell? ⟨b, 0, none⟩ = some v1 ∧ W.cell? ⟨b, 1, none⟩ = some v2 ∧ W.cell? ⟨b, 2, none⟩ = some v3 ∧ W.cell? ⟨b, 3, none⟩ = some v4 ∧ W.cell? ⟨b, 4, none⟩ = some v5 := by
  refine ⟨?_, ?_, ?_, ?_, ?_⟩
  iterate 5 (rw [cell_blk h]; rfl)
/-- Behind the act. -/
structure NyAt (w : World) (u : Value) (W : World) : Prop where
  below : Below w.heap.size w W
  hop : W.heap[w.heap.size + 1]? = some (.cells #[.int .i64 0, .int .i64 0, .bool false] 47 (0, 0))
  err : ∃ g, u = .iface 235 (.pointer (some ⟨g, 0, none⟩)) ∧ FaultAt W g 1 ∧ w.heap.size + 2 ≤ g
theorem NyAt.close {w W : World} {g b : Nat} (hv : W.heap[b]? = some (.cells #[.int .u8 0, .int .i64 0, .string ⟨#[]⟩, .slice none 0 0, .int .i64 0] 29 (0, 0))) (hb : Below w.heap.size w W) (hop : W.heap[w.heap.size + 1]? = some (.cells #[.int .i64 0, .int .i64 0, .bool false] 47 (0, 0)))
    (hg : FaultAt W g 1) (h1 : w.heap.size + 2 ≤ b) (h2 : g ≠ b) (h3 : w.heap.size + 2 ≤ g) : NyAt w (.iface 235 (.pointer (some ⟨g, 0, none⟩))) (((((W.setCell ⟨b, 0, none⟩ (.int .u8 0)).setCell ⟨b, 1, none⟩ (.int .i64 0)).setCell ⟨b, 2, none⟩ (.string ⟨#[]⟩)).setCell ⟨b, 3, none⟩ (.slice none 0 0)).setCell ⟨b, 4, none⟩ (.int .i64 0)) := by
  obtain ⟨W', hW', k1, k2, k3⟩ := set5V hv
  rw [hW']
  exact ⟨k3 _ _ hb (by omega), (k2 _ (by omega)).trans hop, g, rfl, (k2 _ h2).trans hg, h3⟩
theorem NyAt.drew {w W : World} {u : Value} (h : NyAt w u W) : NyAt w u W.drew := by
  obtain ⟨g, h1, h2, h3⟩ := h.err
  exact ⟨h.below.drew, h.hop, g, h1, h2, h3⟩
set_option maxHeartbeats 4000000 in
set_option maxRecDepth 8000 in
theorem wWhy_no {w : World} {q : Option Addr} (hN : NoW w (.pointer q)) (a r by_ : Int) (v1 v2 v3 v4 v5 : Value) :
    Calls Tryz.prog 10 #[.pointer q, .int .i64 a, .int .i64 r, .int .u8 by_, .agg #[v1, v2, v3, v4, v5]] w fun e w' =>
      ∃ g, e = .returned (.tuple #[.agg #[.int .i64 0, .int .i64 0, .bool false], .iface 235 (.pointer (some ⟨g, 0, none⟩))]) ∧ FaultAt w' g 1 ∧ Below w.heap.size w w' := by
  have HN := (show Hid (NoW w (.pointer q)) from hN)
  have HD := (show Hid (∀ (W : World), Calls Tryz.prog 26 #[.pointer none, .int .i64 a, .int .i64 r, .int .u8 by_, .agg #[v1, v2, v3, v4, v5], .nilFunc] W fun e w' =>
      ∃ g, e = .returned (.tuple #[.agg #[.int .u8 0, .int .i64 0, .string ⟨#[]⟩, .slice none 0 0, .int .i64 0], .iface 235 (.pointer (some ⟨g, 0, none⟩))]) ∧ FaultAt w' g 1 ∧ Below W.heap.size W w' ∧ W.heap.size ≤ g) from fun W => acDo_nil W a r by_ v1 v2 v3 v4 v5)
  clear hN
  go_enter Tryz.func10, Tryz.ntmps10
  have HCp := (show Hid (∀ W, Below w.heap.size w W → Calls Tryz.prog 27 #[.pointer q] W fun e w' => e = .returned (.pointer none) ∧ Below W.heap.size W w') from fun W hb => (wCopy_no (HN.out.below hb)).mono (fun e w' ⟨h1, h2⟩ => ⟨h1, by subst h2; exact Below.refl _ _⟩))
  have HB0 : Hid (Below w.heap.size w ((w.alloc (.cells #[v1, v2, v3, v4, v5] 29)).alloc (.cells #[.int .i64 0, .int .i64 0, .bool false] 47))) := ((Below.refl _ _).alloc (Nat.le_refl _) _).alloc (by simp) _
  have HX : Hid (∀ W, Below ((w.alloc (.cells #[v1, v2, v3, v4, v5] 29)).alloc (.cells #[.int .i64 0, .int .i64 0, .bool false] 47)).heap.size ((w.alloc (.cells #[v1, v2, v3, v4, v5] 29)).alloc (.cells #[.int .i64 0, .int .i64 0, .bool false] 47)) W → W.cell? ⟨w.heap.size, 0, none⟩ = some v1 ∧ W.cell? ⟨w.heap.size, 1, none⟩ = some v2 ∧ W.cell? ⟨w.heap.size, 2, none⟩ = some v3 ∧ W.cell? ⟨w.heap.size, 3, none⟩ = some v4 ∧ W.cell? ⟨w.heap.size, 4, none⟩ = some v5) := fun W hb => by
    have h := (hb.block _ (by simp; omega)).trans (blk_old _ (.cells #[.int .i64 0, .int .i64 0, .bool false] 47) (blk_new w (.cells #[v1, v2, v3, v4, v5] 29)))
    refine ⟨?_, ?_, ?_, ?_, ?_⟩ <;> (rw [cell_blk h]; rfl)
  go_upto_region 1 with fail
  go_cut [13] (fun u13 wx => Hid (NyAt w u13 wx))
  case first =>
    go_region_with (first
      | (go_at_call 27; refine (HCp.out _ (by first | exact HB0.out | exact HB0.out.drew | exact HB0.out.alloc HB0.out.size _ | exact (HB0.out.alloc HB0.out.size _).drew | exact HB0.out.drew.alloc HB0.out.size _)).mono ?_; rintro e w2 ⟨rfl, k2⟩
         have kb : Below w.heap.size w w2 := by first | exact HB0.out.trans (k2.mono HB0.out.size) | exact HB0.out.trans ((below_undrew k2).mono HB0.out.size) | exact (HB0.out.alloc HB0.out.size _).trans (k2.mono (HB0.out.alloc HB0.out.size _).size) | exact (HB0.out.alloc HB0.out.size _).trans ((below_undrew k2).mono (HB0.out.alloc HB0.out.size _).size)
         obtain ⟨kx, kh⟩ : w2.heap[w.heap.size]? = some (.cells #[v1, v2, v3, v4, v5] 29 (0, 0)) ∧ w2.heap[w.heap.size + 1]? = some (.cells #[.int .i64 0, .int .i64 0, .bool false] 47 (0, 0)) := by
           have h1 := blk_old _ (.cells #[.int .i64 0, .int .i64 0, .bool false] 47) (blk_new w (.cells #[v1, v2, v3, v4, v5] 29))
           have h2 := blkNew (w.alloc (.cells #[v1, v2, v3, v4, v5] 29)) (.cells #[.int .i64 0, .int .i64 0, .bool false] 47) (g := w.heap.size + 1) (by simp)
           first
             | exact ⟨(k2.block _ (blk_lt h1)).trans h1, (k2.block _ (blk_lt h2)).trans h2⟩
             | exact ⟨(k2.block _ (blk_lt (blk_old _ _ h1))).trans (blk_old _ _ h1), (k2.block _ (blk_lt (blk_old _ _ h2))).trans (blk_old _ _ h2)⟩
         obtain ⟨x0, x1, x2, x3, x4⟩ := nvF5 kx
         have a0 := fun o => (nvF5 (blk_old w2 o kx)).1
         have a1 := fun o => (nvF5 (blk_old w2 o kx)).2.1
         have a2 := fun o => (nvF5 (blk_old w2 o kx)).2.2.1
         have a3 := fun o => (nvF5 (blk_old w2 o kx)).2.2.2.1
         have a4 := fun o => (nvF5 (blk_old w2 o kx)).2.2.2.2
         have KX : Hid (Below w.heap.size w w2 ∧ w2.heap[w.heap.size + 1]? = some (.cells #[.int .i64 0, .int .i64 0, .bool false] 47 (0, 0)) ∧ w.heap.size + 2 ≤ w2.heap.size) := ⟨kb, kh, blk_lt kh⟩
         first
           | have K12 : Hid (w2.heap[w.heap.size + 1 + 1]? = some (.cells #[.int .u8 0, .int .i64 0, .string ⟨#[]⟩, .slice none 0 0, .int .i64 0] 29 (0, 0))) := (k2.block _ (by simp)).trans (blkNew _ _ (by simp))
           | skip
         clear kb kx kh)
      | (go_at_call 26; refine (HD.out _).mono ?_; rintro e w3 ⟨g, rfl, j1, j2, j3⟩
         have jb : Below w2.heap.size w2 w3 := by first | exact j2 | exact below_undrew j2 | exact ((Below.refl _ _).alloc (Nat.le_refl _) _).trans (j2.mono (by simp)) | exact ((Below.refl _ _).alloc (Nat.le_refl _) _).trans ((below_undrew j2).mono (by simp))
         have JX : Hid (Below w.heap.size w w3 ∧ w3.heap[w.heap.size + 1]? = some (.cells #[.int .i64 0, .int .i64 0, .bool false] 47 (0, 0)) ∧ FaultAt w3 g 1 ∧ w.heap.size + 2 ≤ w2.heap.size ∧ w2.heap.size ≤ w3.heap.size) := ⟨KX.out.1.trans (jb.mono KX.out.1.size), (jb.block _ (by have := KX.out.2.2; omega)).trans KX.out.2.1, j1, KX.out.2.2, jb.size⟩
         have JG : Hid (w2.heap.size ≤ g ∧ g < w3.heap.size) := ⟨by first | omega | (simp at j3; omega), blk_lt j1⟩
         first
           | have J12 : Hid (w3.heap[w2.heap.size]? = some (.cells #[.int .u8 0, .int .i64 0, .string ⟨#[]⟩, .slice none 0 0, .int .i64 0] 29 (0, 0)) ∧ g ≠ w2.heap.size) := ⟨(j2.block _ (by simp)).trans (blkNew _ _ (by simp)), by first | omega | (simp at j3; omega)⟩
             obtain ⟨⟨z0, z1, z2, z3, z4⟩, y0, y1, y2, y3, y4⟩ := nvFacts J12.out.1
           | have J12 : Hid (w3.heap[w.heap.size + 1 + 1]? = some (.cells #[.int .u8 0, .int .i64 0, .string ⟨#[]⟩, .slice none 0 0, .int .i64 0] 29 (0, 0)) ∧ w.heap.size + 2 < g) := ⟨(jb.block _ (blk_lt K12.out)).trans K12.out, by have h12 := blk_lt K12.out; first | omega | (simp at j3; omega)⟩
             obtain ⟨⟨z0, z1, z2, z3, z4⟩, y0, y1, y2, y3, y4⟩ := nvFacts J12.out.1
           | skip
         clear j1 j2 j3 jb))
    all_goals
      go_wp2_with fail
      go_meet
      case rel =>
        first
          | exact ⟨JX.out.1.alloc (Nat.le_trans (Nat.le_trans (Nat.le_add_right _ 2) JX.out.2.2.2.1) JX.out.2.2.2.2) _, blk_old _ _ JX.out.2.1, _, rfl, blk_old _ _ JX.out.2.2.1, by have := JG.out.1; have := JX.out.2.2.2.1; omega⟩
          | exact NyAt.close J12.out.1 JX.out.1 JX.out.2.1 JX.out.2.2.1 (by have := JX.out.2.2.2.1; omega) J12.out.2 (by have := JG.out.1; have := JX.out.2.2.2.1; omega)
          | exact NyAt.close J12.out.1 JX.out.1 JX.out.2.1 JX.out.2.2.1 (by omega) (by have := J12.out.2; omega) (by have := JG.out.1; have := JX.out.2.2.2.1; omega)
  obtain ⟨hBc, hHc, g, rfl, hGc, hgs⟩ := hcut
  have HBc := (show Hid (Below w.heap.size w wc ∧ w.heap.size + 2 ≤ g) from ⟨hBc, hgs⟩)
  have HHc := (show Hid (wc.heap[w.heap.size + 1]? = some (.cells #[.int .i64 0, .int .i64 0, .bool false] 47 (0, 0))) from hHc)
  have HGc := (show Hid (FaultAt wc g 1) from hGc)
  have hsz : w.heap.size + 1 < wc.heap.size := blk_lt hHc
  have HSz := (show Hid (w.heap.size + 2 ≤ wc.heap.size) from hsz)
  clear hBc hHc hGc hgs hsz HCp HB0 HX HD
  refine ‹∀ (a : Act) (w : World), Code.wp Tryz.prog _ _ a w → _› _ _ ?_
  go_wp2_with fail
  have hF0 : (wc.alloc (.cells #[.nilIface] 87)).heap[wc.heap.size]? = some (.cells #[.nilIface] 87 (0, 0)) := blk_new wc _
  have hAs := as_fault' (e := ⟨g, 0, none⟩) hF0
  refine hAs.mono ?_
  rintro e w4 ⟨rfl, hF4, hK4⟩
  have hB4 : Below wc.heap.size wc w4 := ((Below.refl _ _).alloc (Nat.le_refl _) _).trans (Keeps.below hK4 (by simp) (fun x hx => by have e : x = wc.heap.size := hx; omega))
  have HB4 := (show Hid (Below wc.heap.size wc w4) from hB4)
  have c4 : w4.cell? ⟨wc.heap.size, 0, none⟩ = some (.iface 235 (.pointer (some ⟨g, 0, none⟩))) := by rw [cell_blk hF4]; rfl
  have HG4 : Hid (FaultAt w4 g 1) := HGc.out.below hB4
  have mC := Tryz.methodCodeT
  clear hF0 hAs hF4 hK4 hB4
  go_wp2_with fail
  refine (fCode_leaf HG4.out).mono ?_
  rintro e _ ⟨rfl, rfl⟩
  have hh := (HB4.out.block _ (blk_lt HHc.out)).trans HHc.out
  have HH5 := (show Hid (w4.heap[w.heap.size + 1]? = some (.cells #[.int .i64 0, .int .i64 0, .bool false] 47 (0, 0))) from hh)
  have d0 : w4.cell? ⟨w.heap.size + 1, 0, none⟩ = some (.int .i64 0) := by rw [cell_blk hh]; rfl
  have d1 : w4.cell? ⟨w.heap.size + 1, 1, none⟩ = some (.int .i64 0) := by rw [cell_blk hh]; rfl
  have d2 : w4.cell? ⟨w.heap.size + 1, 2, none⟩ = some (.bool false) := by rw [cell_blk hh]; rfl
  have e0 : w4.frozen? ⟨w.heap.size + 1, 0, none⟩ = false := frozen_blk hh 0
  have e1 : w4.frozen? ⟨w.heap.size + 1, 1, none⟩ = false := frozen_blk hh 1
  have e2 : w4.frozen? ⟨w.heap.size + 1, 2, none⟩ = false := frozen_blk hh 2
  clear hh c4
  go_wp2_with fail
  trace_state
  have k1 := blk_setCell (blk_setCell (blk_setCell HH5.out 0 (.int .i64 0)) 1 (.int .i64 0)) 2 (.bool false)
  have k2 : FaultAt (((w4.setCell ⟨w.heap.size + 1, 0, none⟩ (.int .i64 0)).setCell ⟨w.heap.size + 1, 1, none⟩ (.int .i64 0)).setCell ⟨w.heap.size + 1, 2, none⟩ (.bool false)) g 1 :=
    blk_other (blk_other (blk_other HG4.out ⟨w.heap.size + 1, 0, none⟩ _ (by have := HBc.out.2; show g ≠ w.heap.size + 1; omega)) ⟨w.heap.size + 1, 1, none⟩ _ (by have := HBc.out.2; show g ≠ w.heap.size + 1; omega)) ⟨w.heap.size + 1, 2, none⟩ _ (by have := HBc.out.2; show g ≠ w.heap.size + 1; omega)
  have hB5 : Below w.heap.size w w4 := HBc.out.1.trans (HB4.out.mono HBc.out.1.size)
  exact ⟨rfl, _, results_H2 rfl _ _ (w.heap.size + 1) rfl k1, g, rfl, k2, (((hB5.setCell (by show w.heap.size ≤ w.heap.size + 1; omega) _).setCell (by show w.heap.size ≤ w.heap.size + 1; omega) _).setCell (by show w.heap.size ≤ w.heap.size + 1; omega) _)⟩
end Go.Proofs.YtifmifjbebpomaaGreatDoor
/- Arguments of a law that are slices or arrays of whole numbers: what the walk is given. -/
namespace Go.Proofs.YtifmifjbebpomaaGreatDoor
open Go.ChangeShapes Go.WideShapes Go.ChangeAt Go.RowKit

/-- The whole numbers that a slice holds. -/
def IntArg (k : IntKind) (w : World) (pa : Option Addr) (xs : List Int) : Prop :=
  xs = [] ∨ ∃ b o, pa = some ⟨b, o, none⟩ ∧ b < w.heap.size ∧ ∀ (j : Nat) (x : Int), xs[j]? = some x → w.cell? ⟨b, o + j, none⟩ = some (.int k x)
theorem IntArg.side {w : World} {pa : Option Addr} {xs : List Int} (h : IntArg .i64 w pa xs) : SideArg w pa xs := by
  rcases h with h | ⟨b, o, h1, -, h3⟩
  · exact .inl h
  · exact .inr ⟨b, o, h1, h3⟩

theorem open_arr3 {H : Type} {enc : TypeId × Value → H} {P : Program} {k e : TypeId} {q : IntKind} {W : World} {base : Nat} {sp : Nat → Bool} {held : Bool} (hu : P.underlying k = some (.array 3 e)) (he : P.underlying e = some (.int q)) (hc : P.cellsOf e = 1)
    {r : Reach} {b0 : Nat} {v : Value} (hk : P.cellsOf k = 3) (hval : Value.okWide P W r b0 k v) {d : DataW H} {ps : List MemPlace} (hd : DataW.Trod enc P W base sp held k v d ps) :
    ∃ a b c : Int, v = .agg #[.int q a, .int q b, .int q c] := by
  simp only [Value.okWide, hu] at hval
  obtain ⟨xs, rfl, hn, _⟩ := hval
  rw [hk] at hn
  obtain ⟨fuel, hf⟩ := hd
  cases fuel with
  | zero => simp [DataW.trod] at hf
  | succ m =>
    rw [DataW.trod_step] at hf
    unfold DataW.trodStep at hf
    simp only [hu, Value.cells] at hf
    rw [if_pos (by rw [hk]; simpa using hn)] at hf
    simp only [Option.map_eq_some_iff] at hf
    obtain ⟨ys, hy, -⟩ := hf
    rw [hc, show List.range 3 = [0, 1, 2] from rfl] at hy
    obtain ⟨l⟩ := xs
    match l, hn with
    | [x, y, z], _ =>
      simp only [List.mapM_cons, bind, Option.bind_eq_some_iff] at hy
      obtain ⟨u0, h0, _, ⟨u1, h1, _, ⟨u2, h2, _⟩, _⟩, _⟩ := hy
      obtain ⟨a, ha, -, -⟩ := DataW.trod_int he h0
      obtain ⟨b, hb, -, -⟩ := DataW.trod_int he h1
      obtain ⟨c, hc', -, -⟩ := DataW.trod_int he h2
      simp at ha hb hc'
      exact ⟨a, b, c, by rw [ha, hb, hc']⟩

/-- A slice of whole numbers, as the walks want it. -/
theorem open_nums {H : Type} {enc : TypeId × Value → H} {P : Program} {t e : TypeId} {k : IntKind} {W : World} {base : Nat} {held : Bool} (ht : P.underlying t = some (.slice e)) (he : P.underlying e = some (.int k)) (hc : P.cellsOf e = 1)
    {r : Reach} {b0 : Nat} {v : Value} (hval : Value.okWide P W r b0 t v) {d : DataW H} {ps : List MemPlace} (hd : DataW.Trod enc P W base (fun _ => true) held t v d ps) :
    ∃ (pa : Option Addr) (c : Nat) (xs : List Int), v = .slice pa xs.length c ∧ (xs.length : Int) ≤ maxLen ∧ (∀ x ∈ xs, (Lit.int k x).wf = true) ∧
      IntArg k W pa xs := by
  obtain ⟨fuel, hf⟩ := hd
  obtain ⟨a0, len, cap, rfl⟩ := okWide_slice ht hval
  rcases open_ints ht he hc hf with ⟨hcs, hx⟩ | ⟨a, len', cap', zs, hcs, _, hl, hm, hz, hx, hcell, hwz⟩
  · simp [Value.cells] at hcs
    obtain ⟨rfl, rfl, rfl⟩ := hcs
    exact ⟨none, 0, [], rfl, by unfold maxLen; simp, by simp, .inl rfl⟩
  · simp [Value.cells] at hcs
    obtain ⟨rfl, rfl, rfl⟩ := hcs
    simp only [if_true] at hz
    have hlen : (zs.take len).length = len := by simp; omega
    refine ⟨some a, cap, zs.take len, by rw [hlen], ?_, fun x hx => hwz x (List.mem_of_mem_take hx), ?_⟩
    · rw [hlen]
      omega
    by_cases h0 : len = 0
    · subst h0
      exact .inl rfl
    · right
      obtain ⟨b, off, spot⟩ := a
      have c0 := hcell 0 (by omega)
      have hspot : spot = none := by simpa [Addr.add] using World.cell?_spot c0
      subst hspot
      refine ⟨b, off, rfl, ?_, fun j x hj => ?_⟩
      · have := World.block_lt_of_cell? _ _ c0
        simpa [Addr.add] using this
      · have hj' := (List.getElem?_eq_some_iff.1 hj).1
        rw [hlen] at hj'
        rw [List.getElem?_take, if_pos hj'] at hj
        have hadd : (⟨b, off, none⟩ : Addr).add j = ⟨b, off + j, none⟩ := by unfold Addr.add; split <;> simp_all
        have := hcell j (by omega)
        rw [hadd] at this
        rw [this, List.getD_eq_getElem?_getD, hj]
        rfl
end Go.Proofs.YtifmifjbebpomaaGreatDoor
