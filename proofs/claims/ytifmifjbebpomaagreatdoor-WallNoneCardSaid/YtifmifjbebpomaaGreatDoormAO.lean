/- A part of the proof, several texts in one: Free, WaD, CopyC. -/
import Derived.Test.YtifmifjbebpomaaGreatDoormAB
import Derived.Test.YtifmifjbebpomaaGreatDoormAC
import Derived.Test.YtifmifjbebpomaaGreatDoormAD
import Derived.Deep.QuietTactic
import Derived.BigQuiet
import Derived.Test.YtifmifjbebpomaaGreatDoormAN
import Derived.Test.YtifmifjbebpomaaGreatDoormAF
import Derived.Test.YtifmifjbebpomaaGreatDoormAE
import Derived.Test.YtifmifjbebpomaaGreatDoormAJ
import Derived.Test.YtifmifjbebpomaaGreatDoormAI
/- Free, where no gate stands on the way. -/
namespace Go.Proofs.YtifmifjbebpomaaGreatDoor
open Go.RowKit Go.ChangeMaps Go.MapKept
variable {w : World} {p : Nat} {M : WM} {F : Nat → Prop}

theorem cell_below' {w w' : World} (hb : Below w.heap.size w w') {a : Addr} {v : Value} (h : w.cell? a = some v) : w'.cell? a = some v := by
  have : a.block < w.heap.size := by
    unfold World.cell? at h
    cases ho : w.heap[a.block]? with
    | none => simp [ho] at h
    | some o => exact blk_lt ho
  exact (hb.cell this).trans h

theorem meas_step {n k : Nat} (h : k < n) (hw : wrap64 ((k : Int) + 1) = (k : Int) + 1) : n - (intOf (.int .i64 (wrap64 ((k : Int) + 1)))).toNat < n - (intOf (.int .i64 (k : Int))).toNat := by
  rw [hw]
  have e1 : (intOf (.int .i64 ((k : Int) + 1))).toNat = k + 1 := by simp only [intOf]; omega
  have e2 : (intOf (.int .i64 (k : Int))).toNat = k := by simp only [intOf]; omega
  rw [e1, e2]
  omega

def freeL (M : WM) : Int → List Int → Bool
  | _, [] => true
  | a, r :: l => match M.at r with
    | none => false
    | some t => if t.kind = 14 then freeL M a l else if M.openB a t.home = true then freeL M t.home l else false

def freeE (v : Bool) : Int := if v = true then 0 else 7

set_option maxHeartbeats 1000000 in
set_option maxRecDepth 8000 in
theorem Free_W (hW : IsW w p M F) {a r : Int} {l : List Int} (ha : sideB M a = true) (hr : (Lit.int .i64 r).wf = true) (hl : WayIs M r l) {t0 : Th} (ht0 : M.at r = some t0)
    (hall : ∀ x ∈ l, ∃ t, M.at x = some t ∧ t.kind ≠ 15) :
    Calls Tryz.prog 103 #[.pointer (some ⟨p, 0, none⟩), .int .i64 a, .int .i64 r] w fun e w' => e = .returned (.int .i64 (freeE (freeL M a l))) ∧ Below w.heap.size w w' := by
  have hn := Way_W hW hr hl
  have hlen : Hid ((l.length : Int) ≤ 1099511627777) := by
    obtain ⟨l', h1, h2⟩ := way_ex hW.ok r
    obtain rfl := hl.uniq h1
    have := hW.ok.last
    show _ ≤ _
    omega
  have HW : Hid (IsW w p M F) := hW
  have Hall := (show Hid _ from hall)
  have hIs : (M.at r).isSome = true := by rw [ht0]; rfl
  obtain ⟨v, hv⟩ : ∃ v, v = freeL M a l := ⟨_, rfl⟩
  have Hv : Hid (freeL M a l = v) := hv.symm
  rw [← hv]
  clear hW hall hv ht0 hl
  go_enter Tryz.func103, Tryz.ntmps103
  go_wp2_with fail
  refine (none_W HW.out).mono ?_
  rintro e _ ⟨rfl, rfl⟩
  go_wp2_with fail
  refine (side_W HW.out a).mono ?_
  rw [ha]
  rintro e _ ⟨rfl, rfl⟩
  go_wp2_with fail
  refine (Is_W HW.out hr).mono ?_
  rw [hIs]
  rintro e _ ⟨rfl, rfl⟩
  go_wp2_with fail
  refine hn.mono ?_
  rintro e w1 ⟨vl, rfl, hown, hb⟩
  have HB : Hid (Below w.heap.size w w1) := hb
  obtain ⟨pa, c, hvl, hcells⟩ : ∃ pa c, vl = .slice pa l.length c ∧ Hid (∀ (j : Nat) (x : Int), l[j]? = some x → ∃ g, pa = some ⟨g, 0, none⟩ ∧ w1.cell? ⟨g, j, none⟩ = some (.int .i64 x)) := by
    rcases hown.2 with ⟨rfl, h0⟩ | ⟨g, cap, cur, rfl, hbase, hg, h1, h2, h3, h4⟩
    · have : l = [] := by simpa using h0
      subst this
      exact ⟨none, 0, rfl, fun j x hx => by simp at hx⟩
    · refine ⟨_, _, rfl, fun j x hx => ⟨g, rfl, ?_⟩⟩
      rw [cell_blk hg]
      have hj := (List.getElem?_eq_some_iff.1 hx).1
      have e : (cur.toList.take (l.length * 1))[j]? = (l.map (Value.int .i64))[j]? := by rw [h4]
      rw [List.getElem?_take, if_pos (by omega), List.getElem?_map, hx] at e
      simpa using e
  subst hvl
  obtain ⟨n, hnl⟩ : ∃ n, n = l.length := ⟨_, rfl⟩
  have Hn : Hid (n = l.length) := hnl
  have Hnb : Hid ((n : Int) ≤ 1099511627777) := by show _ ≤ _; rw [hnl]; exact hlen.out
  rw [← hnl]
  clear hown hb hn hlen hnl
  go_wp2_with fail
  go_loopw [1, 27] (fun va vi wr => ∃ (x : Int) (k : Nat), va = .int .i64 x ∧ vi = .int .i64 k ∧ k ≤ n ∧ Hid (freeL M x (l.drop k) = v) ∧ Below w1.heap.size w1 wr) (fun _ vi _ => n - (intOf vi).toNat)
  case atStart => exact ⟨a, 0, rfl, rfl, Nat.zero_le _, Hv.out, Below.refl _ _⟩
  case round =>
    obtain ⟨x, k, rfl, rfl, hk, Hx, hb2⟩ := hrel
    have HB2 := (show Hid (Below w1.heap.size w1 wr) from hb2)
    have HWr : Hid (IsW wr p M F) := (HW.out.below HB.out).below hb2
    by_cases hkn : k < n
    · obtain ⟨y, hy⟩ : ∃ y, l[k]? = some y := ⟨_, List.getElem?_eq_getElem (by have := Hn.out; omega)⟩
      obtain ⟨g, rfl, hc0⟩ := hcells.out k y hy
      have hc := cell_below' hb2 hc0
      obtain ⟨t, ht, h15⟩ := Hall.out y (List.mem_of_getElem? hy)
      have hyr := HW.out.ok.at_range ht
      have hyl := HW.out.ok.last
      have hyw : (Lit.int .i64 y).wf = true := WalkArith.wf_i64 (by omega)
      have hdrop : l.drop k = y :: l.drop (k + 1) := by
        rw [List.drop_eq_getElem_cons (by have := Hn.out; omega)]
        congr 1
        have := List.getElem?_eq_getElem (l := l) (i := k) (by have := Hn.out; omega)
        rw [this] at hy
        exact Option.some.inj hy
      have hkz : (k : Int) < (n : Int) := by omega
      have hwk : wrap64 ((k : Int) + 1) = (k : Int) + 1 := by have := Hnb.out; unfold wrap64; omega
      have hk15 : (t.kind == 15) = false := by simpa using h15
      have HX : Hid ((if t.kind = 14 then freeL M x (l.drop (k + 1)) else if M.openB x t.home = true then freeL M t.home (l.drop (k + 1)) else false) = v) := by
        have := Hx.out
        rw [hdrop, freeL, ht] at this
        exact this
      obtain ⟨pa', pc, cg, cc, mg, mc, tb, fb, fn, bl, h⟩ := HWr.out
      have c2 := h.c2
      have hlk := h.look hyw
      rw [ht] at hlk
      simp only [Option.map_some] at hlk
      obtain ⟨k0, k1, -, -, k6, k7, k8, k9⟩ := thc_cell (h.blk y t ht).1
      clear hb2 hc0 hy hdrop hyr hyl h15 ht h
      by_cases h14 : t.kind = 14
      · have hk14 : (t.kind == 14) = true := by simpa using h14
        have HX2 : Hid (freeL M x (l.drop (k + 1)) = v) := by
          have := HX.out
          rw [if_pos h14] at this
          exact this
        clear HX h14
        go_wp2_with fail
        go_round
        case rel =>
          exact ⟨x, k + 1, rfl, by rw [hwk]; rfl, by omega, HX2.out, HB2.out⟩
        case measure => exact meas_step hkn hwk
      · have hk14 : (t.kind == 14) = false := by simpa using h14
        have hOp : ∀ m, Calls Tryz.prog 41 #[.pointer (some ⟨p, 0, none⟩), .int .i64 x, .int .i64 t.home] (wr.drewN m) fun e w' => e = .returned (.bool (M.openB x t.home)) ∧ w' = wr.drewN m := fun m =>
          (Open_W (HWr.out.below (w' := wr.drewN m) ⟨rfl, rfl, rfl, Nat.le_refl _, fun _ _ => rfl⟩) x t.home).mono (fun _ _ h => ⟨h.1, h.2.symm⟩)
        cases ho : M.openB x t.home with
        | true =>
          simp only [ho] at hOp
          have HX2 : Hid (freeL M t.home (l.drop (k + 1)) = v) := by
            have := HX.out
            rw [if_neg h14, if_pos ho] at this
            exact this
          clear HX h14 ho
          go_wp2_with fail
          go_quiet ((go_at_call 41; exact Calls.quiet_of_same (hOp _)))
          go_wp2_with fail
          go_round
          case rel => exact ⟨t.home, k + 1, rfl, by rw [hwk]; rfl, by omega, HX2.out, HB2.out.trans ⟨rfl, rfl, rfl, Nat.le_refl _, fun _ _ => rfl⟩⟩
          case measure => exact meas_step hkn hwk
        | false =>
          simp only [ho] at hOp
          have HX2 : Hid (v = false) := by
            have := HX.out
            rw [if_neg h14, ho] at this
            exact this.symm
          clear HX h14 ho
          go_wp2_with fail
          go_quiet ((go_at_call 41; exact Calls.quiet_of_same (hOp _)))
          go_wp2_with fail
          go_ret
          have hv := HX2.out
          subst hv
          exact ⟨rfl, HB.out.trans ((HB2.out.trans (⟨rfl, rfl, rfl, Nat.le_refl _, fun _ _ => rfl⟩ : Below w1.heap.size wr (wr.drewN nq))).mono HB.out.size)⟩
    · have hkz : ¬ (k : Int) < (n : Int) := by omega
      have hkn' : k = n := by omega
      have HX2 : Hid (v = true) := by
        have := Hx.out
        rw [hkn', Hn.out, List.drop_length] at this
        exact this.symm
      clear Hx
      go_wp2_with fail
      go_ret
      have hv := HX2.out
      subst hv
      exact ⟨rfl, HB.out.trans (HB2.out.mono HB.out.size)⟩
end Go.Proofs.YtifmifjbebpomaaGreatDoor
/- Acts: Why, and Do where the way is cut. -/
namespace Go.Proofs.YtifmifjbebpomaaGreatDoor
open Go.RowKit Go.ChangeMaps Go.MapKept
variable {w : World} {p : Nat} {M : WM} {F : Nat → Prop}

theorem acthere_W (hW : IsW w p M F) : Calls Tryz.prog 98 #[.pointer (some ⟨p, 0, none⟩)] w fun e w' => e = .returned (.bool true) ∧ w = w' := by
  have hS := Sides_W hW
  have hm : (0 : Int) < M.made.length := by have := hW.ok.made; omega
  have Hm := (show Hid (0 < M.made.length) from by have := hW.ok.made; show _ < _; omega)
  go_enter Tryz.func98, Tryz.ntmps98
  go_wp2_with (go_at_call 31; refine hS.mono ?_; rintro e w' ⟨rfl, rfl⟩)
  go_ret
  exact ⟨by simp; exact Hm.out, rfl⟩
theorem acside_W (hW : IsW w p M F) {s : Int} (hs : sideB M s = true) : Calls Tryz.prog 99 #[.pointer (some ⟨p, 0, none⟩), .int .i64 s] w fun e w' => e = .returned (.bool true) ∧ w = w' := by
  have hS := Sides_W hW
  obtain ⟨h0, h1⟩ := sideB_iff.1 hs
  go_enter Tryz.func99, Tryz.ntmps99
  go_wp2_with (go_at_call 31; refine hS.mono ?_; rintro e w' ⟨rfl, rfl⟩)
  go_ret
  exact ⟨rfl, rfl⟩
set_option maxRecDepth 20000 in
theorem aOne_1 (w : World) : Calls Tryz.prog 100 #[.int .u8 1] w fun e w' => e = .returned (.bool true) ∧ Below w.heap.size w w' := by
  go_enter Tryz.func100, Tryz.ntmps100
  go_wp2
  go_ret
  exact ⟨by kernel_rfl, Below.refl _ _⟩
theorem aHas_W (w : World) (s b : Int) : Calls Tryz.prog 102 #[.int .u8 s, .int .u8 b] w fun e w' => e = .returned (.bool (bits .and .u8 (bits .andNot .u8 b s) 63 == 0)) ∧ Below w.heap.size w w' := by
  go_enter Tryz.func102, Tryz.ntmps102
  go_wp2
  go_ret
  exact ⟨rfl, Below.refl _ _⟩
theorem acknown_plain (w : World) (p : Nat) : Calls Tryz.prog 101 #[.pointer (some ⟨p, 0, none⟩), .agg #[.int .u8 0, .int .i64 0, .string ⟨#[]⟩, .slice none 0 0, .int .i64 0]] w fun e w' => e = .returned (.bool true) ∧ Below w.heap.size w w' := by
  have h := fun W => vRefs_W W 0 0 (.inl ⟨rfl, rfl⟩)
  go_enter Tryz.func101, Tryz.ntmps101
  go_wp2_with fail
  refine (h _).mono ?_
  rintro e w1 ⟨rfl, hb⟩
  have HB : Hid (Below w.heap.size w w1) := ((Below.refl _ _).alloc (Nat.le_refl _) _).trans (hb.mono (by simp))
  clear hb
  go_wp2_with fail
  refine wp_loop_rounds 1 ?_
  rw [rounds_succ]
  go_wp2_with fail
  go_ret
  exact ⟨rfl, HB.out⟩
set_option maxRecDepth 8000 in
theorem acWhy_W (hW : IsW w p M F) {a r v : Int} {l : List Int} {t0 : Th} (ha : sideB M a = true) (hr : (Lit.int .i64 r).wf = true) (hl : WayIs M r l) (ht0 : M.at r = some t0) (hall : ∀ x ∈ l, ∃ t, M.at x = some t ∧ t.kind ≠ 15)
    (hv : AbleIs M 63 r v) (hav : (bits .and .u8 (bits .andNot .u8 1 v) 63 == 0) = true) :
    Calls Tryz.prog 59 #[.pointer (some ⟨p, 0, none⟩), .int .i64 a, .int .i64 r, .int .u8 1, .agg #[.int .u8 0, .int .i64 0, .string ⟨#[]⟩, .slice none 0 0, .int .i64 0]] w fun e w' => e = .returned (.int .i64 (freeE (freeL M a l))) ∧ Below w.heap.size w w' := by
  obtain ⟨w1, hw1⟩ : ∃ w1, w.alloc (.cells #[.int .u8 0, .int .i64 0, .string ⟨#[]⟩, .slice none 0 0, .int .i64 0] 29) = w1 := ⟨_, rfl⟩
  have hb1 : Below w.heap.size w w1 := by rw [← hw1]; exact (Below.refl _ _).alloc (Nat.le_refl _) _
  have hx : w1.heap[w.heap.size]? = some (.cells #[.int .u8 0, .int .i64 0, .string ⟨#[]⟩, .slice none 0 0, .int .i64 0] 29 (0, 0)) := by rw [← hw1]; exact blk_new w _
  have HB1 := (show Hid (Below w.heap.size w w1) from hb1)
  have HX : Hid (∀ W, Below w1.heap.size w1 W → W.cell? ⟨w.heap.size, 0, none⟩ = some (.int .u8 0) ∧ W.cell? ⟨w.heap.size, 1, none⟩ = some (.int .i64 0) ∧ W.cell? ⟨w.heap.size, 2, none⟩ = some (.string ⟨#[]⟩) ∧ W.cell? ⟨w.heap.size, 3, none⟩ = some (.slice none 0 0) ∧ W.cell? ⟨w.heap.size, 4, none⟩ = some (.int .i64 0)) := fun W hb => by
    have h := (hb.block _ (blk_lt hx)).trans hx
    refine ⟨?_, ?_, ?_, ?_, ?_⟩ <;> (rw [cell_blk h]; rfl)
  have HW : Hid (IsW w1 p M F) := hW.below hb1
  have HA := (show Hid (sideB M a = true ∧ WayIs M r l ∧ M.at r = some t0 ∧ (∀ x ∈ l, ∃ t, M.at x = some t ∧ t.kind ≠ 15) ∧ AbleIs M 63 r v ∧ (bits .and .u8 (bits .andNot .u8 1 v) 63 == 0) = true) from ⟨ha, hl, ht0, hall, hv, hav⟩)
  have HO := fun W => aOne_1 W
  have HVM := fun W => vMay_W W 0 0 (.inl ⟨rfl, rfl⟩)
  have HK := fun W => acknown_plain W p
  have HH := fun W => aHas_W W v 1
  obtain ⟨fe, hfe⟩ : ∃ fe, freeE (freeL M a l) = fe := ⟨_, rfl⟩
  rw [hfe]
  have Hfe := (show Hid _ from hfe)
  clear hb1 hx hW ha hl ht0 hall hv hav hfe
  go_enter Tryz.func59, Tryz.ntmps59
  go_wp2_with fail
  refine (acthere_W HW.out).mono ?_
  rintro e _ ⟨rfl, rfl⟩
  go_wp2_with fail
  refine (acside_W HW.out HA.out.1).mono ?_
  rintro e _ ⟨rfl, rfl⟩
  go_wp2_with fail
  refine (HO _).mono ?_
  rintro e w2 ⟨rfl, hb2⟩
  obtain ⟨x0, x1, x2, x3, x4⟩ := HX.out w2 hb2
  have HB2 := (show Hid (Below w1.heap.size w1 w2) from hb2)
  clear hb2
  go_wp2_with fail
  refine (HVM _).mono ?_
  rintro e w3 ⟨rfl, hb3⟩
  have HB3 : Hid (Below w1.heap.size w1 w3) := HB2.out.trans (hb3.mono HB2.out.size)
  clear hb3 x0 x1 x2 x3 x4
  obtain ⟨x0, x1, x2, x3, x4⟩ := HX.out w3 HB3.out
  go_wp2_with fail
  refine (Is_W (HW.out.below HB3.out) hr).mono ?_
  rw [HA.out.2.2.1]
  rintro e _ ⟨rfl, rfl⟩
  go_wp2_with fail
  refine (HK _).mono ?_
  rintro e w4 ⟨rfl, hb4⟩
  have HB4 : Hid (Below w1.heap.size w1 w4) := HB3.out.trans (hb4.mono HB3.out.size)
  clear hb4 x0 x1 x2 x3 x4
  go_wp2_with fail
  refine (Able_W (HW.out.below HB4.out) hr HA.out.2.2.2.2.1).mono ?_
  rintro e w5 ⟨rfl, hb5⟩
  have HB5 : Hid (Below w1.heap.size w1 w5) := HB4.out.trans (hb5.mono HB4.out.size)
  clear hb5
  go_wp2_with fail
  refine (HH _).mono ?_
  rw [HA.out.2.2.2.2.2]
  rintro e w6 ⟨rfl, hb6⟩
  have HB6 : Hid (Below w1.heap.size w1 w6) := HB5.out.trans (hb6.mono HB5.out.size)
  clear hb6
  go_wp2_with fail
  refine (Free_W (HW.out.below HB6.out) HA.out.1 hr HA.out.2.1 HA.out.2.2.1 HA.out.2.2.2.1).mono ?_
  rw [Hfe.out]
  rintro e w7 ⟨rfl, hb7⟩
  have HB7 : Hid (Below w1.heap.size w1 w7) := HB6.out.trans (hb7.mono HB6.out.size)
  clear hb7
  go_wp2_with fail
  go_ret
  exact ⟨rfl, HB1.out.trans (HB7.out.mono HB1.out.size)⟩
/-- The nothing is written over itself. -/
theorem set5V {W : World} {b : Nat} (h : W.heap[b]? = some (.cells #[.int .u8 0, .int .i64 0, .string ⟨#[]⟩, .slice none 0 0, .int .i64 0] 29 (0, 0))) : ∃ W', ((((W.setCell ⟨b, 0, none⟩ (.int .u8 0)).setCell ⟨b, 1, none⟩ (.int .i64 0)).setCell ⟨b, 2, none⟩ (.string ⟨#[]⟩)).setCell ⟨b, 3, none⟩ (.slice none 0 0)).setCell ⟨b, 4, none⟩ (.int .i64 0) = W' ∧
    W'.heap[b]? = some (.cells #[.int .u8 0, .int .i64 0, .string ⟨#[]⟩, .slice none 0 0, .int .i64 0] 29 (0, 0)) ∧ (∀ c, c ≠ b → W'.heap[c]? = W.heap[c]?) ∧ ∀ (B : Nat) (w : World), Below B w W → B ≤ b → Below B w W' := by
  refine ⟨_, rfl, blk_setCell (blk_setCell (blk_setCell (blk_setCell (blk_setCell h 0 _) 1 _) 2 _) 3 _) 4 _, fun c hc => ?_, fun B w hb hB => ((((hb.setCell hB _).setCell hB _).setCell hB _).setCell hB _).setCell hB _⟩
  exact (Below.heap_setCell _ _ _ _ hc).trans ((Below.heap_setCell _ _ _ _ hc).trans ((Below.heap_setCell _ _ _ _ hc).trans ((Below.heap_setCell _ _ _ _ hc).trans (Below.heap_setCell _ _ _ _ hc))))
theorem results_V2 {fn : Func} {q x : Tmp} (h : fn.results = #[.cell q 29, .tmp x]) (tmps : Array Value) (W : World) (g : Nat) (hp : tmps.getD q undef = .pointer (some ⟨g, 0, none⟩))
    (hg : W.heap[g]? = some (.cells #[.int .u8 0, .int .i64 0, .string ⟨#[]⟩, .slice none 0 0, .int .i64 0] 29 (0, 0))) : (results fn tmps).run Tryz.prog W = .ok (.tuple #[.agg #[.int .u8 0, .int .i64 0, .string ⟨#[]⟩, .slice none 0 0, .int .i64 0], tmps.getD x undef]) W := by
  have h1 := run_loadVar_row W g 29 29 _ _ _ hg Tryz.underlying29 rfl (by kernel_rfl)
  unfold results
  rw [h]
  rw [Array.getD_eq_getD_getElem?] at hp
  simp [hp, asAddr, h1, Result.andThen]
set_option maxRecDepth 8000 in
/-- Do where the way is cut. -/
theorem acDo_cut (hW : IsW w p M F) {a r v : Int} {l : List Int} {t0 : Th} (ha : sideB M a = true) (hr : (Lit.int .i64 r).wf = true) (hl : WayIs M r l) (ht0 : M.at r = some t0) (hall : ∀ x ∈ l, ∃ t, M.at x = some t ∧ t.kind ≠ 15)
    (hv : AbleIs M 63 r v) (hav : (bits .and .u8 (bits .andNot .u8 1 v) 63 == 0) = true) (hcut : freeL M a l = false) :
    Calls Tryz.prog 26 #[.pointer (some ⟨p, 0, none⟩), .int .i64 a, .int .i64 r, .int .u8 1, .agg #[.int .u8 0, .int .i64 0, .string ⟨#[]⟩, .slice none 0 0, .int .i64 0], .nilFunc] w fun e w' =>
      ∃ g, e = .returned (.tuple #[.agg #[.int .u8 0, .int .i64 0, .string ⟨#[]⟩, .slice none 0 0, .int .i64 0], .iface 235 (.pointer (some ⟨g, 0, none⟩))]) ∧ FaultAt w' g 7 ∧ Below w.heap.size w w' ∧ w.heap.size ≤ g := by
  have HC := (show Hid (∀ W, Below w.heap.size w W → Calls Tryz.prog 59 #[.pointer (some ⟨p, 0, none⟩), .int .i64 a, .int .i64 r, .int .u8 1, .agg #[.int .u8 0, .int .i64 0, .string ⟨#[]⟩, .slice none 0 0, .int .i64 0]] W fun e w' => e = .returned (.int .i64 7) ∧ Below W.heap.size W w') from fun W hb => by
    have h := acWhy_W (hW.below hb) ha hr hl ht0 hall hv hav
    rw [hcut] at h
    exact h)
  have HF := fun W => acOf_W 7 (by decide) W
  clear hW ha hl ht0 hall hv hav hcut
  obtain ⟨wA, hwA⟩ : ∃ wA, (((((w.alloc (.cells #[.pointer (some ⟨p, 0, none⟩)] 31)).alloc (.cells #[.int .i64 r] 24)).alloc (.cells #[.int .u8 1] 25)).alloc (.cells #[.int .u8 0, .int .i64 0, .string ⟨#[]⟩, .slice none 0 0, .int .i64 0] 29)).alloc (.cells #[.nilFunc] 130)).alloc (.cells #[.int .u8 0, .int .i64 0, .string ⟨#[]⟩, .slice none 0 0, .int .i64 0] 29) = wA := ⟨_, rfl⟩
  have hbA : Below w.heap.size w wA := by rw [← hwA]; exact ((((((Below.refl _ _).alloc (Nat.le_refl _) _).alloc (by simp) _).alloc (by simp; omega) _).alloc (by simp; omega) _).alloc (by simp; omega) _).alloc (by simp; omega) _
  have hxA : wA.heap[w.heap.size + 5]? = some (.cells #[.int .u8 0, .int .i64 0, .string ⟨#[]⟩, .slice none 0 0, .int .i64 0] 29 (0, 0)) := by
    rw [← hwA]
    have h := blk_new ((((((w.alloc (.cells #[.pointer (some ⟨p, 0, none⟩)] 31)).alloc (.cells #[.int .i64 r] 24)).alloc (.cells #[.int .u8 1] 25)).alloc (.cells #[.int .u8 0, .int .i64 0, .string ⟨#[]⟩, .slice none 0 0, .int .i64 0] 29)).alloc (.cells #[.nilFunc] 130))) (.cells #[.int .u8 0, .int .i64 0, .string ⟨#[]⟩, .slice none 0 0, .int .i64 0] 29)
    simpa using h
  have HXA := (show Hid (wA.heap[w.heap.size + 5]? = some (.cells #[.int .u8 0, .int .i64 0, .string ⟨#[]⟩, .slice none 0 0, .int .i64 0] 29 (0, 0))) from hxA)
  have HBA := (show Hid (Below w.heap.size w wA) from hbA)
  have HwA := (show Hid (_ = wA) from hwA)
  clear hbA hxA hwA
  go_enter Tryz.func26, Tryz.ntmps26
  go_wp2_with fail
  rw [HwA.out]
  refine (HC.out _ HBA.out).mono ?_
  rintro e w2 ⟨rfl, hb2⟩
  have HB2 := (show Hid (Below wA.heap.size wA w2) from hb2)
  clear hb2 HwA
  go_wp2_with fail
  refine (HF _).mono ?_
  rintro e w3 ⟨g, rfl, hg, hgs, hb3⟩
  have HB3 : Hid (Below wA.heap.size wA w3) := HB2.out.trans (hb3.mono HB2.out.size)
  have HG := (show Hid (FaultAt w3 g 7 ∧ w2.heap.size ≤ g) from ⟨hg, hgs⟩)
  have hx := (HB3.out.block _ (blk_lt HXA.out)).trans HXA.out
  have HX := (show Hid (w3.heap[w.heap.size + 5]? = some (.cells #[.int .u8 0, .int .i64 0, .string ⟨#[]⟩, .slice none 0 0, .int .i64 0] 29 (0, 0))) from hx)
  have x0 : w3.cell? ⟨w.heap.size + 1 + 1 + 1 + 1 + 1, 0, none⟩ = some (.int .u8 0) := by rw [cell_blk hx]; rfl
  have x1 : w3.cell? ⟨w.heap.size + 1 + 1 + 1 + 1 + 1, 1, none⟩ = some (.int .i64 0) := by rw [cell_blk hx]; rfl
  have x2 : w3.cell? ⟨w.heap.size + 1 + 1 + 1 + 1 + 1, 2, none⟩ = some (.string ⟨#[]⟩) := by rw [cell_blk hx]; rfl
  have x3 : w3.cell? ⟨w.heap.size + 1 + 1 + 1 + 1 + 1, 3, none⟩ = some (.slice none 0 0) := by rw [cell_blk hx]; rfl
  have x4 : w3.cell? ⟨w.heap.size + 1 + 1 + 1 + 1 + 1, 4, none⟩ = some (.int .i64 0) := by rw [cell_blk hx]; rfl
  have y0 : w3.frozen? ⟨w.heap.size + 1 + 1 + 1 + 1 + 1, 0, none⟩ = false := frozen_blk hx 0
  have y1 : w3.frozen? ⟨w.heap.size + 1 + 1 + 1 + 1 + 1, 1, none⟩ = false := frozen_blk hx 1
  have y2 : w3.frozen? ⟨w.heap.size + 1 + 1 + 1 + 1 + 1, 2, none⟩ = false := frozen_blk hx 2
  have y3 : w3.frozen? ⟨w.heap.size + 1 + 1 + 1 + 1 + 1, 3, none⟩ = false := frozen_blk hx 3
  have y4 : w3.frozen? ⟨w.heap.size + 1 + 1 + 1 + 1 + 1, 4, none⟩ = false := frozen_blk hx 4
  clear hb3 hg hgs hx
  go_wp2_with fail
  obtain ⟨w4, hw4, k1, k2, k3⟩ := set5V HX.out
  have hne : w.heap.size + 5 ≠ g := by
    have h1 := blk_lt HXA.out
    have h2 := HB2.out.size
    have h3 := HG.out.2
    omega
  have hsw : w.heap.size ≤ wA.heap.size := HBA.out.size
  exact ⟨rfl, _, results_V2 rfl _ _ (w.heap.size + 5) rfl (by rw [hw4]; exact k1), g, rfl, by rw [hw4]; exact (k2 g hne.symm).trans HG.out.1, by rw [hw4]; exact k3 _ _ (HBA.out.trans (HB3.out.mono hsw)) (by omega), by have := HG.out.2; have := HB2.out.size; omega⟩
end Go.Proofs.YtifmifjbebpomaaGreatDoor
/- Copy: the new world as far as it has come. -/
namespace Go.Proofs.YtifmifjbebpomaaGreatDoor
open Go.RowKit Go.ChangeMaps Go.MapKept

/-- The things vs, and where they lie. -/
def thV (vs : List Int) (bl : Int → Nat) (key : Value) : Option Value :=
  match key with
  | .int .i64 r => if r ∈ vs then some (.pointer (some ⟨bl r, 0, none⟩)) else none
  | _ => none
/-- The facets among the things vs. -/
def faV (M : WM) (vs : List Int) (key : Value) : Option Value :=
  match key with
  | .agg cs => (match cs.toList with | [.int .i64 t, .int .u8 s] => ((M.find t s).filter fun r => decide (r ∈ vs)).map (Value.int .i64) | _ => none)
  | _ => none
def updB (bl : Int → Nat) (x : Int) (g : Nat) (r : Int) : Nat := if r = x then g else bl r

structure CW (w0 w : World) (q : Nat) (M : WM) (pa : Option Addr) (pc g1 cap1 b2 b3 g5 cap5 : Nat) (vs : List Int) (bl : Int → Nat) : Prop where
  b : Below w0.heap.size w0 w
  hq : w.heap[q]? = some (.cells #[.slice pa M.parents.length pc, .slice (some ⟨g1, 0, none⟩) M.cuts.length cap1, .map (some b2), .map (some b3), .int .i64 M.last, .slice (some ⟨g5, 0, none⟩) M.made.length cap5] 38 (0, 0))
  pars : ∀ (j : Nat) (x : Int), M.parents[j]? = some x → ∃ b o, pa = some ⟨b, o, none⟩ ∧ w0.heap.size ≤ b ∧ (∃ cs fr, w.heap[b]? = some (.cells cs 23 fr)) ∧ w.cell? ⟨b, o + j, none⟩ = some (.int .i64 x)
  cut : Row w g1 4 cap1 (M.cuts.map Value.bool)
  mad : Row w g5 3 cap5 (M.made.map (Value.int .i64))
  things : HasMap Tryz.prog 24 w b2 (thV vs bl) vs.length
  facets : MapLe Tryz.prog 190 w b3 (faV M vs) vs.length
  blk : ∀ r t, r ∈ vs → M.at r = some t → w.heap[bl r]? = some (.cells (thc t) 73 (0, 0)) ∧ w0.heap.size ≤ bl r
  inj : ∀ r r', r ∈ vs → r' ∈ vs → bl r = bl r' → r = r'
  low : w0.heap.size ≤ q ∧ w0.heap.size ≤ g1 ∧ w0.heap.size ≤ g5 ∧ w0.heap.size ≤ b2 ∧ w0.heap.size ≤ b3
  ne : b2 ≠ b3
  nd : vs.Nodup
  sub : ∀ r ∈ vs, (M.at r).isSome = true

theorem Rg.obj {w : World} {b r cnt : Nat} {f : Value → Option Value} {L : Int → Bool} (h : Rg w b r f L cnt) : ∃ o, w.heap[r]? = some o ∧ (∀ cs e fr, o ≠ .cells cs e fr) ∧ ∀ es c, o ≠ .map es c := by
  obtain ⟨D, n, left, ⟨es, clock, since, seen, c0, h1, h2, h3, h4, h5, h6⟩, r'⟩ := h
  exact ⟨_, h5, (fun _ _ _ e => by cases e), (fun _ _ e => by cases e)⟩
theorem MapLe.is {P : Program} {k : TypeId} {w : World} {b : Nat} {f : Value → Option Value} {n : Nat} (h : MapLe P k w b f n) : ∃ es clock, w.heap[b]? = some (.map es clock) := by
  obtain ⟨m, -, h⟩ := h
  exact h.is
theorem MapLe.of_block {P : Program} {k : TypeId} {w w' : World} {b : Nat} {f : Value → Option Value} {n : Nat} (h : MapLe P k w b f n) (hb : w'.heap[b]? = w.heap[b]?) : MapLe P k w' b f n := by
  obtain ⟨m, h1, h⟩ := h
  exact ⟨m, h1, h.of_block hb⟩

section
variable {w0 w w' : World} {q : Nat} {M : WM} {pa : Option Addr} {pc g1 cap1 b2 b3 g5 cap5 : Nat} {vs : List Int} {bl : Int → Nat}
/-- Whatever cells there are stay; the maps as they are said to be. -/
theorem CW.turn {vs' : List Int} {bl' : Int → Nat} (h : CW w0 w q M pa pc g1 cap1 b2 b3 g5 cap5 vs bl) (hb : Below w0.heap.size w0 w') (hc : ∀ (b : Nat) (cs : Array Value) (e : TypeId) (fr : Nat × Nat), w.heap[b]? = some (Obj.cells cs e fr) → w'.heap[b]? = some (Obj.cells cs e fr))
    (h2 : HasMap Tryz.prog 24 w' b2 (thV vs' bl') vs'.length) (h3 : MapLe Tryz.prog 190 w' b3 (faV M vs') vs'.length)
    (hblk : ∀ r t, r ∈ vs' → M.at r = some t → w'.heap[bl' r]? = some (.cells (thc t) 73 (0, 0)) ∧ w0.heap.size ≤ bl' r) (hinj : ∀ r r', r ∈ vs' → r' ∈ vs' → bl' r = bl' r' → r = r') (hnd : vs'.Nodup) (hsub : ∀ r ∈ vs', (M.at r).isSome = true) :
    CW w0 w' q M pa pc g1 cap1 b2 b3 g5 cap5 vs' bl' where
  b := hb
  hq := hc _ _ _ _ h.hq
  pars j x hx := by
    obtain ⟨b, o, e1, e2, ⟨cs, fr, e3⟩, e4⟩ := h.pars j x hx
    have e5 := hc _ _ _ _ e3
    exact ⟨b, o, e1, e2, ⟨cs, fr, e5⟩, (World.cell?_of_block (a := ⟨b, o + j, none⟩) (e5.trans e3.symm)).trans e4⟩
  cut := by
    obtain ⟨cur, e1, r⟩ := h.cut
    exact ⟨cur, hc _ _ _ _ e1, r⟩
  mad := by
    obtain ⟨cur, e1, r⟩ := h.mad
    exact ⟨cur, hc _ _ _ _ e1, r⟩
  things := h2
  facets := h3
  blk := hblk
  inj := hinj
  low := h.low
  ne := h.ne
  nd := hnd
  sub := hsub
theorem CW.same (h : CW w0 w q M pa pc g1 cap1 b2 b3 g5 cap5 vs bl) (hb : Below w0.heap.size w0 w') (hc : ∀ (b : Nat) (o : Obj), w.heap[b]? = some o → ((∃ cs e fr, o = .cells cs e fr) ∨ ∃ es c, o = .map es c) → w'.heap[b]? = some o) : CW w0 w' q M pa pc g1 cap1 b2 b3 g5 cap5 vs bl := by
  obtain ⟨es2, c2, e2⟩ := h.things.is
  obtain ⟨es3, c3, e3⟩ := h.facets.is
  exact h.turn hb (fun b cs e fr hx => hc _ _ hx (.inl ⟨_, _, _, rfl⟩)) (h.things.of_block ((hc _ _ e2 (.inr ⟨_, _, rfl⟩)).trans e2.symm)) (h.facets.of_block ((hc _ _ e3 (.inr ⟨_, _, rfl⟩)).trans e3.symm))
    (fun r t hr ht => ⟨hc _ _ (h.blk r t hr ht).1 (.inl ⟨_, _, _, rfl⟩), (h.blk r t hr ht).2⟩) h.inj h.nd h.sub
theorem CW.below (h : CW w0 w q M pa pc g1 cap1 b2 b3 g5 cap5 vs bl) (hb : Below w.heap.size w w') : CW w0 w' q M pa pc g1 cap1 b2 b3 g5 cap5 vs bl :=
  h.same (h.b.trans (hb.mono h.b.size)) (fun _ _ hx _ => below_blk hb hx)
/-- The loop's own block turns. -/
theorem CW.next {r : Nat} {o : Obj} (h : CW w0 w q M pa pc g1 cap1 b2 b3 g5 cap5 vs bl) (hr : w.heap[r]? = some o) (h1 : ∀ cs e fr, o ≠ .cells cs e fr) (h2 : ∀ es c, o ≠ .map es c) (h0 : w0.heap.size ≤ r) (hk : Keeps (fun y => y = r) w w') :
    CW w0 w' q M pa pc g1 cap1 b2 b3 g5 cap5 vs bl :=
  h.same (h.b.trans (Keeps.below hk h.b.size (fun x e => by subst e; exact h0))) (fun b o' hx ho => (hk.block b (blk_lt hx) (fun e => by
    subst e
    rw [hr] at hx
    cases hx
    rcases ho with ⟨cs, e, fr, e'⟩ | ⟨es, c, e'⟩
    · exact h1 _ _ _ e'
    · exact h2 _ _ e')).trans hx)
theorem CW.none (h : CW w0 w q M pa pc g1 cap1 b2 b3 g5 cap5 vs bl) : w.cell? ⟨q, 2, none⟩ = some (.map (some b2)) ∧ w.cell? ⟨q, 3, none⟩ = some (.map (some b3)) := by
  constructor
  · rw [cell_blk h.hq]; rfl
  · rw [cell_blk h.hq]; rfl
theorem thV_snoc (x : Int) (g : Nat) : thV (vs ++ [x]) (updB bl x g) (.int .i64 x) = some (.pointer (some ⟨g, 0, none⟩)) ∧ ∀ k, k ≠ .int .i64 x → thV (vs ++ [x]) (updB bl x g) k = thV vs bl k := by
  refine ⟨by simp [thV, updB], fun k hk => ?_⟩
  unfold thV
  split
  · rename_i r
    have hr : r ≠ x := fun e => hk (by rw [e])
    simp [updB, hr]
  · rfl
theorem faV_plain {x : Int} {t : Th} (hM : M.ok) (ht : M.at x = some t) (hk : t.kind ≠ 14) : faV M (vs ++ [x]) = faV M vs := by
  funext key
  unfold faV
  split
  · split
    · rename_i a b hl
      congr 1
      cases hf : M.find a b with
      | none => rfl
      | some r =>
        obtain ⟨u, hu, hk', -⟩ := WM.find_at hM hf
        have : r ≠ x := fun e => by subst e; rw [ht] at hu; cases hu; exact hk hk'
        simp [Option.filter, this]
    · rfl
  · rfl
theorem faV_facet {x : Int} {t : Th} (hM : M.ok) (ht : M.at x = some t) (hk : t.kind = 14) : faV M (vs ++ [x]) (fkey t.tgt t.set) = some (.int .i64 x) ∧ ∀ k, k ≠ fkey t.tgt t.set → faV M (vs ++ [x]) k = faV M vs k := by
  have hfind : M.find t.tgt t.set = some x := by
    cases hf : M.find t.tgt t.set with
    | none => exact (WM.find_none hf ht hk rfl rfl).elim
    | some r =>
      obtain ⟨u, hu, h1, h2, h3⟩ := WM.find_at hM hf
      exact congrArg some (hM.facet r u x t hu ht h1 hk h2 h3)
  refine ⟨by simp [faV, fkey, hfind, Option.filter], fun k hk' => ?_⟩
  unfold faV
  split
  · rename_i cs
    split
    · rename_i a b hl
      congr 1
      cases hf : M.find a b with
      | none => rfl
      | some r =>
        obtain ⟨u, hu, h1, h2, h3⟩ := WM.find_at hM hf
        have : r ≠ x := fun e => by
          subst e
          rw [ht] at hu
          cases hu
          apply hk'
          obtain ⟨l⟩ := cs
          have hl : l = [.int .i64 a, .int .u8 b] := hl
          subst hl
          show Value.agg _ = fkey _ _
          rw [fkey, h2, h3]
        simp [Option.filter, this]
    · rfl
  · rfl
/-- A thing is laid: its block g is new, the map of things has it, then the facets'. -/
theorem CW.add {x : Int} {t : Th} {w2 w3 w4 : World} {g : Nat} (h : CW w0 w q M pa pc g1 cap1 b2 b3 g5 cap5 vs bl) (ht : M.at x = some t) (hx : x ∉ vs) (hb : Below w.heap.size w w2) (hg : w.heap.size ≤ g) (hgb : w2.heap[g]? = some (.cells (thc t) 73 (0, 0)))
    (h3 : Turned w2 w3 b2) (hm : HasMap Tryz.prog 24 w3 b2 (thV (vs ++ [x]) (updB bl x g)) (vs.length + 1)) (h4 : (Turned w3 w4 b3 ∨ w4 = w3) ∧ MapLe Tryz.prog 190 w4 b3 (faV M (vs ++ [x])) (vs.length + 1)) :
    CW w0 w4 q M pa pc g1 cap1 b2 b3 g5 cap5 (vs ++ [x]) (updB bl x g) := by
  have hW2 := h.below hb
  obtain ⟨es2, c2, e2⟩ := hW2.things.is
  obtain ⟨es3, c3, e3⟩ := hW2.facets.is
  have hne := h.ne
  have k3 : ∀ (b : Nat) (cs : Array Value) (e : TypeId) (fr : Nat × Nat), w2.heap[b]? = some (Obj.cells cs e fr) → w3.heap[b]? = some (Obj.cells cs e fr) := fun b cs e fr hb' => (h3.block (fun e' => by subst e'; rw [e2] at hb'; cases hb')).trans hb'
  have e3' : w3.heap[b3]? = some (.map es3 c3) := (h3.block (fun e => hne e.symm)).trans e3
  have k4 : ∀ b, b ≠ b3 → w4.heap[b]? = w3.heap[b]? := fun b hb' => by
    rcases h4.1 with h4 | h4
    · exact h4.block hb'
    · rw [h4]
  have k4' : ∀ (b : Nat) (cs : Array Value) (e : TypeId) (fr : Nat × Nat), w3.heap[b]? = some (Obj.cells cs e fr) → w4.heap[b]? = some (Obj.cells cs e fr) := fun b cs e fr hb' => (k4 b (fun e' => by subst e'; rw [e3'] at hb'; cases hb')).trans hb'
  have hB3 : Below w0.heap.size w0 w3 := hW2.b.trans (Keeps.below h3.2 hW2.b.size (fun y e => by subst e; exact h.low.2.2.2.1))
  have hB4 : Below w0.heap.size w0 w4 := by
    rcases h4.1 with h4 | h4
    · exact hB3.trans (Keeps.below h4.2 hB3.size (fun y e => by subst e; exact h.low.2.2.2.2))
    · rw [h4]; exact hB3
  have hlt : ∀ r t, r ∈ vs → M.at r = some t → bl r < w.heap.size := fun r t hr ht => blk_lt (h.blk r t hr ht).1
  refine hW2.turn hB4 (fun b cs e fr hx' => k4' _ _ _ _ (k3 _ _ _ _ hx')) (by simpa using hm.of_block (k4 b2 hne)) (by simpa using h4.2) (fun r u hr hu => ?_) (fun r r' hr hr' e => ?_) ?_ (fun r hr => ?_)
  · by_cases e : r = x
    · subst e
      rw [ht] at hu
      cases hu
      simp only [updB, if_true]
      exact ⟨k4' _ _ _ _ (k3 _ _ _ _ hgb), Nat.le_trans h.b.size hg⟩
    · simp only [updB, e, if_false]
      have hr : r ∈ vs := by simpa [e] using hr
      exact ⟨k4' _ _ _ _ (k3 _ _ _ _ (hW2.blk r u hr hu).1), (hW2.blk r u hr hu).2⟩
  · have key : ∀ r, r ∈ vs ++ [x] → r ≠ x → r ∈ vs ∧ bl r < w.heap.size := fun r hr e => by
      have hr : r ∈ vs := by simpa [e] using hr
      obtain ⟨u, hu⟩ := Option.isSome_iff_exists.1 (h.sub r hr)
      exact ⟨hr, hlt r u hr hu⟩
    by_cases e1 : r = x <;> by_cases e2 : r' = x
    · rw [e1, e2]
    · have := (key r' hr' e2).2
      simp only [updB, e1, e2, if_true, if_false] at e
      omega
    · have := (key r hr e1).2
      simp only [updB, e1, e2, if_true, if_false] at e
      omega
    · simp only [updB, e1, e2, if_false] at e
      exact h.inj r r' (key r hr e1).1 (key r' hr' e2).1 e
  · rw [List.nodup_append]
    refine ⟨h.nd, by simp, fun a ha b hb' => ?_⟩
    simp at hb'
    subst hb'
    intro e
    exact hx (e ▸ ha)
  · rcases List.mem_append.1 hr with hr | hr
    · exact h.sub r hr
    · simp at hr
      subst hr
      rw [ht]
      rfl
theorem thV_all (hall : ∀ r t, M.at r = some t → r ∈ vs) (hsub : ∀ r ∈ vs, (M.at r).isSome = true) (key : Value) : thf M bl key = thV vs bl key := by
  unfold thf thV
  split
  · rename_i r
    cases hr : M.at r with
    | none =>
      have : r ∉ vs := fun hv => by
        have := hsub r hv
        rw [hr] at this
        cases this
      simp [this]
    | some t => simp [hall r t hr]
  · rename_i hne
    split
    · exact (hne _ rfl).elim
    · rfl
theorem faV_all (hM : M.ok) (hall : ∀ r t, M.at r = some t → r ∈ vs) (key : Value) : faf M key = faV M vs key := by
  unfold faf faV
  cases key with
  | agg cs =>
    simp only
    split
    · rename_i a b hl
      cases hf : M.find a b with
      | none => simp [hl, hf]
      | some r =>
        obtain ⟨u, hu, -⟩ := WM.find_at hM hf
        simp [hl, hf, Option.filter, hall r u hu]
    · rename_i hne
      split
      · rename_i hl
        exact (hne _ _ hl).elim
      · rfl
  | _ => rfl
/-- All things of a light world have been laid: a world. -/
theorem CW.done (hM : M.ok) (light : ∀ r t, M.at r = some t → Deep w (fun _ => False) t) (h : CW w0 w q M pa pc g1 cap1 b2 b3 g5 cap5 vs bl) (hall : ∀ r t, M.at r = some t → r ∈ vs) (hlen : vs.length = M.things.length) (hlast : (M.things.length : Int) ≤ M.last) :
    IsW w q M (fun b => w0.heap.size ≤ b ∧ b < w.heap.size) := by
  obtain ⟨m, hm, hfac⟩ := h.facets
  refine ⟨pa, pc, g1, cap1, g5, cap5, b2, b3, m, bl, ?_⟩
  have hc := h.cut
  have hd := h.mad
  obtain ⟨cur1, e1, -⟩ := h.cut
  obtain ⟨cur5, e5, -⟩ := h.mad
  obtain ⟨l1, l2, l3, l4, l5⟩ := h.low
  exact {
    hp := h.hq
    pars := fun j x hx => by
      obtain ⟨b, o, a1, a2, ⟨cs, fr, a3⟩, a4⟩ := h.pars j x hx
      exact ⟨b, o, a1, ⟨a2, blk_lt a3⟩, ⟨cs, fr, a3⟩, a4⟩
    cut := hc
    mad := hd
    things := by
      rw [← hlen]
      exact h.things.congr fun key kl hk => thV_all hall (fun r hr => h.sub r hr) key
    facets := hfac.congr fun key kl hk => faV_all hM hall key
    fnle := by omega
    blk := fun r t ht => ⟨(h.blk r t (hall r t ht) ht).1, ⟨(h.blk r t (hall r t ht) ht).2, blk_lt (h.blk r t (hall r t ht) ht).1⟩, (light r t ht).of_blocks (fun b cs e fr hF _ _ => hF.elim) (fun b hF => hF.elim)⟩
    inj := fun r r' t t' ht ht' e => h.inj r r' (hall r t ht) (hall r' t' ht') e
    own := ⟨⟨l1, blk_lt h.hq⟩, ⟨l2, blk_lt e1⟩, ⟨l3, blk_lt e5⟩, ⟨l4, h.things.lt⟩, ⟨l5, hfac.lt⟩⟩
    tf := h.ne
    lt := fun b hb => hb.2
    ok := hM }
end
end Go.Proofs.YtifmifjbebpomaaGreatDoor
