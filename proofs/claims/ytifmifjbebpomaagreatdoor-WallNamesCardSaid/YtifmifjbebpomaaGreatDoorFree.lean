/- Free, where no gate stands on the way. -/
import Derived.Test.YtifmifjbebpomaaGreatDoorWalkC
import Derived.Test.YtifmifjbebpomaaGreatDoorWalkD
import Derived.Test.YtifmifjbebpomaaGreatDoorPure
import Derived.Deep.QuietTactic
import Derived.BigQuiet
namespace Go.Proofs.YtifmifjbebpomaaGreatDoor
open Go.RowKit Go.ChangeMaps Go.MapKept
variable {w : World} {p : Nat} {M : WM} {F : Nat → Prop}

theorem cell_below' {w w' : World} (hb : Below w.heap.size w w') {a : Addr} {v : Value} (h : w.cell? a = some v) : w'.cell? a = some v := by
  have : a.block < w.heap.size := by
    unfold World.cell? at h
    cases ho : w.heap[a.block]? with
    | none => simp [ho] at h
    | some o => exact blk_lt ho
  exact (hb.cell this).trans h

theorem meas_step {n k : Nat} (h : k < n) (hw : wrap64 ((k : Int) + 1) = (k : Int) + 1) : n - (intOf (.int .i64 (wrap64 ((k : Int) + 1)))).toNat < n - (intOf (.int .i64 (k : Int))).toNat := by
  rw [hw]
  have e1 : (intOf (.int .i64 ((k : Int) + 1))).toNat = k + 1 := by simp only [intOf]; omega
  have e2 : (intOf (.int .i64 (k : Int))).toNat = k := by simp only [intOf]; omega
  rw [e1, e2]
  omega

def freeL (M : WM) : Int → List Int → Bool
  | _, [] => true
  | a, r :: l => match M.at r with
    | none => false
    | some t => if t.kind = 14 then freeL M a l else if M.openB a t.home = true then freeL M t.home l else false

def freeE (v : Bool) : Int := if v = true then 0 else 7

set_option maxHeartbeats 1000000 in
set_option maxRecDepth 8000 in
theorem Free_W (hW : IsW w p M F) {a r : Int} {l : List Int} (ha : sideB M a = true) (hr : (Lit.int .i64 r).wf = true) (hl : WayIs M r l) {t0 : Th} (ht0 : M.at r = some t0)
    (hall : ∀ x ∈ l, ∃ t, M.at x = some t ∧ t.kind ≠ 15) :
    Calls Tryz.prog 103 #[.pointer (some ⟨p, 0, none⟩), .int .i64 a, .int .i64 r] w fun e w' => e = .returned (.int .i64 (freeE (freeL M a l))) ∧ Below w.heap.size w w' := by
  have hn := Way_W hW hr hl
  have hlen : Hid ((l.length : Int) ≤ 1099511627777) := by
    obtain ⟨l', h1, h2⟩ := way_ex hW.ok r
    obtain rfl := hl.uniq h1
    have := hW.ok.last
    show _ ≤ _
    omega
  have HW : Hid (IsW w p M F) := hW
  have Hall := (show Hid _ from hall)
  have hIs : (M.at r).isSome = true := by rw [ht0]; rfl
  obtain ⟨v, hv⟩ : ∃ v, v = freeL M a l := ⟨_, rfl⟩
  have Hv : Hid (freeL M a l = v) := hv.symm
  rw [← hv]
  clear hW hall hv ht0 hl
  go_enter Tryz.func103, Tryz.ntmps103
  go_wp2_with fail
  refine (none_W HW.out).mono ?_
  rintro e _ ⟨rfl, rfl⟩
  go_wp2_with fail
  refine (side_W HW.out a).mono ?_
  rw [ha]
  rintro e _ ⟨rfl, rfl⟩
  go_wp2_with fail
  refine (Is_W HW.out hr).mono ?_
  rw [hIs]
  rintro e _ ⟨rfl, rfl⟩
  go_wp2_with fail
  refine hn.mono ?_
  rintro e w1 ⟨vl, rfl, hown, hb⟩
  have HB : Hid (Below w.heap.size w w1) := hb
  obtain ⟨pa, c, hvl, hcells⟩ : ∃ pa c, vl = .slice pa l.length c ∧ Hid (∀ (j : Nat) (x : Int), l[j]? = some x → ∃ g, pa = some ⟨g, 0, none⟩ ∧ w1.cell? ⟨g, j, none⟩ = some (.int .i64 x)) := by
    rcases hown.2 with ⟨rfl, h0⟩ | ⟨g, cap, cur, rfl, hbase, hg, h1, h2, h3, h4⟩
    · have : l = [] := by simpa using h0
      subst this
      exact ⟨none, 0, rfl, fun j x hx => by simp at hx⟩
    · refine ⟨_, _, rfl, fun j x hx => ⟨g, rfl, ?_⟩⟩
      rw [cell_blk hg]
      have hj := (List.getElem?_eq_some_iff.1 hx).1
      have e : (cur.toList.take (l.length * 1))[j]? = (l.map (Value.int .i64))[j]? := by rw [h4]
      rw [List.getElem?_take, if_pos (by omega), List.getElem?_map, hx] at e
      simpa using e
  subst hvl
  obtain ⟨n, hnl⟩ : ∃ n, n = l.length := ⟨_, rfl⟩
  have Hn : Hid (n = l.length) := hnl
  have Hnb : Hid ((n : Int) ≤ 1099511627777) := by show _ ≤ _; rw [hnl]; exact hlen.out
  rw [← hnl]
  clear hown hb hn hlen hnl
  go_wp2_with fail
  go_loopw [1, 27] (fun va vi wr => ∃ (x : Int) (k : Nat), va = .int .i64 x ∧ vi = .int .i64 k ∧ k ≤ n ∧ Hid (freeL M x (l.drop k) = v) ∧ Below w1.heap.size w1 wr) (fun _ vi _ => n - (intOf vi).toNat)
  case atStart => exact ⟨a, 0, rfl, rfl, Nat.zero_le _, Hv.out, Below.refl _ _⟩
  case round =>
    obtain ⟨x, k, rfl, rfl, hk, Hx, hb2⟩ := hrel
    have HB2 := (show Hid (Below w1.heap.size w1 wr) from hb2)
    have HWr : Hid (IsW wr p M F) := (HW.out.below HB.out).below hb2
    by_cases hkn : k < n
    · obtain ⟨y, hy⟩ : ∃ y, l[k]? = some y := ⟨_, List.getElem?_eq_getElem (by have := Hn.out; omega)⟩
      obtain ⟨g, rfl, hc0⟩ := hcells.out k y hy
      have hc := cell_below' hb2 hc0
      obtain ⟨t, ht, h15⟩ := Hall.out y (List.mem_of_getElem? hy)
      have hyr := HW.out.ok.at_range ht
      have hyl := HW.out.ok.last
      have hyw : (Lit.int .i64 y).wf = true := WalkArith.wf_i64 (by omega)
      have hdrop : l.drop k = y :: l.drop (k + 1) := by
        rw [List.drop_eq_getElem_cons (by have := Hn.out; omega)]
        congr 1
        have := List.getElem?_eq_getElem (l := l) (i := k) (by have := Hn.out; omega)
        rw [this] at hy
        exact Option.some.inj hy
      have hkz : (k : Int) < (n : Int) := by omega
      have hwk : wrap64 ((k : Int) + 1) = (k : Int) + 1 := by have := Hnb.out; unfold wrap64; omega
      have hk15 : (t.kind == 15) = false := by simpa using h15
      have HX : Hid ((if t.kind = 14 then freeL M x (l.drop (k + 1)) else if M.openB x t.home = true then freeL M t.home (l.drop (k + 1)) else false) = v) := by
        have := Hx.out
        rw [hdrop, freeL, ht] at this
        exact this
      obtain ⟨pa', pc, cg, cc, mg, mc, tb, fb, fn, bl, h⟩ := HWr.out
      have c2 := h.c2
      have hlk := h.look hyw
      rw [ht] at hlk
      simp only [Option.map_some] at hlk
      obtain ⟨k0, k1, -, -, k6, k7, k8, k9⟩ := thc_cell (h.blk y t ht).1
      clear hb2 hc0 hy hdrop hyr hyl h15 ht h
      by_cases h14 : t.kind = 14
      · have hk14 : (t.kind == 14) = true := by simpa using h14
        have HX2 : Hid (freeL M x (l.drop (k + 1)) = v) := by
          have := HX.out
          rw [if_pos h14] at this
          exact this
        clear HX h14
        go_wp2_with fail
        go_round
        case rel =>
          exact ⟨x, k + 1, rfl, by rw [hwk]; rfl, by omega, HX2.out, HB2.out⟩
        case measure => exact meas_step hkn hwk
      · have hk14 : (t.kind == 14) = false := by simpa using h14
        have hOp : ∀ m, Calls Tryz.prog 41 #[.pointer (some ⟨p, 0, none⟩), .int .i64 x, .int .i64 t.home] (wr.drewN m) fun e w' => e = .returned (.bool (M.openB x t.home)) ∧ w' = wr.drewN m := fun m =>
          (Open_W (HWr.out.below (w' := wr.drewN m) ⟨rfl, rfl, rfl, Nat.le_refl _, fun _ _ => rfl⟩) x t.home).mono (fun _ _ h => ⟨h.1, h.2.symm⟩)
        cases ho : M.openB x t.home with
        | true =>
          simp only [ho] at hOp
          have HX2 : Hid (freeL M t.home (l.drop (k + 1)) = v) := by
            have := HX.out
            rw [if_neg h14, if_pos ho] at this
            exact this
          clear HX h14 ho
          go_wp2_with fail
          go_quiet ((go_at_call 41; exact Calls.quiet_of_same (hOp _)))
          go_wp2_with fail
          go_round
          case rel => exact ⟨t.home, k + 1, rfl, by rw [hwk]; rfl, by omega, HX2.out, HB2.out.trans ⟨rfl, rfl, rfl, Nat.le_refl _, fun _ _ => rfl⟩⟩
          case measure => exact meas_step hkn hwk
        | false =>
          simp only [ho] at hOp
          have HX2 : Hid (v = false) := by
            have := HX.out
            rw [if_neg h14, ho] at this
            exact this.symm
          clear HX h14 ho
          go_wp2_with fail
          go_quiet ((go_at_call 41; exact Calls.quiet_of_same (hOp _)))
          go_wp2_with fail
          go_ret
          have hv := HX2.out
          subst hv
          exact ⟨rfl, HB.out.trans ((HB2.out.trans (⟨rfl, rfl, rfl, Nat.le_refl _, fun _ _ => rfl⟩ : Below w1.heap.size wr (wr.drewN nq))).mono HB.out.size)⟩
    · have hkz : ¬ (k : Int) < (n : Int) := by omega
      have hkn' : k = n := by omega
      have HX2 : Hid (v = true) := by
        have := Hx.out
        rw [hkn', Hn.out, List.drop_length] at this
        exact this.symm
      clear Hx
      go_wp2_with fail
      go_ret
      have hv := HX2.out
      subst hv
      exact ⟨rfl, HB.out.trans (HB2.out.mono HB.out.size)⟩
end Go.Proofs.YtifmifjbebpomaaGreatDoor
