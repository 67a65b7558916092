/- The sides' tree: Open, Parent, cuts. -/
import Derived.Test.YtifmifjbebpomaaGreatDoorWalkA
namespace Go.Proofs.YtifmifjbebpomaaGreatDoor
open Go.RowKit Go.ChangeMaps Go.MapKept

def WM.cutAt (M : WM) (n : Nat) : Bool := M.cuts.getD n false
def WM.par (M : WM) (n : Nat) : Int := M.parents.getD n 0
def openF (M : WM) : Nat → Int → Int → Bool
  | 0, _, _ => true
  | f + 1, a, b => if a = b then true else if a < b then (if M.cutAt b.toNat then false else openF M f (M.par (b.toNat - 1)) a) else (if M.cutAt a.toNat then false else openF M f (M.par (a.toNat - 1)) b)
def WM.openB (M : WM) (a b : Int) : Bool := sideB M a && sideB M b && openF M (a.toNat + b.toNat) a b

section
variable {w : World} {p : Nat} {M : WM} {F : Nat → Prop} {pa : Option Addr} {pc cg cc mg mc tb fb fn : Nat} {bl : Int → Nat}
theorem WV.cutCell (h : WV w p M F pa pc cg cc mg mc tb fb fn bl) {n : Nat} (hn : n < M.made.length) : w.cell? ⟨cg, n, none⟩ = some (.bool (M.cutAt n)) := by
  have h1 := h.ok.cuts
  have h2 := h.ok.made
  exact h.cut.cell (by rw [List.getElem?_map, List.getElem?_eq_getElem (by omega), WM.cutAt, List.getD_eq_getElem?_getD, List.getElem?_eq_getElem (by omega)]; rfl)
theorem WV.parCell (h : WV w p M F pa pc cg cc mg mc tb fb fn bl) {n : Nat} (hn : n < M.parents.length) : ∃ b o, pa = some ⟨b, o, none⟩ ∧ w.cell? ⟨b, o + n, none⟩ = some (.int .i64 (M.par n)) := by
  obtain ⟨b, o, h1, _, _, h2⟩ := h.pars n (M.par n) (by rw [WM.par, List.getD_eq_getElem?_getD, List.getElem?_eq_getElem hn]; rfl)
  exact ⟨b, o, h1, h2⟩
theorem WM.ok.par_le (h : M.ok) {n : Nat} (hn : n < M.parents.length) : 0 ≤ M.par n ∧ M.par n ≤ n := by
  have := h.tree n (M.par n) (by rw [WM.par, List.getD_eq_getElem?_getD, List.getElem?_eq_getElem hn]; rfl)
  exact this
end

section
variable {w : World} {p : Nat} {M : WM} {F : Nat → Prop}

theorem IsCut_W (hW : IsW w p M F) (n : Int) : Calls Tryz.prog 35 #[.pointer (some ⟨p, 0, none⟩), .int .i64 n] w fun e w' => e = .returned (.bool (edgeB M n && M.cutAt n.toNat)) ∧ w = w' := by
  have hn := edge_W hW n
  obtain ⟨pa, pc, cg, cc, mg, mc, tb, fb, fn, bl, h⟩ := hW
  have c1 := h.c1
  cases he : edgeB M n with
  | false =>
    rw [he] at hn
    go_enter Tryz.func35, Tryz.ntmps35
    go_wp2_with (go_at_call 74; refine hn.mono ?_; rintro e w' ⟨rfl, rfl⟩)
    go_ret
    exact ⟨rfl, rfl⟩
  | true =>
    rw [he] at hn
    have he' : 0 < n ∧ n < M.made.length := by simpa [edgeB] using he
    obtain ⟨h1, h2⟩ := he'
    obtain ⟨k, rfl⟩ := Int.eq_ofNat_of_zero_le (Int.le_of_lt h1)
    have hc := h.cutCell (n := k) (by omega)
    have hcl : (k : Int) < M.cuts.length := by have := h.ok.cuts; have := h.ok.made; omega
    rw [Int.toNat_natCast]
    clear he
    go_enter Tryz.func35, Tryz.ntmps35
    go_wp2_with (go_at_call 74; refine hn.mono ?_; rintro e w' ⟨rfl, rfl⟩)
    go_ret
    exact ⟨by simp, rfl⟩

theorem Parent_W (hW : IsW w p M F) (s : Int) (hs : 0 < s ∧ s < M.made.length) : Calls Tryz.prog 73 #[.pointer (some ⟨p, 0, none⟩), .int .i64 s] w fun e w' => e = .returned (.tuple #[.int .i64 (M.par (s.toNat - 1)), .int .i64 0]) ∧ w = w' := by
  have hn := none_W hW
  have hs2 := side_W hW s
  have hok := hW.ok
  obtain ⟨h1, h2⟩ := hs
  rw [sideB_iff.2 ⟨by omega, h2⟩] at hs2
  obtain ⟨pa, pc, cg, cc, mg, mc, tb, fb, fn, bl, h⟩ := hW
  have c0 := h.c0
  obtain ⟨k, rfl⟩ : ∃ k : Nat, s = (k : Int) + 1 := ⟨(s - 1).toNat, by omega⟩
  have hm := hok.made
  have hsd := hok.sides
  obtain ⟨b, o, rfl, hc⟩ := h.parCell (n := k) (by omega)
  have e1 : ((k : Int) + 1).toNat - 1 = k := by omega
  rw [e1]
  have hkl : (k : Int) < M.parents.length := by omega
  have hkb : k ≤ 16 := by omega
  have hn0 : ((k : Int) + 1 == 0) = false := by simp; omega
  clear hm e1
  go_enter Tryz.func73, Tryz.ntmps73
  go_wp2_with (first | (go_at_call 46; refine hn.mono ?_; rintro e w' ⟨rfl, rfl⟩) | (go_at_call 78; refine hs2.mono ?_; rintro e w' ⟨rfl, rfl⟩))
  go_ret2
  exact ⟨rfl, rfl⟩

theorem Open_W (hW : IsW w p M F) (a b : Int) : Calls Tryz.prog 41 #[.pointer (some ⟨p, 0, none⟩), .int .i64 a, .int .i64 b] w fun e w' => e = .returned (.bool (M.openB a b)) ∧ w = w' := by
  have ha := side_W hW a
  have hb := side_W hW b
  cases h1 : sideB M a with
  | false =>
    rw [h1] at ha
    go_enter Tryz.func41, Tryz.ntmps41
    go_wp2_with (go_at_call 78; refine ha.mono ?_; rintro e w' ⟨rfl, rfl⟩)
    go_ret
    exact ⟨by simp [WM.openB, h1], rfl⟩
  | true =>
  cases h2 : sideB M b with
  | false =>
    rw [h1] at ha
    rw [h2] at hb
    go_enter Tryz.func41, Tryz.ntmps41
    go_wp2_with fail
    refine ha.mono ?_
    rintro e w' ⟨rfl, rfl⟩
    go_wp2_with fail
    refine hb.mono ?_
    rintro e w' ⟨rfl, rfl⟩
    go_wp2_with fail
    go_ret
    exact ⟨by simp [WM.openB, h2], rfl⟩
  | true =>
    rw [h1] at ha
    rw [h2] at hb
    obtain ⟨a0, a1⟩ := sideB_iff.1 h1
    obtain ⟨b0, b1⟩ := sideB_iff.1 h2
    have hv : Hid (M.openB a b = openF M (a.toNat + b.toNat) a b) := by show _ = _; simp [WM.openB, h1, h2]
    rw [hv.out]
    clear h1 h2 hv
    have hok := hW.ok
    obtain ⟨pa, pc, cg, cc, mg, mc, tb, fb, fn, bl, h⟩ := hW
    have c0 := h.c0
    have c1 := h.c1
    have hm := hok.made
    have hsd := hok.sides
    have hcs := hok.cuts
    have H : Hid (WV w p M F pa pc cg cc mg mc tb fb fn bl) := h
    have Hok : Hid M.ok := hok
    clear h hok
    obtain ⟨v, hv⟩ : ∃ v, v = openF M (a.toNat + b.toNat) a b := ⟨_, rfl⟩
    rw [← hv]
    have HV : Hid (v = openF M (a.toNat + b.toNat) a b) := hv
    clear hv
    have hml : (M.made.length : Int) ≤ 16 := by omega
    have hcl : (M.cuts.length : Int) = M.made.length := by omega
    have HM : Hid (M.made.length = M.parents.length + 1) := hm
    have HC : Hid ((M.cuts.length : Int) = M.made.length) := hcl
    clear hm hcl hcs
    go_enter Tryz.func41, Tryz.ntmps41
    go_wp2_with fail
    refine ha.mono ?_
    rintro e w' ⟨rfl, rfl⟩
    go_wp2_with fail
    refine hb.mono ?_
    rintro e w' ⟨rfl, rfl⟩
    go_wp2_with fail
    go_loop [1, 2] (fun va vb => ∃ (f : Nat) (x y : Int), va = .int .i64 x ∧ vb = .int .i64 y ∧ 0 ≤ x ∧ x < M.made.length ∧ 0 ≤ y ∧ y < M.made.length ∧ x.toNat + y.toNat ≤ f ∧ Hid (openF M f x y = v)) (fun va vb => (intOf va).toNat + (intOf vb).toNat)
    case atStart => exact ⟨_, a, b, rfl, rfl, a0, a1, b0, b1, Nat.le_refl _, HV.out.symm⟩
    case round =>
      obtain ⟨f, x, y, rfl, rfl, x0, x1, y0, y1, hf, Hv⟩ := hrel
      clear a0 a1 b0 b1 ha hb HV
      by_cases hxy : x = y
      · subst hxy
        have hT : Hid (v = true) := by
          have := Hv.out
          cases f <;> simp [openF] at this <;> exact this
        go_wp2_with fail
        go_ret
        exact ⟨by rw [hT.out]; rfl, rfl⟩
      · obtain ⟨f, rfl⟩ : ∃ g, f = g + 1 := ⟨f - 1, by omega⟩
        have hne : (x != y) = true := by simp [hxy]
        have HM' := HM.out
        have HC' := HC.out
        by_cases hlt : x < y
        · obtain ⟨k, rfl⟩ : ∃ k : Nat, y = (k : Int) + 1 := ⟨(y - 1).toNat, by omega⟩
          obtain ⟨b, o, rfl, hc⟩ := H.out.parCell (n := k) (by omega)
          have hp := Hok.out.par_le (n := k) (by omega)
          obtain ⟨q, hq⟩ : ∃ q, q = M.par k := ⟨_, rfl⟩
          rw [← hq] at hc hp
          have hk := H.out.cutCell (n := k + 1) (by omega)
          obtain ⟨c, hc'⟩ : ∃ c, c = M.cutAt (k + 1) := ⟨_, rfl⟩
          rw [← hc'] at hk
          have hst : Hid (openF M (f + 1) x ((k : Int) + 1) = if c then false else openF M f q x) := by
            show _ = _
            have e1 : ((k : Int) + 1).toNat = k + 1 := by omega
            rw [openF, if_neg hxy, if_pos hlt, e1, hq, hc']
            rfl
          have hkp : (k : Int) < M.parents.length := by omega
          have hkc : (k : Int) + 1 < M.cuts.length := by omega
          obtain ⟨q0, q1⟩ := hp
          clear HM' HC' hxy hq hc'
          cases c with
          | true =>
            go_wp2_with fail
            go_ret
            have := Hv.out
            rw [hst.out] at this
            exact ⟨by rw [← this]; rfl, rfl⟩
          | false =>
            go_wp2_with fail
            go_round
            case rel => exact ⟨f, q, x, rfl, rfl, q0, by omega, x0, x1, by omega, hst.out.symm.trans Hv.out⟩
            case measure => simp [intOf]; omega
        · obtain ⟨k, rfl⟩ : ∃ k : Nat, x = (k : Int) + 1 := ⟨(x - 1).toNat, by omega⟩
          obtain ⟨b, o, rfl, hc⟩ := H.out.parCell (n := k) (by omega)
          have hp := Hok.out.par_le (n := k) (by omega)
          obtain ⟨q, hq⟩ : ∃ q, q = M.par k := ⟨_, rfl⟩
          rw [← hq] at hc hp
          have hk := H.out.cutCell (n := k + 1) (by omega)
          obtain ⟨c, hc'⟩ : ∃ c, c = M.cutAt (k + 1) := ⟨_, rfl⟩
          rw [← hc'] at hk
          have hst : Hid (openF M (f + 1) ((k : Int) + 1) y = if c then false else openF M f q y) := by
            show _ = _
            have e1 : ((k : Int) + 1).toNat = k + 1 := by omega
            rw [openF, if_neg hxy, if_neg hlt, e1, hq, hc']
            rfl
          have hkp : (k : Int) < M.parents.length := by omega
          have hkc : (k : Int) + 1 < M.cuts.length := by omega
          obtain ⟨q0, q1⟩ := hp
          clear HM' HC' hxy hq hc'
          cases c with
          | true =>
            go_wp2_with fail
            go_ret
            have := Hv.out
            rw [hst.out] at this
            exact ⟨by rw [← this]; rfl, rfl⟩
          | false =>
            go_wp2_with fail
            go_round
            case rel => exact ⟨f, q, y, rfl, rfl, q0, by omega, y0, y1, by omega, hst.out.symm.trans Hv.out⟩
            case measure => simp [intOf]; omega
end
end Go.Proofs.YtifmifjbebpomaaGreatDoor
