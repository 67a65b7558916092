/- A part of the proof, several texts in one: WalkB, WalkC, WalkD, Clone. -/
import Derived.Test.YtmefjkggibbhoaaGreatmAB
import Derived.Deep.QuietTactic
import Derived.BigQuiet
/- What a thing is able to, its way, its base; the sides' tree. -/
namespace Go.Proofs.YtmefjkggibbhoaaGreat
open Go.RowKit Go.ChangeMaps Go.MapKept

def meet2 (a b : Int) : Int := bits BinOp.and IntKind.u8 (bits BinOp.and IntKind.u8 63 a) b
def canM (k : Int) : Int :=
  if k = 1 then 3 else if k = 2 then 9 else if k = 3 then 9 else if k = 4 then 12 else if k = 5 then 16 else if k = 6 then 16 else if k = 8 then 16 else if k = 12 then 16 else if k = 9 then 13 else if k = 10 then 1 else if k = 11 then 8 else if k = 13 then 33 else 0

theorem Meet_new (w : World) (a b : Int) :
    Calls Tryz.prog 67 #[.slice (some ⟨w.heap.size, 0, none⟩) 2 2] (w.alloc (.cells #[.int .u8 a, .int .u8 b] 49)) fun e w' => e = .returned (.int .u8 (meet2 a b)) ∧ w.alloc (.cells #[.int .u8 a, .int .u8 b] 49) = w' := by
  have h0 : (w.alloc (.cells #[.int .u8 a, .int .u8 b] 49)).cell? ⟨w.heap.size, 0, none⟩ = some (.int .u8 a) := by rw [cell_blk (blk_new w _)]; rfl
  have h1 : (w.alloc (.cells #[.int .u8 a, .int .u8 b] 49)).cell? ⟨w.heap.size, 1, none⟩ = some (.int .u8 b) := by rw [cell_blk (blk_new w _)]; rfl
  generalize w.alloc (.cells #[.int .u8 a, .int .u8 b] 49) = w1 at h0 h1 ⊢
  go_enter Tryz.func67, Tryz.ntmps67
  go_wp2
  go_rounds 3
  go_ret
  exact ⟨rfl, rfl⟩

theorem can_W (k : Int) (w : World) : Calls Tryz.prog 68 #[.int .u8 k] w fun e w' => e = .returned (.int .u8 (canM k)) ∧ Below w.heap.size w w' := by
  by_cases h1 : k = 1
  · subst h1
    go_enter Tryz.func68, Tryz.ntmps68
    go_wp2
    go_rounds 3
    go_ret
    exact ⟨rfl, by go_grown⟩
  by_cases h2 : k = 2
  · subst h2
    clear h1
    go_enter Tryz.func68, Tryz.ntmps68
    go_wp2
    go_rounds 3
    go_ret
    exact ⟨rfl, by go_grown⟩
  by_cases h3 : k = 3
  · subst h3
    clear h1 h2
    go_enter Tryz.func68, Tryz.ntmps68
    go_wp2
    go_rounds 3
    go_ret
    exact ⟨rfl, by go_grown⟩
  by_cases h4 : k = 4
  · subst h4
    clear h1 h2 h3
    go_enter Tryz.func68, Tryz.ntmps68
    go_wp2
    go_rounds 3
    go_ret
    exact ⟨rfl, by go_grown⟩
  by_cases h9 : k = 9
  · subst h9
    clear h1 h2 h3 h4
    go_enter Tryz.func68, Tryz.ntmps68
    go_wp2
    go_rounds 4
    go_ret
    exact ⟨rfl, by go_grown⟩
  by_cases h13 : k = 13
  · subst h13
    clear h1 h2 h3 h4 h9
    go_enter Tryz.func68, Tryz.ntmps68
    go_wp2
    go_rounds 3
    go_ret
    exact ⟨rfl, by go_grown⟩
  have g1 : (k == 1) = false := by simp [h1]
  have g2 : (k == 2) = false := by simp [h2]
  have g3 : (k == 3) = false := by simp [h3]
  have g4 : (k == 4) = false := by simp [h4]
  have g9 : (k == 9) = false := by simp [h9]
  have g13 : (k == 13) = false := by simp [h13]
  have H : Hid (canM k = if k = 5 then 16 else if k = 6 then 16 else if k = 8 then 16 else if k = 12 then 16 else if k = 10 then 1 else if k = 11 then 8 else 0) := by
    show canM k = _
    simp only [canM, if_neg h1, if_neg h2, if_neg h3, if_neg h4, if_neg h9, if_neg h13]
  clear h1 h2 h3 h4 h9 h13
  by_cases h5 : k = 5
  · subst h5
    go_enter Tryz.func68, Tryz.ntmps68
    go_wp2
    go_ret
    exact ⟨by rw [H.out]; rfl, by go_grown⟩
  by_cases h6 : k = 6
  · subst h6
    go_enter Tryz.func68, Tryz.ntmps68
    go_wp2
    go_ret
    exact ⟨by rw [H.out]; rfl, by go_grown⟩
  by_cases h8 : k = 8
  · subst h8
    go_enter Tryz.func68, Tryz.ntmps68
    go_wp2
    go_ret
    exact ⟨by rw [H.out]; rfl, by go_grown⟩
  by_cases h12 : k = 12
  · subst h12
    go_enter Tryz.func68, Tryz.ntmps68
    go_wp2
    go_ret
    exact ⟨by rw [H.out]; rfl, by go_grown⟩
  by_cases h10 : k = 10
  · subst h10
    go_enter Tryz.func68, Tryz.ntmps68
    go_wp2
    go_ret
    exact ⟨by rw [H.out]; rfl, by go_grown⟩
  by_cases h11 : k = 11
  · subst h11
    go_enter Tryz.func68, Tryz.ntmps68
    go_wp2
    go_ret
    exact ⟨by rw [H.out]; rfl, by go_grown⟩
  have H2 : Hid (canM k = 0) := by
    show canM k = 0
    rw [H.out, if_neg h5, if_neg h6, if_neg h8, if_neg h12, if_neg h10, if_neg h11]
  have g5 : (k == 5) = false := by simp [h5]
  have g6 : (k == 6) = false := by simp [h6]
  have g8 : (k == 8) = false := by simp [h8]
  have g12 : (k == 12) = false := by simp [h12]
  have g10 : (k == 10) = false := by simp [h10]
  have g11 : (k == 11) = false := by simp [h11]
  clear h5 h6 h8 h12 h10 h11 H
  go_enter Tryz.func68, Tryz.ntmps68
  go_wp2
  go_ret
  exact ⟨by rw [H2.out]; rfl, by go_grown⟩

def ableF (M : WM) : Nat → Int → Int → Int
  | 0, _, _ => 0
  | f + 1, s, r => match M.at r with
    | none => 0
    | some t => if t.kind = 14 then ableF M f (meet2 s t.set) t.tgt else if t.kind = 15 ∨ t.kind = 16 then ableF M f s t.tgt else meet2 s (canM t.kind)
def AbleIs (M : WM) (s r v : Int) : Prop := ∃ f0, ∀ f, f0 ≤ f → ableF M f s r = v

theorem AbleIs.uniq {M : WM} {s r v v' : Int} (h : AbleIs M s r v) (h' : AbleIs M s r v') : v = v' := by
  obtain ⟨f, h⟩ := h
  obtain ⟨f', h'⟩ := h'
  exact (h (f + f') (by omega)).symm.trans (h' (f + f') (by omega))
theorem AbleIs.none {M : WM} {s r v : Int} (h : AbleIs M s r v) (hr : M.at r = none) : v = 0 := by
  obtain ⟨f, h⟩ := h
  have := h (f + 1) (by omega)
  simpa [ableF, hr] using this.symm
theorem AbleIs.facet {M : WM} {s r v : Int} {t : Th} (h : AbleIs M s r v) (hr : M.at r = some t) (hk : t.kind = 14) : AbleIs M (meet2 s t.set) t.tgt v := by
  obtain ⟨f, h⟩ := h
  refine ⟨f, fun g hg => ?_⟩
  have := h (g + 1) (by omega)
  simpa [ableF, hr, hk] using this
theorem AbleIs.wrap {M : WM} {s r v : Int} {t : Th} (h : AbleIs M s r v) (hr : M.at r = some t) (hk : t.kind = 15 ∨ t.kind = 16) : AbleIs M s t.tgt v := by
  obtain ⟨f, h⟩ := h
  refine ⟨f, fun g hg => ?_⟩
  have := h (g + 1) (by omega)
  have h14 : t.kind ≠ 14 := by omega
  simpa [ableF, hr, hk, h14] using this
theorem AbleIs.base {M : WM} {s r v : Int} {t : Th} (h : AbleIs M s r v) (hr : M.at r = some t) (h14 : ¬ t.kind = 14) (hk : ¬ (t.kind = 15 ∨ t.kind = 16)) : v = meet2 s (canM t.kind) := by
  obtain ⟨f, h⟩ := h
  have := h (f + 1) (by omega)
  simpa [ableF, hr, hk, h14] using this.symm
theorem AbleIs.mk_none {M : WM} {s r : Int} (hr : M.at r = .none) : AbleIs M s r 0 := ⟨1, fun f hf => by obtain ⟨g, rfl⟩ : ∃ g, f = g + 1 := ⟨f - 1, by omega⟩; simp [ableF, hr]⟩
theorem AbleIs.mk_facet {M : WM} {s r v : Int} {t : Th} (hr : M.at r = some t) (hk : t.kind = 14) (h : AbleIs M (meet2 s t.set) t.tgt v) : AbleIs M s r v := by
  obtain ⟨f0, h⟩ := h
  exact ⟨f0 + 1, fun f hf => by obtain ⟨g, rfl⟩ : ∃ g, f = g + 1 := ⟨f - 1, by omega⟩; simp [ableF, hr, hk, h g (by omega)]⟩
theorem AbleIs.mk_wrap {M : WM} {s r v : Int} {t : Th} (hr : M.at r = some t) (hk : t.kind = 15 ∨ t.kind = 16) (h : AbleIs M s t.tgt v) : AbleIs M s r v := by
  obtain ⟨f0, h⟩ := h
  have h14 : t.kind ≠ 14 := by omega
  exact ⟨f0 + 1, fun f hf => by obtain ⟨g, rfl⟩ : ∃ g, f = g + 1 := ⟨f - 1, by omega⟩; simp [ableF, hr, hk, h14, h g (by omega)]⟩
theorem AbleIs.mk_base {M : WM} {s r : Int} {t : Th} (hr : M.at r = some t) (h14 : ¬ t.kind = 14) (hk : ¬ (t.kind = 15 ∨ t.kind = 16)) : AbleIs M s r (meet2 s (canM t.kind)) :=
  ⟨1, fun f hf => by obtain ⟨g, rfl⟩ : ∃ g, f = g + 1 := ⟨f - 1, by omega⟩; simp [ableF, hr, hk, h14]⟩

theorem able_ex {M : WM} (hok : M.ok) (s r : Int) : ∃ v, AbleIs M s r v := by
  obtain ⟨rk, -, hrk⟩ := hok.wrap
  generalize hm : rk r = m
  induction m using Nat.strongRecOn generalizing s r with
  | ind m ih =>
    subst hm
    cases hr : M.at r with
    | none => exact ⟨0, AbleIs.mk_none hr⟩
    | some t =>
      by_cases h14 : t.kind = 14
      · obtain ⟨v, hv⟩ := ih _ (hrk r t hr (by simp [wrapsB, h14])).2 (meet2 s t.set) t.tgt rfl
        exact ⟨v, AbleIs.mk_facet hr h14 hv⟩
      · by_cases hk : t.kind = 15 ∨ t.kind = 16
        · obtain ⟨v, hv⟩ := ih _ (hrk r t hr (by rcases hk with h | h <;> simp [wrapsB, h])).2 s t.tgt rfl
          exact ⟨v, AbleIs.mk_wrap hr hk hv⟩
        · exact ⟨_, AbleIs.mk_base hr h14 hk⟩

set_option maxRecDepth 4000 in
theorem Able_W {w : World} {p : Nat} {M : WM} {F : Nat → Prop} (hW : IsW w p M F) {r v : Int} (hr : (Lit.int .i64 r).wf = true) (hv : AbleIs M 63 r v) :
    Calls Tryz.prog 33 #[.pointer (some ⟨p, 0, none⟩), .int .i64 r] w fun e w' => e = .returned (.int .u8 v) ∧ Below w.heap.size w w' := by
  obtain ⟨rk, -, hrk⟩ := hW.ok.wrap
  have HW := (show Hid (IsW w p M F) from hW)
  clear hW
  have Hv := (show Hid (AbleIs M 63 r v) from hv)
  clear hv
  have Hrk := (show Hid (∀ (r : Int) (t : Th), M.at r = some t → wrapsB t.kind = true → (∃ u, M.at t.tgt = some u) ∧ rk t.tgt < rk r) from hrk)
  clear hrk
  go_enter Tryz.func33, Tryz.ntmps33
  go_wp2
  go_step3
  go_wp2
  go_step3
  go_wp2
  go_loopw [1, 5] (fun vr vs wr => ∃ q s, vr = .int .i64 q ∧ vs = .int .u8 s ∧ (Lit.int .i64 q).wf = true ∧ AbleIs M s q v ∧ Below w.heap.size w wr) (fun vr _ _ => rk (intOf vr))
  case atStart => exact ⟨r, 63, rfl, rfl, hr, Hv.out, Below.refl _ _⟩
  case round =>
    obtain ⟨q, s, rfl, rfl, hq, hv, hB⟩ := hrel
    have Hv := (show Hid (AbleIs M s q v) from hv)
    have HB := (show Hid (Below w.heap.size w wr) from hB)
    have hWr := HW.out.below hB
    have hn := Is_W hWr hq
    clear hv hB
    obtain ⟨pa, pc, cg, cc, mg, mc, tb, fb, fn, bl, h⟩ := id hWr
    have c2 := h.c2
    have hl := h.look hq
    cases ha : M.at q with
    | none =>
      rw [ha] at hn
      clear hl
      go_wp2_with (go_at_call 46; refine hn.mono ?_; rintro e w' ⟨rfl, rfl⟩)
      rw [Exit.noGoto_ret]
      go_ret
      exact ⟨by rw [Hv.out.none ha]; rfl, HB.out⟩
    | some t =>
      rw [ha] at hl hn
      simp only [Option.map_some] at hl
      obtain ⟨k0, -, -, -, k6, -, k8, -⟩ := thc_cell (h.blk q t ha).1
      have hwf := h.ok.wf q t ha
      have htgt := hwf.tgt
      have k6a := fun o => cell_al k6 o
      by_cases h14 : t.kind = 14
      · have H14 : Hid (t.kind = 14) := h14
        rw [h14] at k0
        clear h14 hwf
        go_wp2_with (first | (go_at_call 46; refine hn.mono ?_; rintro e w' ⟨rfl, rfl⟩) | (go_at_call 67; refine (Meet_new _ _ _).mono ?_; rintro e w' ⟨rfl, rfl⟩))
        go_roundw
        case rel => exact ⟨t.tgt, _, rfl, rfl, htgt, Hv.out.facet ha H14.out, HB.out.alloc HB.out.size _⟩
        case measure => exact (Hrk.out q t ha (by simp [wrapsB, H14.out])).2
      · by_cases hk : t.kind = 15 ∨ t.kind = 16
        · have H14 : Hid (t.kind = 15 ∨ t.kind = 16) := hk
          clear h14 hwf
          rcases hk with h15 | h16
          · rw [h15] at k0
            clear h15
            go_wp2_with (go_at_call 46; refine hn.mono ?_; rintro e w' ⟨rfl, rfl⟩)
            go_roundw
            case rel => exact ⟨t.tgt, _, rfl, rfl, htgt, Hv.out.wrap ha H14.out, HB.out⟩
            case measure => exact (Hrk.out q t ha (by rcases H14.out with h | h <;> simp [wrapsB, h])).2
          · rw [h16] at k0
            clear h16
            go_wp2_with (go_at_call 46; refine hn.mono ?_; rintro e w' ⟨rfl, rfl⟩)
            go_roundw
            case rel => exact ⟨t.tgt, _, rfl, rfl, htgt, Hv.out.wrap ha H14.out, HB.out⟩
            case measure => exact (Hrk.out q t ha (by rcases H14.out with h | h <;> simp [wrapsB, h])).2
        · have g14 : (t.kind == 14) = false := by simp [h14]
          have g15 : (t.kind == 15) = false := by simp; omega
          have g16 : (t.kind == 16) = false := by simp; omega
          have H : Hid (v = meet2 s (canM t.kind)) := Hv.out.base ha h14 hk
          clear h14 hk hwf
          go_wp2_with (first | (go_at_call 46; refine hn.mono ?_; rintro e w' ⟨rfl, rfl⟩) | (go_at_call 67; refine (Meet_new _ _ _).mono ?_; rintro e w' ⟨rfl, rfl⟩) | (go_at_call 68; refine (can_W _ _).mono ?_; rintro e w1 ⟨rfl, hb1⟩))
          rw [Exit.noGoto_ret]
          go_ret
          exact ⟨by rw [H.out]; rfl, (HB.out.trans (hb1.mono HB.out.size)).alloc (Nat.le_trans HB.out.size hb1.size) _⟩
end Go.Proofs.YtmefjkggibbhoaaGreat
/- The sides' tree: Open, Parent, cuts. -/
namespace Go.Proofs.YtmefjkggibbhoaaGreat
open Go.RowKit Go.ChangeMaps Go.MapKept

def WM.cutAt (M : WM) (n : Nat) : Bool := M.cuts.getD n false
def WM.par (M : WM) (n : Nat) : Int := M.parents.getD n 0
def openF (M : WM) : Nat → Int → Int → Bool
  | 0, _, _ => true
  | f + 1, a, b => if a = b then true else if a < b then (if M.cutAt b.toNat then false else openF M f (M.par (b.toNat - 1)) a) else (if M.cutAt a.toNat then false else openF M f (M.par (a.toNat - 1)) b)
def WM.openB (M : WM) (a b : Int) : Bool := sideB M a && sideB M b && openF M (a.toNat + b.toNat) a b

section
variable {w : World} {p : Nat} {M : WM} {F : Nat → Prop} {pa : Option Addr} {pc cg cc mg mc tb fb fn : Nat} {bl : Int → Nat}
theorem WV.cutCell (h : WV w p M F pa pc cg cc mg mc tb fb fn bl) {n : Nat} (hn : n < M.made.length) : w.cell? ⟨cg, n, none⟩ = some (.bool (M.cutAt n)) := by
  have h1 := h.ok.cuts
  have h2 := h.ok.made
  exact h.cut.cell (by rw [List.getElem?_map, List.getElem?_eq_getElem (by omega), WM.cutAt, List.getD_eq_getElem?_getD, List.getElem?_eq_getElem (by omega)]; rfl)
theorem WV.parCell (h : WV w p M F pa pc cg cc mg mc tb fb fn bl) {n : Nat} (hn : n < M.parents.length) : ∃ b o, pa = some ⟨b, o, none⟩ ∧ w.cell? ⟨b, o + n, none⟩ = some (.int .i64 (M.par n)) := by
  obtain ⟨b, o, h1, _, _, h2⟩ := h.pars n (M.par n) (by rw [WM.par, List.getD_eq_getElem?_getD, List.getElem?_eq_getElem hn]; rfl)
  exact ⟨b, o, h1, h2⟩
theorem WM.ok.par_le (h : M.ok) {n : Nat} (hn : n < M.parents.length) : 0 ≤ M.par n ∧ M.par n ≤ n := by
  have := h.tree n (M.par n) (by rw [WM.par, List.getD_eq_getElem?_getD, List.getElem?_eq_getElem hn]; rfl)
  exact this
end

section
variable {w : World} {p : Nat} {M : WM} {F : Nat → Prop}


end
end Go.Proofs.YtmefjkggibbhoaaGreat
/- The way of a thing, its base. -/
namespace Go.Proofs.YtmefjkggibbhoaaGreat
open Go.RowKit Go.ChangeMaps Go.MapKept

def wayF (M : WM) : Nat → Int → List Int
  | 0, _ => []
  | f + 1, r => match M.at r with
    | none => []
    | some t => r :: (if wrapsB t.kind = true then wayF M f t.tgt else [])
def WayIs (M : WM) (r : Int) (l : List Int) : Prop := ∃ f0, ∀ f, f0 ≤ f → wayF M f r = l

theorem WayIs.uniq {M : WM} {r : Int} {l l' : List Int} (h : WayIs M r l) (h' : WayIs M r l') : l = l' := by
  obtain ⟨f, h⟩ := h
  obtain ⟨f', h'⟩ := h'
  exact (h (f + f') (by omega)).symm.trans (h' (f + f') (by omega))
theorem WayIs.none {M : WM} {r : Int} {l : List Int} (h : WayIs M r l) (hr : M.at r = none) : l = [] := by
  obtain ⟨f, h⟩ := h
  have := h (f + 1) (by omega)
  simpa [wayF, hr] using this.symm
theorem WayIs.wrap {M : WM} {r : Int} {l : List Int} {t : Th} (h : WayIs M r l) (hr : M.at r = some t) (hk : wrapsB t.kind = true) : ∃ l', l = r :: l' ∧ WayIs M t.tgt l' := by
  obtain ⟨f, h⟩ := h
  have h1 := h (f + 1) (by omega)
  refine ⟨wayF M f t.tgt, by simpa [wayF, hr, hk] using h1.symm, f, fun g hg => ?_⟩
  have h2 := h (g + 1) (by omega)
  rw [← h1] at h2
  simpa [wayF, hr, hk] using h2
theorem WayIs.base {M : WM} {r : Int} {l : List Int} {t : Th} (h : WayIs M r l) (hr : M.at r = some t) (hk : wrapsB t.kind = false) : l = [r] := by
  obtain ⟨f, h⟩ := h
  have h1 := h (f + 1) (by omega)
  simpa [wayF, hr, hk] using h1.symm
theorem WayIs.mk_none {M : WM} {r : Int} (hr : M.at r = .none) : WayIs M r [] := ⟨1, fun f hf => by obtain ⟨g, rfl⟩ : ∃ g, f = g + 1 := ⟨f - 1, by omega⟩; simp [wayF, hr]⟩
theorem WayIs.mk_wrap {M : WM} {r : Int} {l : List Int} {t : Th} (hr : M.at r = some t) (hk : wrapsB t.kind = true) (h : WayIs M t.tgt l) : WayIs M r (r :: l) := by
  obtain ⟨f0, h⟩ := h
  exact ⟨f0 + 1, fun f hf => by obtain ⟨g, rfl⟩ : ∃ g, f = g + 1 := ⟨f - 1, by omega⟩; simp [wayF, hr, hk, h g (by omega)]⟩
theorem WayIs.mk_base {M : WM} {r : Int} {t : Th} (hr : M.at r = some t) (hk : wrapsB t.kind = false) : WayIs M r [r] :=
  ⟨1, fun f hf => by obtain ⟨g, rfl⟩ : ∃ g, f = g + 1 := ⟨f - 1, by omega⟩; simp [wayF, hr, hk]⟩

theorem way_ex {M : WM} (hok : M.ok) (r : Int) : ∃ l, WayIs M r l ∧ (l.length : Int) ≤ M.last + 1 := by
  obtain ⟨rk, hrk0, hrk⟩ := hok.wrap
  have hl := hok.last
  suffices h : ∃ l, WayIs M r l ∧ l.length ≤ rk r + 1 by
    obtain ⟨l, h1, h2⟩ := h
    have := hrk0 r
    exact ⟨l, h1, by omega⟩
  generalize hm : rk r = m
  induction m using Nat.strongRecOn generalizing r with
  | ind m ih =>
    subst hm
    cases hr : M.at r with
    | none => exact ⟨[], WayIs.mk_none hr, by simp⟩
    | some t =>
      cases hk : wrapsB t.kind with
      | true =>
        obtain ⟨l, h1, h2⟩ := ih _ (hrk r t hr hk).2 t.tgt rfl
        have := (hrk r t hr hk).2
        exact ⟨_, WayIs.mk_wrap hr hk h1, by simp; omega⟩
      | false => exact ⟨_, WayIs.mk_base hr hk, by simp⟩


set_option maxRecDepth 20000 in
theorem Way_W {w : World} {p : Nat} {M : WM} {F : Nat → Prop} (hW : IsW w p M F) {r : Int} {l : List Int} (hr : (Lit.int .i64 r).wf = true) (hl : WayIs M r l) :
    Calls Tryz.prog 70 #[.pointer (some ⟨p, 0, none⟩), .int .i64 r] w fun e w' => ∃ v, e = .returned v ∧ w'.ownsRow w.heap.size 35 1 v l.length (l.map (Value.int .i64)) ∧ Below w.heap.size w w' := by
  have Hb : Hid ((l.length : Int) ≤ 1099511627777) := by
    obtain ⟨l', h1, h2⟩ := way_ex hW.ok r
    obtain rfl := hl.uniq h1
    have := hW.ok.last
    show _ ≤ _
    omega
  obtain ⟨rk, -, hrk⟩ := hW.ok.wrap
  obtain ⟨pa, pc, cg, cc, mg, mc, tb, fb, fn, bl, hW⟩ := hW
  have HW := (show Hid (WV w p M F pa pc cg cc mg mc tb fb fn bl) from hW)
  have Hl := (show Hid (WayIs M r l) from hl)
  have Hrk := (show Hid (∀ (r : Int) (t : Th), M.at r = some t → wrapsB t.kind = true → (∃ u, M.at t.tgt = some u) ∧ rk t.tgt < rk r) from hrk)
  clear hW hl hrk
  go_enter Tryz.func70, Tryz.ntmps70
  go_wp2
  go_loopw [1, 5] (fun vr vs wr => ∃ q pre rest, vr = .int .i64 q ∧ (Lit.int .i64 q).wf = true ∧ Hid (WayIs M q rest) ∧ Hid (l = pre ++ rest) ∧ wr.ownsRow w.heap.size 35 1 vs pre.length (pre.map (Value.int .i64)) ∧ Below w.heap.size w wr) (fun vr _ _ => rk (intOf vr))
  case atStart => exact ⟨r, [], l, rfl, hr, Hl.out, rfl, World.ownsRow_nil _ _ _ _, Below.refl _ _⟩
  case round =>
    obtain ⟨q, pre, rest, rfl, hq, Hv, He, hown, hB⟩ := hrel
    have HB := (show Hid (Below w.heap.size w wr) from hB)
    have h := HW.out.below hB
    have hsz := hB.size
    have hn := Is_W ⟨_, _, _, _, _, _, _, _, _, _, h⟩ hq
    clear hB
    have c2 := h.c2
    have hl := h.look hq
    cases ha : M.at q with
    | none =>
      rw [ha] at hn
      clear hl
      go_wp2_with (go_at_call 46; refine hn.mono ?_; rintro e w' ⟨rfl, rfl⟩)
      go_ret
      have e1 : l = pre := by
        have := He.out
        rw [Hv.out.none ha] at this
        simpa using this
      exact ⟨_, rfl, by rw [e1]; exact hown, HB.out⟩
    | some t =>
      rw [ha] at hn
      clear hl c2
      have htgt := (h.ok.wf q t ha).tgt
      have Hp : Hid ((pre.length : Int) ≤ 1099511627777) := by
        show _ ≤ _
        have h1 := Hb.out
        have h2 := He.out
        cases hk : wrapsB t.kind with
        | true =>
          obtain ⟨l', e1, _⟩ := Hv.out.wrap ha hk
          rw [h2, e1] at h1
          simp at h1
          omega
        | false =>
          rw [h2, Hv.out.base ha hk] at h1
          simp at h1
          omega
      clear h
      have hwr := fun W => wraps_W t.kind W
      cases hk : wrapsB t.kind with
      | false =>
        have Hk : Hid (wrapsB t.kind = false) := hk
        rw [hk] at hwr
        clear hk
        go_wp2_with (first
          | (go_at_call 46; refine hn.mono ?_; rintro e w' ⟨rfl, rfl⟩)
          | (at_builtin; refine append_ref rfl _ _ rfl w.heap.size _ pre rfl hown q rfl Hp hsz ?_; intro v' w1 hown' _ hb1; have hB1 : Below w.heap.size w w1 := HB.out.trans hb1; have HB1 := (show Hid (Below w.heap.size w w1) from hB1); have h1 := HW.out.below hB1; have c2 := h1.c2; have hl := h1.look hq; rw [ha] at hl; simp only [Option.map_some] at hl; obtain ⟨k0, -, -, -, k6, -, -, -⟩ := thc_cell (h1.blk q t ha).1; clear h1 hB1 hb1)
          | (go_at_call 92; refine (hwr _).mono ?_; rintro e w' ⟨rfl, rfl⟩))
        go_ret
        have e1 : l = pre ++ [q] := by rw [He.out, Hv.out.base ha Hk.out]
        exact ⟨_, rfl, by rw [e1]; exact hown', HB1.out⟩
      | true =>
        have Hk : Hid (wrapsB t.kind = true) := hk
        rw [hk] at hwr
        clear hk
        go_wp2_with (first
          | (go_at_call 46; refine hn.mono ?_; rintro e w' ⟨rfl, rfl⟩)
          | (at_builtin; refine append_ref rfl _ _ rfl w.heap.size _ pre rfl hown q rfl Hp hsz ?_; intro v' w1 hown' _ hb1; have hB1 : Below w.heap.size w w1 := HB.out.trans hb1; have HB1 := (show Hid (Below w.heap.size w w1) from hB1); have h1 := HW.out.below hB1; have c2 := h1.c2; have hl := h1.look hq; rw [ha] at hl; simp only [Option.map_some] at hl; obtain ⟨k0, -, -, -, k6, -, -, -⟩ := thc_cell (h1.blk q t ha).1; clear h1 hB1 hb1)
          | (go_at_call 92; refine (hwr _).mono ?_; rintro e w' ⟨rfl, rfl⟩))
        go_roundw
        case rel =>
          obtain ⟨l', e1, hl'⟩ := Hv.out.wrap ha Hk.out
          refine ⟨t.tgt, pre ++ [q], l', rfl, htgt, hl', ?_, hown', HB1.out⟩
          show _ = _
          rw [He.out, e1]
          simp
        case measure => exact (Hrk.out q t ha Hk.out).2


end Go.Proofs.YtmefjkggibbhoaaGreat
/- slices.Clone of sides; a region of any order, by what stays true. -/
namespace Go.Proofs.YtmefjkggibbhoaaGreat
open Go.RowKit Go.ChangeMaps Go.MapKept

/-- The sides that a slice holds. -/
def SideS (w : World) (v : Value) (xs : List Int) : Prop :=
  (∃ n c, v = .slice none n c ∧ xs = []) ∨ ∃ b off c, v = .slice (some ⟨b, off, none⟩) xs.length c ∧ ∀ (j : Nat) (x : Int), xs[j]? = some x → w.cell? ⟨b, off + j, none⟩ = some (.int .i64 x)

set_option maxRecDepth 8000 in
theorem cloneSide_nil (w : World) (n c : Nat) : Calls Tryz.prog 32 #[.slice none n c] w fun e w' => e = .returned (.slice none 0 0) ∧ w = w' := by
  go_enter Tryz.func32, Tryz.ntmps32
  go_wp2
  go_ret
  exact ⟨rfl, rfl⟩

theorem infoSide : (Tryz.prog.info? 30).map (fun i => (i.zero, i.size, i.bytes)) = some (some (.int .i64 0), 1, 8) := by kernel_rfl
theorem append_sides {w : World} {ops : Array Oper} {rest : List Oper} {o : Oper} {a : Act} {Q : Exit → Act → World → Prop} (hgd : o.guard = none) (s x : Operand)
    (ho : o.op = .call { callee := .builtin .append, args := #[s, x], argTypes := #[58, 58] }) (A : Addr) (c n : Nat) (xs : List Int) (hs : a.eval s = .slice (some ⟨w.heap.size, 0, none⟩) 0 0) (hn : n = xs.length)
    (hx : a.eval x = .slice (some A) n c) (hc : Hid (∀ (j : Nat) (x : Int), xs[j]? = some x → w.cell? (A.add j) = some (.int .i64 x))) (hn : Hid (xs.length < 16))
    (h : ∀ v' w', w'.ownsRow w.heap.size 30 1 v' xs.length (xs.map (Value.int .i64)) → Below w.heap.size w w' → wpList Tryz.prog ops Q rest (a.put o.dst v') w') : wpList Tryz.prog ops Q (o :: rest) a (w.alloc (.cells #[] 30)) := by
  obtain ⟨i, hi, hz, h1, h2⟩ := info_parts infoSide
  have hn := hn.out
  refine wpList_append_own _ hgd s x 58 ho w.heap.size 30 i (.int .i64 0) 1 8 Tryz.underlying58 hi hz h1 h2 rfl (by decide) (.slice (some ⟨w.heap.size, 0, none⟩) 0 0) 0 [] hs
    ⟨by simp, .inr ⟨w.heap.size, 0, #[], rfl, Nat.le_refl _, blk_new _ _, by omega, by unfold maxLen; omega, by simp, by simp⟩⟩ A n c (xs.map (Value.int .i64)) hx (by simp; omega)
    (fun j u hu => ?_) (fun u hu => ?_) (by unfold maxLen; omega) (by omega) (by simp) ?_
  · rw [List.getElem?_map] at hu
    cases hj : xs[j]? with
    | none => rw [hj] at hu; cases hu
    | some y =>
      rw [hj] at hu
      cases hu
      exact cell_al (hc.out j y hj) _
  · obtain ⟨y, -, rfl⟩ := List.mem_map.1 hu
    rfl
  · intro v' w' r1 r2 _
    have hg : w.grownBy w' (Value.slice (some ⟨w.heap.size, 0, none⟩) 0 0).ownBlock := (World.grownBy_alloc w _ _).trans r2
    refine h v' w' (by simpa [*] using r1) ⟨hg.os, hg.tape, hg.output, hg.size, fun k hk => hg.block k (by omega) (fun e => ?_)⟩
    simp [Value.ownBlock] at e
    omega

set_option maxRecDepth 8000 in
theorem cloneSide_at (w : World) (A : Addr) (c : Nat) (xs : List Int) (hx : ∀ (j : Nat) (x : Int), xs[j]? = some x → w.cell? (A.add j) = some (.int .i64 x)) (hn : xs.length < 16) :
    Calls Tryz.prog 32 #[.slice (some A) xs.length c] w fun e w' => ∃ v, e = .returned v ∧ w'.ownsRow w.heap.size 30 1 v xs.length (xs.map (Value.int .i64)) ∧ Below w.heap.size w w' := by
  have Hx := (show Hid _ from hx)
  have Hn := (show Hid (xs.length < 16) from hn)
  obtain ⟨n, hnx⟩ : ∃ n, n = xs.length := ⟨_, rfl⟩
  have Hnx := (show Hid (n = xs.length) from hnx)
  rw [← hnx]
  clear hx hn hnx
  go_enter Tryz.func32, Tryz.ntmps32
  go_wp2_with (at_builtin; refine append_sides rfl _ _ rfl A c n xs rfl Hnx.out rfl Hx Hn ?_; intro v w1 hv hb1; have HV := (show Hid _ from hv); have HB1 := (show Hid (Below w.heap.size w w1) from hb1); clear hv hb1)
  go_ret
  exact ⟨v, rfl, Hnx.out ▸ HV.out, HB1.out⟩
theorem cloneSide_some (w : World) (b off c : Nat) (xs : List Int) (hx : ∀ (j : Nat) (x : Int), xs[j]? = some x → w.cell? ⟨b, off + j, none⟩ = some (.int .i64 x)) (hn : xs.length < 16) :
    Calls Tryz.prog 32 #[.slice (some ⟨b, off, none⟩) xs.length c] w fun e w' => ∃ v, e = .returned v ∧ w'.ownsRow w.heap.size 30 1 v xs.length (xs.map (Value.int .i64)) ∧ Below w.heap.size w w' :=
  cloneSide_at w ⟨b, off, none⟩ c xs (fun j x h => by
    have hadd : (⟨b, off, none⟩ : Addr).add j = ⟨b, off + j, none⟩ := by unfold Addr.add; split <;> simp_all
    rw [hadd]
    exact hx j x h) hn
end Go.Proofs.YtmefjkggibbhoaaGreat
