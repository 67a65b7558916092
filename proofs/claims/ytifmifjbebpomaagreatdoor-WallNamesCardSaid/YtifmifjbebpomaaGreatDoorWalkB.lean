/- What a thing is able to, its way, its base; the sides' tree. -/
import Derived.Test.YtifmifjbebpomaaGreatDoorWalkA
namespace Go.Proofs.YtifmifjbebpomaaGreatDoor
open Go.RowKit Go.ChangeMaps Go.MapKept

def meet2 (a b : Int) : Int := bits BinOp.and IntKind.u8 (bits BinOp.and IntKind.u8 63 a) b
def canM (k : Int) : Int :=
  if k = 1 then 3 else if k = 2 then 9 else if k = 3 then 9 else if k = 4 then 12 else if k = 5 then 16 else if k = 6 then 16 else if k = 8 then 16 else if k = 12 then 16 else if k = 9 then 13 else if k = 10 then 1 else if k = 11 then 8 else if k = 13 then 33 else 0

theorem Meet_new (w : World) (a b : Int) :
    Calls Tryz.prog 126 #[.slice (some ⟨w.heap.size, 0, none⟩) 2 2] (w.alloc (.cells #[.int .u8 a, .int .u8 b] 25)) fun e w' => e = .returned (.int .u8 (meet2 a b)) ∧ w.alloc (.cells #[.int .u8 a, .int .u8 b] 25) = w' := by
  have h0 : (w.alloc (.cells #[.int .u8 a, .int .u8 b] 25)).cell? ⟨w.heap.size, 0, none⟩ = some (.int .u8 a) := by rw [cell_blk (blk_new w _)]; rfl
  have h1 : (w.alloc (.cells #[.int .u8 a, .int .u8 b] 25)).cell? ⟨w.heap.size, 1, none⟩ = some (.int .u8 b) := by rw [cell_blk (blk_new w _)]; rfl
  generalize w.alloc (.cells #[.int .u8 a, .int .u8 b] 25) = w1 at h0 h1 ⊢
  go_enter Tryz.func126, Tryz.ntmps126
  go_wp2
  go_rounds 3
  go_ret
  exact ⟨rfl, rfl⟩

theorem can_W (k : Int) (w : World) : Calls Tryz.prog 127 #[.int .u8 k] w fun e w' => e = .returned (.int .u8 (canM k)) ∧ Below w.heap.size w w' := by
  by_cases h1 : k = 1
  · subst h1
    go_enter Tryz.func127, Tryz.ntmps127
    go_wp2
    go_rounds 3
    go_ret
    exact ⟨rfl, by go_grown⟩
  by_cases h2 : k = 2
  · subst h2
    clear h1
    go_enter Tryz.func127, Tryz.ntmps127
    go_wp2
    go_rounds 3
    go_ret
    exact ⟨rfl, by go_grown⟩
  by_cases h3 : k = 3
  · subst h3
    clear h1 h2
    go_enter Tryz.func127, Tryz.ntmps127
    go_wp2
    go_rounds 3
    go_ret
    exact ⟨rfl, by go_grown⟩
  by_cases h4 : k = 4
  · subst h4
    clear h1 h2 h3
    go_enter Tryz.func127, Tryz.ntmps127
    go_wp2
    go_rounds 3
    go_ret
    exact ⟨rfl, by go_grown⟩
  by_cases h9 : k = 9
  · subst h9
    clear h1 h2 h3 h4
    go_enter Tryz.func127, Tryz.ntmps127
    go_wp2
    go_rounds 4
    go_ret
    exact ⟨rfl, by go_grown⟩
  by_cases h13 : k = 13
  · subst h13
    clear h1 h2 h3 h4 h9
    go_enter Tryz.func127, Tryz.ntmps127
    go_wp2
    go_rounds 3
    go_ret
    exact ⟨rfl, by go_grown⟩
  have g1 : (k == 1) = false := by simp [h1]
  have g2 : (k == 2) = false := by simp [h2]
  have g3 : (k == 3) = false := by simp [h3]
  have g4 : (k == 4) = false := by simp [h4]
  have g9 : (k == 9) = false := by simp [h9]
  have g13 : (k == 13) = false := by simp [h13]
  have H : Hid (canM k = if k = 5 then 16 else if k = 6 then 16 else if k = 8 then 16 else if k = 12 then 16 else if k = 10 then 1 else if k = 11 then 8 else 0) := by
    show canM k = _
    simp only [canM, if_neg h1, if_neg h2, if_neg h3, if_neg h4, if_neg h9, if_neg h13]
  clear h1 h2 h3 h4 h9 h13
  by_cases h5 : k = 5
  · subst h5
    go_enter Tryz.func127, Tryz.ntmps127
    go_wp2
    go_ret
    exact ⟨by rw [H.out]; rfl, by go_grown⟩
  by_cases h6 : k = 6
  · subst h6
    go_enter Tryz.func127, Tryz.ntmps127
    go_wp2
    go_ret
    exact ⟨by rw [H.out]; rfl, by go_grown⟩
  by_cases h8 : k = 8
  · subst h8
    go_enter Tryz.func127, Tryz.ntmps127
    go_wp2
    go_ret
    exact ⟨by rw [H.out]; rfl, by go_grown⟩
  by_cases h12 : k = 12
  · subst h12
    go_enter Tryz.func127, Tryz.ntmps127
    go_wp2
    go_ret
    exact ⟨by rw [H.out]; rfl, by go_grown⟩
  by_cases h10 : k = 10
  · subst h10
    go_enter Tryz.func127, Tryz.ntmps127
    go_wp2
    go_ret
    exact ⟨by rw [H.out]; rfl, by go_grown⟩
  by_cases h11 : k = 11
  · subst h11
    go_enter Tryz.func127, Tryz.ntmps127
    go_wp2
    go_ret
    exact ⟨by rw [H.out]; rfl, by go_grown⟩
  have H2 : Hid (canM k = 0) := by
    show canM k = 0
    rw [H.out, if_neg h5, if_neg h6, if_neg h8, if_neg h12, if_neg h10, if_neg h11]
  have g5 : (k == 5) = false := by simp [h5]
  have g6 : (k == 6) = false := by simp [h6]
  have g8 : (k == 8) = false := by simp [h8]
  have g12 : (k == 12) = false := by simp [h12]
  have g10 : (k == 10) = false := by simp [h10]
  have g11 : (k == 11) = false := by simp [h11]
  clear h5 h6 h8 h12 h10 h11 H
  go_enter Tryz.func127, Tryz.ntmps127
  go_wp2
  go_ret
  exact ⟨by rw [H2.out]; rfl, by go_grown⟩

def ableF (M : WM) : Nat → Int → Int → Int
  | 0, _, _ => 0
  | f + 1, s, r => match M.at r with
    | none => 0
    | some t => if t.kind = 14 then ableF M f (meet2 s t.set) t.tgt else if t.kind = 15 ∨ t.kind = 16 then ableF M f s t.tgt else meet2 s (canM t.kind)
def AbleIs (M : WM) (s r v : Int) : Prop := ∃ f0, ∀ f, f0 ≤ f → ableF M f s r = v

theorem AbleIs.uniq {M : WM} {s r v v' : Int} (h : AbleIs M s r v) (h' : AbleIs M s r v') : v = v' := by
  obtain ⟨f, h⟩ := h
  obtain ⟨f', h'⟩ := h'
  exact (h (f + f') (by omega)).symm.trans (h' (f + f') (by omega))
theorem AbleIs.none {M : WM} {s r v : Int} (h : AbleIs M s r v) (hr : M.at r = none) : v = 0 := by
  obtain ⟨f, h⟩ := h
  have := h (f + 1) (by omega)
  simpa [ableF, hr] using this.symm
theorem AbleIs.facet {M : WM} {s r v : Int} {t : Th} (h : AbleIs M s r v) (hr : M.at r = some t) (hk : t.kind = 14) : AbleIs M (meet2 s t.set) t.tgt v := by
  obtain ⟨f, h⟩ := h
  refine ⟨f, fun g hg => ?_⟩
  have := h (g + 1) (by omega)
  simpa [ableF, hr, hk] using this
theorem AbleIs.wrap {M : WM} {s r v : Int} {t : Th} (h : AbleIs M s r v) (hr : M.at r = some t) (hk : t.kind = 15 ∨ t.kind = 16) : AbleIs M s t.tgt v := by
  obtain ⟨f, h⟩ := h
  refine ⟨f, fun g hg => ?_⟩
  have := h (g + 1) (by omega)
  have h14 : t.kind ≠ 14 := by omega
  simpa [ableF, hr, hk, h14] using this
theorem AbleIs.base {M : WM} {s r v : Int} {t : Th} (h : AbleIs M s r v) (hr : M.at r = some t) (h14 : ¬ t.kind = 14) (hk : ¬ (t.kind = 15 ∨ t.kind = 16)) : v = meet2 s (canM t.kind) := by
  obtain ⟨f, h⟩ := h
  have := h (f + 1) (by omega)
  simpa [ableF, hr, hk, h14] using this.symm
theorem AbleIs.mk_none {M : WM} {s r : Int} (hr : M.at r = .none) : AbleIs M s r 0 := ⟨1, fun f hf => by obtain ⟨g, rfl⟩ : ∃ g, f = g + 1 := ⟨f - 1, by omega⟩; simp [ableF, hr]⟩
theorem AbleIs.mk_facet {M : WM} {s r v : Int} {t : Th} (hr : M.at r = some t) (hk : t.kind = 14) (h : AbleIs M (meet2 s t.set) t.tgt v) : AbleIs M s r v := by
  obtain ⟨f0, h⟩ := h
  exact ⟨f0 + 1, fun f hf => by obtain ⟨g, rfl⟩ : ∃ g, f = g + 1 := ⟨f - 1, by omega⟩; simp [ableF, hr, hk, h g (by omega)]⟩
theorem AbleIs.mk_wrap {M : WM} {s r v : Int} {t : Th} (hr : M.at r = some t) (hk : t.kind = 15 ∨ t.kind = 16) (h : AbleIs M s t.tgt v) : AbleIs M s r v := by
  obtain ⟨f0, h⟩ := h
  have h14 : t.kind ≠ 14 := by omega
  exact ⟨f0 + 1, fun f hf => by obtain ⟨g, rfl⟩ : ∃ g, f = g + 1 := ⟨f - 1, by omega⟩; simp [ableF, hr, hk, h14, h g (by omega)]⟩
theorem AbleIs.mk_base {M : WM} {s r : Int} {t : Th} (hr : M.at r = some t) (h14 : ¬ t.kind = 14) (hk : ¬ (t.kind = 15 ∨ t.kind = 16)) : AbleIs M s r (meet2 s (canM t.kind)) :=
  ⟨1, fun f hf => by obtain ⟨g, rfl⟩ : ∃ g, f = g + 1 := ⟨f - 1, by omega⟩; simp [ableF, hr, hk, h14]⟩

theorem able_ex {M : WM} (hok : M.ok) (s r : Int) : ∃ v, AbleIs M s r v := by
  obtain ⟨rk, -, hrk⟩ := hok.wrap
  generalize hm : rk r = m
  induction m using Nat.strongRecOn generalizing s r with
  | ind m ih =>
    subst hm
    cases hr : M.at r with
    | none => exact ⟨0, AbleIs.mk_none hr⟩
    | some t =>
      by_cases h14 : t.kind = 14
      · obtain ⟨v, hv⟩ := ih _ (hrk r t hr (by simp [wrapsB, h14])).2 (meet2 s t.set) t.tgt rfl
        exact ⟨v, AbleIs.mk_facet hr h14 hv⟩
      · by_cases hk : t.kind = 15 ∨ t.kind = 16
        · obtain ⟨v, hv⟩ := ih _ (hrk r t hr (by rcases hk with h | h <;> simp [wrapsB, h])).2 s t.tgt rfl
          exact ⟨v, AbleIs.mk_wrap hr hk hv⟩
        · exact ⟨_, AbleIs.mk_base hr h14 hk⟩

set_option maxRecDepth 4000 in
theorem Able_W {w : World} {p : Nat} {M : WM} {F : Nat → Prop} (hW : IsW w p M F) {r v : Int} (hr : (Lit.int .i64 r).wf = true) (hv : AbleIs M 63 r v) :
    Calls Tryz.prog 93 #[.pointer (some ⟨p, 0, none⟩), .int .i64 r] w fun e w' => e = .returned (.int .u8 v) ∧ Below w.heap.size w w' := by
  obtain ⟨rk, -, hrk⟩ := hW.ok.wrap
  have HW := (show Hid (IsW w p M F) from hW)
  clear hW
  have Hv := (show Hid (AbleIs M 63 r v) from hv)
  clear hv
  have Hrk := (show Hid (∀ (r : Int) (t : Th), M.at r = some t → wrapsB t.kind = true → (∃ u, M.at t.tgt = some u) ∧ rk t.tgt < rk r) from hrk)
  clear hrk
  go_enter Tryz.func93, Tryz.ntmps93
  go_wp2
  go_step3
  go_wp2
  go_step3
  go_wp2
  go_loopw [1, 5] (fun vr vs wr => ∃ q s, vr = .int .i64 q ∧ vs = .int .u8 s ∧ (Lit.int .i64 q).wf = true ∧ AbleIs M s q v ∧ Below w.heap.size w wr) (fun vr _ _ => rk (intOf vr))
  case atStart => exact ⟨r, 63, rfl, rfl, hr, Hv.out, Below.refl _ _⟩
  case round =>
    obtain ⟨q, s, rfl, rfl, hq, hv, hB⟩ := hrel
    have Hv := (show Hid (AbleIs M s q v) from hv)
    have HB := (show Hid (Below w.heap.size w wr) from hB)
    have hWr := HW.out.below hB
    have hn := Is_W hWr hq
    clear hv hB
    obtain ⟨pa, pc, cg, cc, mg, mc, tb, fb, fn, bl, h⟩ := id hWr
    have c2 := h.c2
    have hl := h.look hq
    cases ha : M.at q with
    | none =>
      rw [ha] at hn
      clear hl
      go_wp2_with (go_at_call 23; refine hn.mono ?_; rintro e w' ⟨rfl, rfl⟩)
      rw [Exit.noGoto_ret]
      go_ret
      exact ⟨by rw [Hv.out.none ha]; rfl, HB.out⟩
    | some t =>
      rw [ha] at hl hn
      simp only [Option.map_some] at hl
      obtain ⟨k0, -, -, -, k6, -, k8, -⟩ := thc_cell (h.blk q t ha).1
      have hwf := h.ok.wf q t ha
      have htgt := hwf.tgt
      have k6a := fun o => cell_al k6 o
      by_cases h14 : t.kind = 14
      · have H14 : Hid (t.kind = 14) := h14
        rw [h14] at k0
        clear h14 hwf
        go_wp2_with (first | (go_at_call 23; refine hn.mono ?_; rintro e w' ⟨rfl, rfl⟩) | (go_at_call 126; refine (Meet_new _ _ _).mono ?_; rintro e w' ⟨rfl, rfl⟩))
        go_roundw
        case rel => exact ⟨t.tgt, _, rfl, rfl, htgt, Hv.out.facet ha H14.out, HB.out.alloc HB.out.size _⟩
        case measure => exact (Hrk.out q t ha (by simp [wrapsB, H14.out])).2
      · by_cases hk : t.kind = 15 ∨ t.kind = 16
        · have H14 : Hid (t.kind = 15 ∨ t.kind = 16) := hk
          clear h14 hwf
          rcases hk with h15 | h16
          · rw [h15] at k0
            clear h15
            go_wp2_with (go_at_call 23; refine hn.mono ?_; rintro e w' ⟨rfl, rfl⟩)
            go_roundw
            case rel => exact ⟨t.tgt, _, rfl, rfl, htgt, Hv.out.wrap ha H14.out, HB.out⟩
            case measure => exact (Hrk.out q t ha (by rcases H14.out with h | h <;> simp [wrapsB, h])).2
          · rw [h16] at k0
            clear h16
            go_wp2_with (go_at_call 23; refine hn.mono ?_; rintro e w' ⟨rfl, rfl⟩)
            go_roundw
            case rel => exact ⟨t.tgt, _, rfl, rfl, htgt, Hv.out.wrap ha H14.out, HB.out⟩
            case measure => exact (Hrk.out q t ha (by rcases H14.out with h | h <;> simp [wrapsB, h])).2
        · have g14 : (t.kind == 14) = false := by simp [h14]
          have g15 : (t.kind == 15) = false := by simp; omega
          have g16 : (t.kind == 16) = false := by simp; omega
          have H : Hid (v = meet2 s (canM t.kind)) := Hv.out.base ha h14 hk
          clear h14 hk hwf
          go_wp2_with (first | (go_at_call 23; refine hn.mono ?_; rintro e w' ⟨rfl, rfl⟩) | (go_at_call 126; refine (Meet_new _ _ _).mono ?_; rintro e w' ⟨rfl, rfl⟩) | (go_at_call 127; refine (can_W _ _).mono ?_; rintro e w1 ⟨rfl, hb1⟩))
          rw [Exit.noGoto_ret]
          go_ret
          exact ⟨by rw [H.out]; rfl, (HB.out.trans (hb1.mono HB.out.size)).alloc (Nat.le_trans HB.out.size hb1.size) _⟩
end Go.Proofs.YtifmifjbebpomaaGreatDoor
