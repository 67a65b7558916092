/- A part of the proof, several texts in one: WalkA, WalkB, WalkC. -/
import Derived.Test.YtifmifjbebpomaaGreatDoormAA
/- The small calls on a world: who is there, what kind it is, what a kind can. -/
namespace Go.Proofs.YtifmifjbebpomaaGreatDoor
open Go.RowKit Go.ChangeMaps Go.MapKept

section
variable {w : World} {p : Nat} {M : WM} {F : Nat → Prop}

theorem none_W (hW : IsW w p M F) : Calls Tryz.prog 46 #[.pointer (some ⟨p, 0, none⟩)] w fun e w' => e = .returned (.bool false) ∧ w = w' := by
  obtain ⟨pa, pc, cg, cc, mg, mc, tb, fb, fn, bl, h⟩ := hW
  have c2 := h.c2
  go_enter Tryz.func46, Tryz.ntmps46
  go_wp2
  go_ret
  exact ⟨rfl, rfl⟩

theorem Sides_W (hW : IsW w p M F) : Calls Tryz.prog 31 #[.pointer (some ⟨p, 0, none⟩)] w fun e w' => e = .returned (.int .i64 M.made.length) ∧ w = w' := by
  have hn := none_W hW
  obtain ⟨pa, pc, cg, cc, mg, mc, tb, fb, fn, bl, h⟩ := hW
  have c5 := h.c5
  go_enter Tryz.func31, Tryz.ntmps31
  go_wp2_with (go_at_call 46; refine hn.mono ?_; rintro e w' ⟨rfl, rfl⟩)
  go_ret
  exact ⟨rfl, rfl⟩

def sideB (M : WM) (s : Int) : Bool := decide (0 ≤ s ∧ s < M.made.length)
theorem sideB_iff {M : WM} {s : Int} : sideB M s = true ↔ 0 ≤ s ∧ s < M.made.length := by simp [sideB]

theorem side_W (hW : IsW w p M F) (s : Int) : Calls Tryz.prog 78 #[.pointer (some ⟨p, 0, none⟩), .int .i64 s] w fun e w' => e = .returned (.bool (sideB M s)) ∧ w = w' := by
  have hn := Sides_W hW
  by_cases h0 : 0 ≤ s
  · go_enter Tryz.func78, Tryz.ntmps78
    go_wp2_with (go_at_call 31; refine hn.mono ?_; rintro e w' ⟨rfl, rfl⟩)
    go_ret
    exact ⟨by simp [sideB, h0], rfl⟩
  · go_enter Tryz.func78, Tryz.ntmps78
    go_wp2_with (go_at_call 31; refine hn.mono ?_; rintro e w' ⟨rfl, rfl⟩)
    go_ret
    exact ⟨by simp [sideB]; omega, rfl⟩

def edgeB (M : WM) (n : Int) : Bool := decide (0 < n ∧ n < M.made.length)
theorem edge_W (hW : IsW w p M F) (n : Int) : Calls Tryz.prog 74 #[.pointer (some ⟨p, 0, none⟩), .int .i64 n] w fun e w' => e = .returned (.bool (edgeB M n)) ∧ w = w' := by
  have hn := Sides_W hW
  by_cases h0 : 0 < n
  · go_enter Tryz.func74, Tryz.ntmps74
    go_wp2_with (go_at_call 31; refine hn.mono ?_; rintro e w' ⟨rfl, rfl⟩)
    go_ret
    exact ⟨by simp [edgeB, h0], rfl⟩
  · go_enter Tryz.func74, Tryz.ntmps74
    go_wp2_with (go_at_call 31; refine hn.mono ?_; rintro e w' ⟨rfl, rfl⟩)
    go_ret
    exact ⟨by simp [edgeB]; omega, rfl⟩

theorem Is_W (hW : IsW w p M F) {r : Int} (hr : (Lit.int .i64 r).wf = true) : Calls Tryz.prog 23 #[.pointer (some ⟨p, 0, none⟩), .int .i64 r] w fun e w' => e = .returned (.bool (M.at r).isSome) ∧ w = w' := by
  have hn := none_W hW
  obtain ⟨pa, pc, cg, cc, mg, mc, tb, fb, fn, bl, h⟩ := hW
  have c2 := h.c2
  have hl := h.look hr
  cases ha : M.at r with
  | none =>
    rw [ha] at hl
    simp only [Option.map_none] at hl
    go_enter Tryz.func23, Tryz.ntmps23
    go_wp2_with (go_at_call 46; refine hn.mono ?_; rintro e w' ⟨rfl, rfl⟩)
    go_ret
    exact ⟨rfl, rfl⟩
  | some t =>
    rw [ha] at hl
    simp only [Option.map_some] at hl
    go_enter Tryz.func23, Tryz.ntmps23
    go_wp2_with (go_at_call 46; refine hn.mono ?_; rintro e w' ⟨rfl, rfl⟩)
    go_ret
    exact ⟨rfl, rfl⟩

theorem thc_cell {w : World} {b : Nat} {t : Th} (h : w.heap[b]? = some (.cells (thc t) 73 (0, 0))) :
    w.cell? ⟨b, 0, none⟩ = some (.int .u8 t.kind) ∧ w.cell? ⟨b, 1, none⟩ = some (.int .i64 t.home) ∧ w.cell? ⟨b, 8, none⟩ = some (.int .i64 t.n) ∧ w.cell? ⟨b, 9, none⟩ = some (.int .i64 t.lost) ∧
    w.cell? ⟨b, 10, none⟩ = some (.int .i64 t.tgt) ∧ w.cell? ⟨b, 11, none⟩ = some (.int .i64 t.bi) ∧ w.cell? ⟨b, 12, none⟩ = some (.int .u8 t.set) ∧ w.cell? ⟨b, 13, none⟩ = some (.bool t.full) :=
  ⟨by rw [cell_blk h]; rfl, by rw [cell_blk h]; rfl, by rw [cell_blk h]; rfl, by rw [cell_blk h]; rfl, by rw [cell_blk h]; rfl, by rw [cell_blk h]; rfl, by rw [cell_blk h]; rfl, by rw [cell_blk h]; rfl⟩

def WM.kindOf (M : WM) (r : Int) : Int := ((M.at r).map Th.kind).getD 0

theorem Kind_W (hW : IsW w p M F) {r : Int} (hr : (Lit.int .i64 r).wf = true) : Calls Tryz.prog 64 #[.pointer (some ⟨p, 0, none⟩), .int .i64 r] w fun e w' => e = .returned (.int .u8 (M.kindOf r)) ∧ w = w' := by
  have hn := Is_W hW hr
  obtain ⟨pa, pc, cg, cc, mg, mc, tb, fb, fn, bl, h⟩ := hW
  have c2 := h.c2
  have hl := h.look hr
  cases ha : M.at r with
  | none =>
    rw [ha] at hn
    go_enter Tryz.func64, Tryz.ntmps64
    go_wp2_with (go_at_call 23; refine hn.mono ?_; rintro e w' ⟨rfl, rfl⟩)
    go_ret
    exact ⟨by simp [WM.kindOf, ha], rfl⟩
  | some t =>
    rw [ha] at hl hn
    simp only [Option.map_some] at hl
    obtain ⟨k0, k1, -, -, k6, k7, k8, k9⟩ := thc_cell (h.blk r t ha).1
    go_enter Tryz.func64, Tryz.ntmps64
    go_wp2_with (go_at_call 23; refine hn.mono ?_; rintro e w' ⟨rfl, rfl⟩)
    go_ret
    exact ⟨by simp [WM.kindOf, ha], rfl⟩

def WM.homeOf (M : WM) (r : Int) : Int := match M.at r with | some t => if t.kind = 14 then 0 else t.home | none => 0
def WM.hasHome (M : WM) (r : Int) : Bool := match M.at r with | some t => !decide (t.kind = 14) | none => false
theorem Home_W (hW : IsW w p M F) {r : Int} (hr : (Lit.int .i64 r).wf = true) : Calls Tryz.prog 29 #[.pointer (some ⟨p, 0, none⟩), .int .i64 r] w fun e w' =>
    e = .returned (.tuple #[.int .i64 (M.homeOf r), .bool (M.hasHome r)]) ∧ w = w' := by
  have hn := Is_W hW hr
  obtain ⟨pa, pc, cg, cc, mg, mc, tb, fb, fn, bl, h⟩ := hW
  have c2 := h.c2
  have hl := h.look hr
  cases ha : M.at r with
  | none =>
    rw [ha] at hn
    go_enter Tryz.func29, Tryz.ntmps29
    go_wp2_with (go_at_call 23; refine hn.mono ?_; rintro e w' ⟨rfl, rfl⟩)
    go_ret2
    exact ⟨by simp [WM.homeOf, WM.hasHome, ha], rfl⟩
  | some t =>
    rw [ha] at hl hn
    simp only [Option.map_some] at hl
    obtain ⟨k0, k1, -, -, -, -, -, -⟩ := thc_cell (h.blk r t ha).1
    by_cases hk : t.kind = 14
    · have H : Hid (t.kind = 14) := hk
      have hk' : (t.kind == 14) = true := by simp [hk]
      clear hk
      go_enter Tryz.func29, Tryz.ntmps29
      go_wp2_with (go_at_call 23; refine hn.mono ?_; rintro e w' ⟨rfl, rfl⟩)
      go_ret2
      exact ⟨by simp [WM.homeOf, WM.hasHome, ha, H.out], rfl⟩
    · have H : Hid (¬ t.kind = 14) := hk
      have hk' : (t.kind == 14) = false := by simp [hk]
      clear hk
      go_enter Tryz.func29, Tryz.ntmps29
      go_wp2_with (go_at_call 23; refine hn.mono ?_; rintro e w' ⟨rfl, rfl⟩)
      go_ret2
      exact ⟨by simp [WM.homeOf, WM.hasHome, ha, H.out], rfl⟩




end

theorem asksBy_W (k : Int) (w : World) : Calls Tryz.prog 50 #[.int .u8 k] w fun e w' => e = .returned (.bool (k == 15 || k == 16)) ∧ w = w' := by
  by_cases h1 : k = 15
  · subst h1
    go_enter Tryz.func50, Tryz.ntmps50
    go_wp2
    go_ret
    exact ⟨rfl, rfl⟩
  · have h1 : (k == 15) = false := by simp [h1]
    go_enter Tryz.func50, Tryz.ntmps50
    go_wp2
    go_ret
    exact ⟨by simp [h1], rfl⟩
theorem wraps_W (k : Int) (w : World) : Calls Tryz.prog 90 #[.int .u8 k] w fun e w' => e = .returned (.bool (wrapsB k)) ∧ w = w' := by
  by_cases h1 : k = 14
  · subst h1
    go_enter Tryz.func90, Tryz.ntmps90
    go_wp2
    go_ret
    exact ⟨rfl, rfl⟩
  · have h1 : (k == 14) = false := by simp [h1]
    by_cases h2 : k = 15
    · subst h2
      go_enter Tryz.func90, Tryz.ntmps90
      go_wp2
      go_ret
      exact ⟨rfl, rfl⟩
    · have h2 : (k == 15) = false := by simp [h2]
      go_enter Tryz.func90, Tryz.ntmps90
      go_wp2
      go_ret
      exact ⟨by simp [wrapsB, h1, h2], rfl⟩
def asksOfB (k : Int) : Bool := k == 6 || k == 7 || k == 9 || k == 11 || wrapsB k
end Go.Proofs.YtifmifjbebpomaaGreatDoor
/- What a thing is able to, its way, its base; the sides' tree. -/
namespace Go.Proofs.YtifmifjbebpomaaGreatDoor
open Go.RowKit Go.ChangeMaps Go.MapKept

def meet2 (a b : Int) : Int := bits BinOp.and IntKind.u8 (bits BinOp.and IntKind.u8 63 a) b
def canM (k : Int) : Int :=
  if k = 1 then 3 else if k = 2 then 9 else if k = 3 then 9 else if k = 4 then 12 else if k = 5 then 16 else if k = 6 then 16 else if k = 8 then 16 else if k = 12 then 16 else if k = 9 then 13 else if k = 10 then 1 else if k = 11 then 8 else if k = 13 then 33 else 0

theorem Meet_new (w : World) (a b : Int) :
    Calls Tryz.prog 126 #[.slice (some ⟨w.heap.size, 0, none⟩) 2 2] (w.alloc (.cells #[.int .u8 a, .int .u8 b] 25)) fun e w' => e = .returned (.int .u8 (meet2 a b)) ∧ w.alloc (.cells #[.int .u8 a, .int .u8 b] 25) = w' := by
  have h0 : (w.alloc (.cells #[.int .u8 a, .int .u8 b] 25)).cell? ⟨w.heap.size, 0, none⟩ = some (.int .u8 a) := by rw [cell_blk (blk_new w _)]; rfl
  have h1 : (w.alloc (.cells #[.int .u8 a, .int .u8 b] 25)).cell? ⟨w.heap.size, 1, none⟩ = some (.int .u8 b) := by rw [cell_blk (blk_new w _)]; rfl
  generalize w.alloc (.cells #[.int .u8 a, .int .u8 b] 25) = w1 at h0 h1 ⊢
  go_enter Tryz.func126, Tryz.ntmps126
  go_wp2
  go_rounds 3
  go_ret
  exact ⟨rfl, rfl⟩

theorem can_W (k : Int) (w : World) : Calls Tryz.prog 127 #[.int .u8 k] w fun e w' => e = .returned (.int .u8 (canM k)) ∧ Below w.heap.size w w' := by
  by_cases h1 : k = 1
  · subst h1
    go_enter Tryz.func127, Tryz.ntmps127
    go_wp2
    go_rounds 3
    go_ret
    exact ⟨rfl, by go_grown⟩
  by_cases h2 : k = 2
  · subst h2
    clear h1
    go_enter Tryz.func127, Tryz.ntmps127
    go_wp2
    go_rounds 3
    go_ret
    exact ⟨rfl, by go_grown⟩
  by_cases h3 : k = 3
  · subst h3
    clear h1 h2
    go_enter Tryz.func127, Tryz.ntmps127
    go_wp2
    go_rounds 3
    go_ret
    exact ⟨rfl, by go_grown⟩
  by_cases h4 : k = 4
  · subst h4
    clear h1 h2 h3
    go_enter Tryz.func127, Tryz.ntmps127
    go_wp2
    go_rounds 3
    go_ret
    exact ⟨rfl, by go_grown⟩
  by_cases h9 : k = 9
  · subst h9
    clear h1 h2 h3 h4
    go_enter Tryz.func127, Tryz.ntmps127
    go_wp2
    go_rounds 4
    go_ret
    exact ⟨rfl, by go_grown⟩
  by_cases h13 : k = 13
  · subst h13
    clear h1 h2 h3 h4 h9
    go_enter Tryz.func127, Tryz.ntmps127
    go_wp2
    go_rounds 3
    go_ret
    exact ⟨rfl, by go_grown⟩
  have g1 : (k == 1) = false := by simp [h1]
  have g2 : (k == 2) = false := by simp [h2]
  have g3 : (k == 3) = false := by simp [h3]
  have g4 : (k == 4) = false := by simp [h4]
  have g9 : (k == 9) = false := by simp [h9]
  have g13 : (k == 13) = false := by simp [h13]
  have H : Hid (canM k = if k = 5 then 16 else if k = 6 then 16 else if k = 8 then 16 else if k = 12 then 16 else if k = 10 then 1 else if k = 11 then 8 else 0) := by
    show canM k = _
    simp only [canM, if_neg h1, if_neg h2, if_neg h3, if_neg h4, if_neg h9, if_neg h13]
  clear h1 h2 h3 h4 h9 h13
  by_cases h5 : k = 5
  · subst h5
    go_enter Tryz.func127, Tryz.ntmps127
    go_wp2
    go_ret
    exact ⟨by rw [H.out]; rfl, by go_grown⟩
  by_cases h6 : k = 6
  · subst h6
    go_enter Tryz.func127, Tryz.ntmps127
    go_wp2
    go_ret
    exact ⟨by rw [H.out]; rfl, by go_grown⟩
  by_cases h8 : k = 8
  · subst h8
    go_enter Tryz.func127, Tryz.ntmps127
    go_wp2
    go_ret
    exact ⟨by rw [H.out]; rfl, by go_grown⟩
  by_cases h12 : k = 12
  · subst h12
    go_enter Tryz.func127, Tryz.ntmps127
    go_wp2
    go_ret
    exact ⟨by rw [H.out]; rfl, by go_grown⟩
  by_cases h10 : k = 10
  · subst h10
    go_enter Tryz.func127, Tryz.ntmps127
    go_wp2
    go_ret
    exact ⟨by rw [H.out]; rfl, by go_grown⟩
  by_cases h11 : k = 11
  · subst h11
    go_enter Tryz.func127, Tryz.ntmps127
    go_wp2
    go_ret
    exact ⟨by rw [H.out]; rfl, by go_grown⟩
  have H2 : Hid (canM k = 0) := by
    show canM k = 0
    rw [H.out, if_neg h5, if_neg h6, if_neg h8, if_neg h12, if_neg h10, if_neg h11]
  have g5 : (k == 5) = false := by simp [h5]
  have g6 : (k == 6) = false := by simp [h6]
  have g8 : (k == 8) = false := by simp [h8]
  have g12 : (k == 12) = false := by simp [h12]
  have g10 : (k == 10) = false := by simp [h10]
  have g11 : (k == 11) = false := by simp [h11]
  clear h5 h6 h8 h12 h10 h11 H
  go_enter Tryz.func127, Tryz.ntmps127
  go_wp2
  go_ret
  exact ⟨by rw [H2.out]; rfl, by go_grown⟩

def ableF (M : WM) : Nat → Int → Int → Int
  | 0, _, _ => 0
  | f + 1, s, r => match M.at r with
    | none => 0
    | some t => if t.kind = 14 then ableF M f (meet2 s t.set) t.tgt else if t.kind = 15 ∨ t.kind = 16 then ableF M f s t.tgt else meet2 s (canM t.kind)
def AbleIs (M : WM) (s r v : Int) : Prop := ∃ f0, ∀ f, f0 ≤ f → ableF M f s r = v

theorem AbleIs.uniq {M : WM} {s r v v' : Int} (h : AbleIs M s r v) (h' : AbleIs M s r v') : v = v' := by
  obtain ⟨f, h⟩ := h
  obtain ⟨f', h'⟩ := h'
  exact (h (f + f') (by omega)).symm.trans (h' (f + f') (by omega))
theorem AbleIs.none {M : WM} {s r v : Int} (h : AbleIs M s r v) (hr : M.at r = none) : v = 0 := by
  obtain ⟨f, h⟩ := h
  have := h (f + 1) (by omega)
  simpa [ableF, hr] using this.symm
theorem AbleIs.facet {M : WM} {s r v : Int} {t : Th} (h : AbleIs M s r v) (hr : M.at r = some t) (hk : t.kind = 14) : AbleIs M (meet2 s t.set) t.tgt v := by
  obtain ⟨f, h⟩ := h
  refine ⟨f, fun g hg => ?_⟩
  have := h (g + 1) (by omega)
  simpa [ableF, hr, hk] using this
theorem AbleIs.wrap {M : WM} {s r v : Int} {t : Th} (h : AbleIs M s r v) (hr : M.at r = some t) (hk : t.kind = 15 ∨ t.kind = 16) : AbleIs M s t.tgt v := by
  obtain ⟨f, h⟩ := h
  refine ⟨f, fun g hg => ?_⟩
  have := h (g + 1) (by omega)
  have h14 : t.kind ≠ 14 := by omega
  simpa [ableF, hr, hk, h14] using this
theorem AbleIs.base {M : WM} {s r v : Int} {t : Th} (h : AbleIs M s r v) (hr : M.at r = some t) (h14 : ¬ t.kind = 14) (hk : ¬ (t.kind = 15 ∨ t.kind = 16)) : v = meet2 s (canM t.kind) := by
  obtain ⟨f, h⟩ := h
  have := h (f + 1) (by omega)
  simpa [ableF, hr, hk, h14] using this.symm
theorem AbleIs.mk_none {M : WM} {s r : Int} (hr : M.at r = .none) : AbleIs M s r 0 := ⟨1, fun f hf => by obtain ⟨g, rfl⟩ : ∃ g, f = g + 1 := ⟨f - 1, by omega⟩; simp [ableF, hr]⟩
theorem AbleIs.mk_facet {M : WM} {s r v : Int} {t : Th} (hr : M.at r = some t) (hk : t.kind = 14) (h : AbleIs M (meet2 s t.set) t.tgt v) : AbleIs M s r v := by
  obtain ⟨f0, h⟩ := h
  exact ⟨f0 + 1, fun f hf => by obtain ⟨g, rfl⟩ : ∃ g, f = g + 1 := ⟨f - 1, by omega⟩; simp [ableF, hr, hk, h g (by omega)]⟩
theorem AbleIs.mk_wrap {M : WM} {s r v : Int} {t : Th} (hr : M.at r = some t) (hk : t.kind = 15 ∨ t.kind = 16) (h : AbleIs M s t.tgt v) : AbleIs M s r v := by
  obtain ⟨f0, h⟩ := h
  have h14 : t.kind ≠ 14 := by omega
  exact ⟨f0 + 1, fun f hf => by obtain ⟨g, rfl⟩ : ∃ g, f = g + 1 := ⟨f - 1, by omega⟩; simp [ableF, hr, hk, h14, h g (by omega)]⟩
theorem AbleIs.mk_base {M : WM} {s r : Int} {t : Th} (hr : M.at r = some t) (h14 : ¬ t.kind = 14) (hk : ¬ (t.kind = 15 ∨ t.kind = 16)) : AbleIs M s r (meet2 s (canM t.kind)) :=
  ⟨1, fun f hf => by obtain ⟨g, rfl⟩ : ∃ g, f = g + 1 := ⟨f - 1, by omega⟩; simp [ableF, hr, hk, h14]⟩

theorem able_ex {M : WM} (hok : M.ok) (s r : Int) : ∃ v, AbleIs M s r v := by
  obtain ⟨rk, -, hrk⟩ := hok.wrap
  generalize hm : rk r = m
  induction m using Nat.strongRecOn generalizing s r with
  | ind m ih =>
    subst hm
    cases hr : M.at r with
    | none => exact ⟨0, AbleIs.mk_none hr⟩
    | some t =>
      by_cases h14 : t.kind = 14
      · obtain ⟨v, hv⟩ := ih _ (hrk r t hr (by simp [wrapsB, h14])).2 (meet2 s t.set) t.tgt rfl
        exact ⟨v, AbleIs.mk_facet hr h14 hv⟩
      · by_cases hk : t.kind = 15 ∨ t.kind = 16
        · obtain ⟨v, hv⟩ := ih _ (hrk r t hr (by rcases hk with h | h <;> simp [wrapsB, h])).2 s t.tgt rfl
          exact ⟨v, AbleIs.mk_wrap hr hk hv⟩
        · exact ⟨_, AbleIs.mk_base hr h14 hk⟩

set_option maxRecDepth 4000 in
theorem Able_W {w : World} {p : Nat} {M : WM} {F : Nat → Prop} (hW : IsW w p M F) {r v : Int} (hr : (Lit.int .i64 r).wf = true) (hv : AbleIs M 63 r v) :
    Calls Tryz.prog 93 #[.pointer (some ⟨p, 0, none⟩), .int .i64 r] w fun e w' => e = .returned (.int .u8 v) ∧ Below w.heap.size w w' := by
  obtain ⟨rk, -, hrk⟩ := hW.ok.wrap
  have HW := (show Hid (IsW w p M F) from hW)
  clear hW
  have Hv := (show Hid (AbleIs M 63 r v) from hv)
  clear hv
  have Hrk := (show Hid (∀ (r : Int) (t : Th), M.at r = some t → wrapsB t.kind = true → (∃ u, M.at t.tgt = some u) ∧ rk t.tgt < rk r) from hrk)
  clear hrk
  go_enter Tryz.func93, Tryz.ntmps93
  go_wp2
  go_step3
  go_wp2
  go_step3
  go_wp2
  go_loopw [1, 5] (fun vr vs wr => ∃ q s, vr = .int .i64 q ∧ vs = .int .u8 s ∧ (Lit.int .i64 q).wf = true ∧ AbleIs M s q v ∧ Below w.heap.size w wr) (fun vr _ _ => rk (intOf vr))
  case atStart => exact ⟨r, 63, rfl, rfl, hr, Hv.out, Below.refl _ _⟩
  case round =>
    obtain ⟨q, s, rfl, rfl, hq, hv, hB⟩ := hrel
    have Hv := (show Hid (AbleIs M s q v) from hv)
    have HB := (show Hid (Below w.heap.size w wr) from hB)
    have hWr := HW.out.below hB
    have hn := Is_W hWr hq
    clear hv hB
    obtain ⟨pa, pc, cg, cc, mg, mc, tb, fb, fn, bl, h⟩ := id hWr
    have c2 := h.c2
    have hl := h.look hq
    cases ha : M.at q with
    | none =>
      rw [ha] at hn
      clear hl
      go_wp2_with (go_at_call 23; refine hn.mono ?_; rintro e w' ⟨rfl, rfl⟩)
      rw [Exit.noGoto_ret]
      go_ret
      exact ⟨by rw [Hv.out.none ha]; rfl, HB.out⟩
    | some t =>
      rw [ha] at hl hn
      simp only [Option.map_some] at hl
      obtain ⟨k0, -, -, -, k6, -, k8, -⟩ := thc_cell (h.blk q t ha).1
      have hwf := h.ok.wf q t ha
      have htgt := hwf.tgt
      have k6a := fun o => cell_al k6 o
      by_cases h14 : t.kind = 14
      · have H14 : Hid (t.kind = 14) := h14
        rw [h14] at k0
        clear h14 hwf
        go_wp2_with (first | (go_at_call 23; refine hn.mono ?_; rintro e w' ⟨rfl, rfl⟩) | (go_at_call 126; refine (Meet_new _ _ _).mono ?_; rintro e w' ⟨rfl, rfl⟩))
        go_roundw
        case rel => exact ⟨t.tgt, _, rfl, rfl, htgt, Hv.out.facet ha H14.out, HB.out.alloc HB.out.size _⟩
        case measure => exact (Hrk.out q t ha (by simp [wrapsB, H14.out])).2
      · by_cases hk : t.kind = 15 ∨ t.kind = 16
        · have H14 : Hid (t.kind = 15 ∨ t.kind = 16) := hk
          clear h14 hwf
          rcases hk with h15 | h16
          · rw [h15] at k0
            clear h15
            go_wp2_with (go_at_call 23; refine hn.mono ?_; rintro e w' ⟨rfl, rfl⟩)
            go_roundw
            case rel => exact ⟨t.tgt, _, rfl, rfl, htgt, Hv.out.wrap ha H14.out, HB.out⟩
            case measure => exact (Hrk.out q t ha (by rcases H14.out with h | h <;> simp [wrapsB, h])).2
          · rw [h16] at k0
            clear h16
            go_wp2_with (go_at_call 23; refine hn.mono ?_; rintro e w' ⟨rfl, rfl⟩)
            go_roundw
            case rel => exact ⟨t.tgt, _, rfl, rfl, htgt, Hv.out.wrap ha H14.out, HB.out⟩
            case measure => exact (Hrk.out q t ha (by rcases H14.out with h | h <;> simp [wrapsB, h])).2
        · have g14 : (t.kind == 14) = false := by simp [h14]
          have g15 : (t.kind == 15) = false := by simp; omega
          have g16 : (t.kind == 16) = false := by simp; omega
          have H : Hid (v = meet2 s (canM t.kind)) := Hv.out.base ha h14 hk
          clear h14 hk hwf
          go_wp2_with (first | (go_at_call 23; refine hn.mono ?_; rintro e w' ⟨rfl, rfl⟩) | (go_at_call 126; refine (Meet_new _ _ _).mono ?_; rintro e w' ⟨rfl, rfl⟩) | (go_at_call 127; refine (can_W _ _).mono ?_; rintro e w1 ⟨rfl, hb1⟩))
          rw [Exit.noGoto_ret]
          go_ret
          exact ⟨by rw [H.out]; rfl, (HB.out.trans (hb1.mono HB.out.size)).alloc (Nat.le_trans HB.out.size hb1.size) _⟩
end Go.Proofs.YtifmifjbebpomaaGreatDoor
/- The sides' tree: Open, Parent, cuts. -/
namespace Go.Proofs.YtifmifjbebpomaaGreatDoor
open Go.RowKit Go.ChangeMaps Go.MapKept

def WM.cutAt (M : WM) (n : Nat) : Bool := M.cuts.getD n false
def WM.par (M : WM) (n : Nat) : Int := M.parents.getD n 0
def openF (M : WM) : Nat → Int → Int → Bool
  | 0, _, _ => true
  | f + 1, a, b => if a = b then true else if a < b then (if M.cutAt b.toNat then false else openF M f (M.par (b.toNat - 1)) a) else (if M.cutAt a.toNat then false else openF M f (M.par (a.toNat - 1)) b)
def WM.openB (M : WM) (a b : Int) : Bool := sideB M a && sideB M b && openF M (a.toNat + b.toNat) a b

section
variable {w : World} {p : Nat} {M : WM} {F : Nat → Prop} {pa : Option Addr} {pc cg cc mg mc tb fb fn : Nat} {bl : Int → Nat}
theorem WV.cutCell (h : WV w p M F pa pc cg cc mg mc tb fb fn bl) {n : Nat} (hn : n < M.made.length) : w.cell? ⟨cg, n, none⟩ = some (.bool (M.cutAt n)) := by
  have h1 := h.ok.cuts
  have h2 := h.ok.made
  exact h.cut.cell (by rw [List.getElem?_map, List.getElem?_eq_getElem (by omega), WM.cutAt, List.getD_eq_getElem?_getD, List.getElem?_eq_getElem (by omega)]; rfl)
theorem WV.parCell (h : WV w p M F pa pc cg cc mg mc tb fb fn bl) {n : Nat} (hn : n < M.parents.length) : ∃ b o, pa = some ⟨b, o, none⟩ ∧ w.cell? ⟨b, o + n, none⟩ = some (.int .i64 (M.par n)) := by
  obtain ⟨b, o, h1, _, _, h2⟩ := h.pars n (M.par n) (by rw [WM.par, List.getD_eq_getElem?_getD, List.getElem?_eq_getElem hn]; rfl)
  exact ⟨b, o, h1, h2⟩
theorem WM.ok.par_le (h : M.ok) {n : Nat} (hn : n < M.parents.length) : 0 ≤ M.par n ∧ M.par n ≤ n := by
  have := h.tree n (M.par n) (by rw [WM.par, List.getD_eq_getElem?_getD, List.getElem?_eq_getElem hn]; rfl)
  exact this
end

section
variable {w : World} {p : Nat} {M : WM} {F : Nat → Prop}

theorem IsCut_W (hW : IsW w p M F) (n : Int) : Calls Tryz.prog 35 #[.pointer (some ⟨p, 0, none⟩), .int .i64 n] w fun e w' => e = .returned (.bool (edgeB M n && M.cutAt n.toNat)) ∧ w = w' := by
  have hn := edge_W hW n
  obtain ⟨pa, pc, cg, cc, mg, mc, tb, fb, fn, bl, h⟩ := hW
  have c1 := h.c1
  cases he : edgeB M n with
  | false =>
    rw [he] at hn
    go_enter Tryz.func35, Tryz.ntmps35
    go_wp2_with (go_at_call 74; refine hn.mono ?_; rintro e w' ⟨rfl, rfl⟩)
    go_ret
    exact ⟨rfl, rfl⟩
  | true =>
    rw [he] at hn
    have he' : 0 < n ∧ n < M.made.length := by simpa [edgeB] using he
    obtain ⟨h1, h2⟩ := he'
    obtain ⟨k, rfl⟩ := Int.eq_ofNat_of_zero_le (Int.le_of_lt h1)
    have hc := h.cutCell (n := k) (by omega)
    have hcl : (k : Int) < M.cuts.length := by have := h.ok.cuts; have := h.ok.made; omega
    rw [Int.toNat_natCast]
    clear he
    go_enter Tryz.func35, Tryz.ntmps35
    go_wp2_with (go_at_call 74; refine hn.mono ?_; rintro e w' ⟨rfl, rfl⟩)
    go_ret
    exact ⟨by simp, rfl⟩

theorem Parent_W (hW : IsW w p M F) (s : Int) (hs : 0 < s ∧ s < M.made.length) : Calls Tryz.prog 73 #[.pointer (some ⟨p, 0, none⟩), .int .i64 s] w fun e w' => e = .returned (.tuple #[.int .i64 (M.par (s.toNat - 1)), .int .i64 0]) ∧ w = w' := by
  have hn := none_W hW
  have hs2 := side_W hW s
  have hok := hW.ok
  obtain ⟨h1, h2⟩ := hs
  rw [sideB_iff.2 ⟨by omega, h2⟩] at hs2
  obtain ⟨pa, pc, cg, cc, mg, mc, tb, fb, fn, bl, h⟩ := hW
  have c0 := h.c0
  obtain ⟨k, rfl⟩ : ∃ k : Nat, s = (k : Int) + 1 := ⟨(s - 1).toNat, by omega⟩
  have hm := hok.made
  have hsd := hok.sides
  obtain ⟨b, o, rfl, hc⟩ := h.parCell (n := k) (by omega)
  have e1 : ((k : Int) + 1).toNat - 1 = k := by omega
  rw [e1]
  have hkl : (k : Int) < M.parents.length := by omega
  have hkb : k ≤ 16 := by omega
  have hn0 : ((k : Int) + 1 == 0) = false := by simp; omega
  clear hm e1
  go_enter Tryz.func73, Tryz.ntmps73
  go_wp2_with (first | (go_at_call 46; refine hn.mono ?_; rintro e w' ⟨rfl, rfl⟩) | (go_at_call 78; refine hs2.mono ?_; rintro e w' ⟨rfl, rfl⟩))
  go_ret2
  exact ⟨rfl, rfl⟩

theorem Open_W (hW : IsW w p M F) (a b : Int) : Calls Tryz.prog 41 #[.pointer (some ⟨p, 0, none⟩), .int .i64 a, .int .i64 b] w fun e w' => e = .returned (.bool (M.openB a b)) ∧ w = w' := by
  have ha := side_W hW a
  have hb := side_W hW b
  cases h1 : sideB M a with
  | false =>
    rw [h1] at ha
    go_enter Tryz.func41, Tryz.ntmps41
    go_wp2_with (go_at_call 78; refine ha.mono ?_; rintro e w' ⟨rfl, rfl⟩)
    go_ret
    exact ⟨by simp [WM.openB, h1], rfl⟩
  | true =>
  cases h2 : sideB M b with
  | false =>
    rw [h1] at ha
    rw [h2] at hb
    go_enter Tryz.func41, Tryz.ntmps41
    go_wp2_with fail
    refine ha.mono ?_
    rintro e w' ⟨rfl, rfl⟩
    go_wp2_with fail
    refine hb.mono ?_
    rintro e w' ⟨rfl, rfl⟩
    go_wp2_with fail
    go_ret
    exact ⟨by simp [WM.openB, h2], rfl⟩
  | true =>
    rw [h1] at ha
    rw [h2] at hb
    obtain ⟨a0, a1⟩ := sideB_iff.1 h1
    obtain ⟨b0, b1⟩ := sideB_iff.1 h2
    have hv : Hid (M.openB a b = openF M (a.toNat + b.toNat) a b) := by show _ = _; simp [WM.openB, h1, h2]
    rw [hv.out]
    clear h1 h2 hv
    have hok := hW.ok
    obtain ⟨pa, pc, cg, cc, mg, mc, tb, fb, fn, bl, h⟩ := hW
    have c0 := h.c0
    have c1 := h.c1
    have hm := hok.made
    have hsd := hok.sides
    have hcs := hok.cuts
    have H : Hid (WV w p M F pa pc cg cc mg mc tb fb fn bl) := h
    have Hok : Hid M.ok := hok
    clear h hok
    obtain ⟨v, hv⟩ : ∃ v, v = openF M (a.toNat + b.toNat) a b := ⟨_, rfl⟩
    rw [← hv]
    have HV : Hid (v = openF M (a.toNat + b.toNat) a b) := hv
    clear hv
    have hml : (M.made.length : Int) ≤ 16 := by omega
    have hcl : (M.cuts.length : Int) = M.made.length := by omega
    have HM : Hid (M.made.length = M.parents.length + 1) := hm
    have HC : Hid ((M.cuts.length : Int) = M.made.length) := hcl
    clear hm hcl hcs
    go_enter Tryz.func41, Tryz.ntmps41
    go_wp2_with fail
    refine ha.mono ?_
    rintro e w' ⟨rfl, rfl⟩
    go_wp2_with fail
    refine hb.mono ?_
    rintro e w' ⟨rfl, rfl⟩
    go_wp2_with fail
    go_loop [1, 2] (fun va vb => ∃ (f : Nat) (x y : Int), va = .int .i64 x ∧ vb = .int .i64 y ∧ 0 ≤ x ∧ x < M.made.length ∧ 0 ≤ y ∧ y < M.made.length ∧ x.toNat + y.toNat ≤ f ∧ Hid (openF M f x y = v)) (fun va vb => (intOf va).toNat + (intOf vb).toNat)
    case atStart => exact ⟨_, a, b, rfl, rfl, a0, a1, b0, b1, Nat.le_refl _, HV.out.symm⟩
    case round =>
      obtain ⟨f, x, y, rfl, rfl, x0, x1, y0, y1, hf, Hv⟩ := hrel
      clear a0 a1 b0 b1 ha hb HV
      by_cases hxy : x = y
      · subst hxy
        have hT : Hid (v = true) := by
          have := Hv.out
          cases f <;> simp [openF] at this <;> exact this
        go_wp2_with fail
        go_ret
        exact ⟨by rw [hT.out]; rfl, rfl⟩
      · obtain ⟨f, rfl⟩ : ∃ g, f = g + 1 := ⟨f - 1, by omega⟩
        have hne : (x != y) = true := by simp [hxy]
        have HM' := HM.out
        have HC' := HC.out
        by_cases hlt : x < y
        · obtain ⟨k, rfl⟩ : ∃ k : Nat, y = (k : Int) + 1 := ⟨(y - 1).toNat, by omega⟩
          obtain ⟨b, o, rfl, hc⟩ := H.out.parCell (n := k) (by omega)
          have hp := Hok.out.par_le (n := k) (by omega)
          obtain ⟨q, hq⟩ : ∃ q, q = M.par k := ⟨_, rfl⟩
          rw [← hq] at hc hp
          have hk := H.out.cutCell (n := k + 1) (by omega)
          obtain ⟨c, hc'⟩ : ∃ c, c = M.cutAt (k + 1) := ⟨_, rfl⟩
          rw [← hc'] at hk
          have hst : Hid (openF M (f + 1) x ((k : Int) + 1) = if c then false else openF M f q x) := by
            show _ = _
            have e1 : ((k : Int) + 1).toNat = k + 1 := by omega
            rw [openF, if_neg hxy, if_pos hlt, e1, hq, hc']
            rfl
          have hkp : (k : Int) < M.parents.length := by omega
          have hkc : (k : Int) + 1 < M.cuts.length := by omega
          obtain ⟨q0, q1⟩ := hp
          clear HM' HC' hxy hq hc'
          cases c with
          | true =>
            go_wp2_with fail
            go_ret
            have := Hv.out
            rw [hst.out] at this
            exact ⟨by rw [← this]; rfl, rfl⟩
          | false =>
            go_wp2_with fail
            go_round
            case rel => exact ⟨f, q, x, rfl, rfl, q0, by omega, x0, x1, by omega, hst.out.symm.trans Hv.out⟩
            case measure => simp [intOf]; omega
        · obtain ⟨k, rfl⟩ : ∃ k : Nat, x = (k : Int) + 1 := ⟨(x - 1).toNat, by omega⟩
          obtain ⟨b, o, rfl, hc⟩ := H.out.parCell (n := k) (by omega)
          have hp := Hok.out.par_le (n := k) (by omega)
          obtain ⟨q, hq⟩ : ∃ q, q = M.par k := ⟨_, rfl⟩
          rw [← hq] at hc hp
          have hk := H.out.cutCell (n := k + 1) (by omega)
          obtain ⟨c, hc'⟩ : ∃ c, c = M.cutAt (k + 1) := ⟨_, rfl⟩
          rw [← hc'] at hk
          have hst : Hid (openF M (f + 1) ((k : Int) + 1) y = if c then false else openF M f q y) := by
            show _ = _
            have e1 : ((k : Int) + 1).toNat = k + 1 := by omega
            rw [openF, if_neg hxy, if_neg hlt, e1, hq, hc']
            rfl
          have hkp : (k : Int) < M.parents.length := by omega
          have hkc : (k : Int) + 1 < M.cuts.length := by omega
          obtain ⟨q0, q1⟩ := hp
          clear HM' HC' hxy hq hc'
          cases c with
          | true =>
            go_wp2_with fail
            go_ret
            have := Hv.out
            rw [hst.out] at this
            exact ⟨by rw [← this]; rfl, rfl⟩
          | false =>
            go_wp2_with fail
            go_round
            case rel => exact ⟨f, q, y, rfl, rfl, q0, by omega, y0, y1, by omega, hst.out.symm.trans Hv.out⟩
            case measure => simp [intOf]; omega
end
end Go.Proofs.YtifmifjbebpomaaGreatDoor
