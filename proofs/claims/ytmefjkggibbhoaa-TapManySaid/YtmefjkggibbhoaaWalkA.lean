/- The small calls on a world: who is there, what kind it is, what a kind can. -/
import Derived.Test.YtmefjkggibbhoaaRep
namespace Go.Proofs.Ytmefjkggibbhoaa
open Go.RowKit Go.ChangeMaps Go.MapKept

section
variable {w : World} {p : Nat} {M : WM} {F : Nat → Prop}

theorem none_W (hW : IsW w p M F) : Calls Try.prog 50 #[.pointer (some ⟨p, 0, none⟩)] w fun e w' => e = .returned (.bool false) ∧ w = w' := by
  obtain ⟨pa, pc, cg, cc, mg, mc, tb, fb, fn, bl, h⟩ := hW
  have c2 := h.c2
  go_enter Try.func50, Try.ntmps50
  go_wp2
  go_ret
  exact ⟨rfl, rfl⟩

theorem Sides_W (hW : IsW w p M F) : Calls Try.prog 18 #[.pointer (some ⟨p, 0, none⟩)] w fun e w' => e = .returned (.int .i64 M.made.length) ∧ w = w' := by
  have hn := none_W hW
  obtain ⟨pa, pc, cg, cc, mg, mc, tb, fb, fn, bl, h⟩ := hW
  have c5 := h.c5
  go_enter Try.func18, Try.ntmps18
  go_wp2_with (go_at_call 50; refine hn.mono ?_; rintro e w' ⟨rfl, rfl⟩)
  go_ret
  exact ⟨rfl, rfl⟩

def sideB (M : WM) (s : Int) : Bool := decide (0 ≤ s ∧ s < M.made.length)
theorem sideB_iff {M : WM} {s : Int} : sideB M s = true ↔ 0 ≤ s ∧ s < M.made.length := by simp [sideB]

theorem side_W (hW : IsW w p M F) (s : Int) : Calls Try.prog 62 #[.pointer (some ⟨p, 0, none⟩), .int .i64 s] w fun e w' => e = .returned (.bool (sideB M s)) ∧ w = w' := by
  have hn := Sides_W hW
  by_cases h0 : 0 ≤ s
  · go_enter Try.func62, Try.ntmps62
    go_wp2_with (go_at_call 18; refine hn.mono ?_; rintro e w' ⟨rfl, rfl⟩)
    go_ret
    exact ⟨by simp [sideB, h0], rfl⟩
  · go_enter Try.func62, Try.ntmps62
    go_wp2_with (go_at_call 18; refine hn.mono ?_; rintro e w' ⟨rfl, rfl⟩)
    go_ret
    exact ⟨by simp [sideB]; omega, rfl⟩

def edgeB (M : WM) (n : Int) : Bool := decide (0 < n ∧ n < M.made.length)
theorem edge_W (hW : IsW w p M F) (n : Int) : Calls Try.prog 77 #[.pointer (some ⟨p, 0, none⟩), .int .i64 n] w fun e w' => e = .returned (.bool (edgeB M n)) ∧ w = w' := by
  have hn := Sides_W hW
  by_cases h0 : 0 < n
  · go_enter Try.func77, Try.ntmps77
    go_wp2_with (go_at_call 18; refine hn.mono ?_; rintro e w' ⟨rfl, rfl⟩)
    go_ret
    exact ⟨by simp [edgeB, h0], rfl⟩
  · go_enter Try.func77, Try.ntmps77
    go_wp2_with (go_at_call 18; refine hn.mono ?_; rintro e w' ⟨rfl, rfl⟩)
    go_ret
    exact ⟨by simp [edgeB]; omega, rfl⟩

theorem Is_W (hW : IsW w p M F) {r : Int} (hr : (Lit.int .i64 r).wf = true) : Calls Try.prog 19 #[.pointer (some ⟨p, 0, none⟩), .int .i64 r] w fun e w' => e = .returned (.bool (M.at r).isSome) ∧ w = w' := by
  have hn := none_W hW
  obtain ⟨pa, pc, cg, cc, mg, mc, tb, fb, fn, bl, h⟩ := hW
  have c2 := h.c2
  have hl := h.look hr
  cases ha : M.at r with
  | none =>
    rw [ha] at hl
    simp only [Option.map_none] at hl
    go_enter Try.func19, Try.ntmps19
    go_wp2_with (go_at_call 50; refine hn.mono ?_; rintro e w' ⟨rfl, rfl⟩)
    go_ret
    exact ⟨rfl, rfl⟩
  | some t =>
    rw [ha] at hl
    simp only [Option.map_some] at hl
    go_enter Try.func19, Try.ntmps19
    go_wp2_with (go_at_call 50; refine hn.mono ?_; rintro e w' ⟨rfl, rfl⟩)
    go_ret
    exact ⟨rfl, rfl⟩

theorem thc_cell {w : World} {b : Nat} {t : Th} (h : w.heap[b]? = some (.cells (thc t) 46 (0, 0))) :
    w.cell? ⟨b, 0, none⟩ = some (.int .u8 t.kind) ∧ w.cell? ⟨b, 1, none⟩ = some (.int .i64 t.home) ∧ w.cell? ⟨b, 8, none⟩ = some (.int .i64 t.n) ∧ w.cell? ⟨b, 9, none⟩ = some (.int .i64 t.lost) ∧
    w.cell? ⟨b, 10, none⟩ = some (.int .i64 t.tgt) ∧ w.cell? ⟨b, 11, none⟩ = some (.int .i64 t.bi) ∧ w.cell? ⟨b, 12, none⟩ = some (.int .u8 t.set) ∧ w.cell? ⟨b, 13, none⟩ = some (.bool t.full) :=
  ⟨by rw [cell_blk h]; rfl, by rw [cell_blk h]; rfl, by rw [cell_blk h]; rfl, by rw [cell_blk h]; rfl, by rw [cell_blk h]; rfl, by rw [cell_blk h]; rfl, by rw [cell_blk h]; rfl, by rw [cell_blk h]; rfl⟩

def WM.kindOf (M : WM) (r : Int) : Int := ((M.at r).map Th.kind).getD 0

theorem Kind_W (hW : IsW w p M F) {r : Int} (hr : (Lit.int .i64 r).wf = true) : Calls Try.prog 20 #[.pointer (some ⟨p, 0, none⟩), .int .i64 r] w fun e w' => e = .returned (.int .u8 (M.kindOf r)) ∧ w = w' := by
  have hn := Is_W hW hr
  obtain ⟨pa, pc, cg, cc, mg, mc, tb, fb, fn, bl, h⟩ := hW
  have c2 := h.c2
  have hl := h.look hr
  cases ha : M.at r with
  | none =>
    rw [ha] at hn
    go_enter Try.func20, Try.ntmps20
    go_wp2_with (go_at_call 19; refine hn.mono ?_; rintro e w' ⟨rfl, rfl⟩)
    go_ret
    exact ⟨by simp [WM.kindOf, ha], rfl⟩
  | some t =>
    rw [ha] at hl hn
    simp only [Option.map_some] at hl
    obtain ⟨k0, k1, -, -, k6, k7, k8, k9⟩ := thc_cell (h.blk r t ha).1
    go_enter Try.func20, Try.ntmps20
    go_wp2_with (go_at_call 19; refine hn.mono ?_; rintro e w' ⟨rfl, rfl⟩)
    go_ret
    exact ⟨by simp [WM.kindOf, ha], rfl⟩

def WM.homeOf (M : WM) (r : Int) : Int := match M.at r with | some t => if t.kind = 14 then 0 else t.home | none => 0
def WM.hasHome (M : WM) (r : Int) : Bool := match M.at r with | some t => !decide (t.kind = 14) | none => false
theorem Home_W (hW : IsW w p M F) {r : Int} (hr : (Lit.int .i64 r).wf = true) : Calls Try.prog 41 #[.pointer (some ⟨p, 0, none⟩), .int .i64 r] w fun e w' =>
    e = .returned (.tuple #[.int .i64 (M.homeOf r), .bool (M.hasHome r)]) ∧ w = w' := by
  have hn := Is_W hW hr
  obtain ⟨pa, pc, cg, cc, mg, mc, tb, fb, fn, bl, h⟩ := hW
  have c2 := h.c2
  have hl := h.look hr
  cases ha : M.at r with
  | none =>
    rw [ha] at hn
    go_enter Try.func41, Try.ntmps41
    go_wp2_with (go_at_call 19; refine hn.mono ?_; rintro e w' ⟨rfl, rfl⟩)
    go_ret2
    exact ⟨by simp [WM.homeOf, WM.hasHome, ha], rfl⟩
  | some t =>
    rw [ha] at hl hn
    simp only [Option.map_some] at hl
    obtain ⟨k0, k1, -, -, -, -, -, -⟩ := thc_cell (h.blk r t ha).1
    by_cases hk : t.kind = 14
    · have H : Hid (t.kind = 14) := hk
      have hk' : (t.kind == 14) = true := by simp [hk]
      clear hk
      go_enter Try.func41, Try.ntmps41
      go_wp2_with (go_at_call 19; refine hn.mono ?_; rintro e w' ⟨rfl, rfl⟩)
      go_ret2
      exact ⟨by simp [WM.homeOf, WM.hasHome, ha, H.out], rfl⟩
    · have H : Hid (¬ t.kind = 14) := hk
      have hk' : (t.kind == 14) = false := by simp [hk]
      clear hk
      go_enter Try.func41, Try.ntmps41
      go_wp2_with (go_at_call 19; refine hn.mono ?_; rintro e w' ⟨rfl, rfl⟩)
      go_ret2
      exact ⟨by simp [WM.homeOf, WM.hasHome, ha, H.out], rfl⟩

theorem Len_W (hW : IsW w p M F) : Calls Try.prog 23 #[.pointer (some ⟨p, 0, none⟩)] w fun e w' => e = .returned (.int .i64 M.things.length) ∧ w = w' := by
  have hn := none_W hW
  obtain ⟨pa, pc, cg, cc, mg, mc, tb, fb, fn, bl, h⟩ := hW
  have c2 := h.c2
  have hl := fun ty => h.things.len Try.underlying87 ty
  go_enter Try.func23, Try.ntmps23
  go_wp2_with (go_at_call 50; refine hn.mono ?_; rintro e w' ⟨rfl, rfl⟩)
  go_ret
  exact ⟨rfl, rfl⟩

theorem Find_W (hW : IsW w p M F) {r s : Int} (hr : (Lit.int .i64 r).wf = true) (hs : (Lit.int .u8 s).wf = true) : Calls Try.prog 61 #[.pointer (some ⟨p, 0, none⟩), .int .i64 r, .int .u8 s] w fun e w' =>
    e = .returned (.tuple #[.int .i64 ((M.find r s).getD 0), .bool (M.find r s).isSome]) ∧ w = w' := by
  have hn := none_W hW
  obtain ⟨pa, pc, cg, cc, mg, mc, tb, fb, fn, bl, h⟩ := hW
  have c3 := h.c3
  have hl := h.find_ok hr hs
  go_enter Try.func61, Try.ntmps61
  go_wp2_with (go_at_call 50; refine hn.mono ?_; rintro e w' ⟨rfl, rfl⟩)
  go_ret2
  exact ⟨rfl, rfl⟩

theorem Made_W (hW : IsW w p M F) (s : Int) : Calls Try.prog 25 #[.pointer (some ⟨p, 0, none⟩), .int .i64 s] w fun e w' =>
    e = .returned (.int .i64 (if sideB M s = true then M.made.getD s.toNat 0 else 0)) ∧ w = w' := by
  have hn := side_W hW s
  obtain ⟨pa, pc, cg, cc, mg, mc, tb, fb, fn, bl, h⟩ := hW
  have c5 := h.c5
  cases hs : sideB M s with
  | false =>
    rw [hs] at hn
    go_enter Try.func25, Try.ntmps25
    go_wp2_with (go_at_call 62; refine hn.mono ?_; rintro e w' ⟨rfl, rfl⟩)
    go_ret
    exact ⟨rfl, rfl⟩
  | true =>
    rw [hs] at hn
    obtain ⟨h1, h2⟩ := sideB_iff.1 hs
    obtain ⟨n, rfl⟩ := Int.eq_ofNat_of_zero_le h1
    have hc : w.cell? ⟨mg, n, none⟩ = some (.int .i64 (M.made.getD n 0)) := h.mad.cell (by rw [List.getElem?_map, List.getElem?_eq_getElem (by omega), List.getD_eq_getElem?_getD, List.getElem?_eq_getElem (by omega)]; rfl)
    obtain ⟨v, hv⟩ : ∃ v, v = M.made.getD n 0 := ⟨_, rfl⟩
    rw [← hv] at hc
    rw [Int.toNat_natCast, ← hv]
    clear hv
    go_enter Try.func25, Try.ntmps25
    go_wp2_with (go_at_call 62; refine hn.mono ?_; rintro e w' ⟨rfl, rfl⟩)
    go_ret
    exact ⟨rfl, rfl⟩
end

theorem asksBy_W (k : Int) (w : World) : Calls Try.prog 54 #[.int .u8 k] w fun e w' => e = .returned (.bool (k == 15 || k == 16)) ∧ w = w' := by
  by_cases h1 : k = 15
  · subst h1
    go_enter Try.func54, Try.ntmps54
    go_wp2
    go_ret
    exact ⟨rfl, rfl⟩
  · have h1 : (k == 15) = false := by simp [h1]
    go_enter Try.func54, Try.ntmps54
    go_wp2
    go_ret
    exact ⟨by simp [h1], rfl⟩
theorem wraps_W (k : Int) (w : World) : Calls Try.prog 86 #[.int .u8 k] w fun e w' => e = .returned (.bool (wrapsB k)) ∧ w = w' := by
  by_cases h1 : k = 14
  · subst h1
    go_enter Try.func86, Try.ntmps86
    go_wp2
    go_ret
    exact ⟨rfl, rfl⟩
  · have h1 : (k == 14) = false := by simp [h1]
    by_cases h2 : k = 15
    · subst h2
      go_enter Try.func86, Try.ntmps86
      go_wp2
      go_ret
      exact ⟨rfl, rfl⟩
    · have h2 : (k == 15) = false := by simp [h2]
      go_enter Try.func86, Try.ntmps86
      go_wp2
      go_ret
      exact ⟨by simp [wrapsB, h1, h2], rfl⟩
def asksOfB (k : Int) : Bool := k == 6 || k == 7 || k == 9 || k == 11 || wrapsB k
end Go.Proofs.Ytmefjkggibbhoaa
