/- The small calls on a world: who is there, what kind it is, what a kind can. -/
import Derived.Test.YtmefjkggibbhoaaGreatRep
namespace Go.Proofs.YtmefjkggibbhoaaGreat
open Go.RowKit Go.ChangeMaps Go.MapKept

section
variable {w : World} {p : Nat} {M : WM} {F : Nat → Prop}

theorem none_W (hW : IsW w p M F) : Calls Tryz.prog 38 #[.pointer (some ⟨p, 0, none⟩)] w fun e w' => e = .returned (.bool false) ∧ w = w' := by
  obtain ⟨pa, pc, cg, cc, mg, mc, tb, fb, fn, bl, h⟩ := hW
  have c2 := h.c2
  go_enter Tryz.func38, Tryz.ntmps38
  go_wp2
  go_ret
  exact ⟨rfl, rfl⟩

theorem Sides_W (hW : IsW w p M F) : Calls Tryz.prog 52 #[.pointer (some ⟨p, 0, none⟩)] w fun e w' => e = .returned (.int .i64 M.made.length) ∧ w = w' := by
  have hn := none_W hW
  obtain ⟨pa, pc, cg, cc, mg, mc, tb, fb, fn, bl, h⟩ := hW
  have c5 := h.c5
  go_enter Tryz.func52, Tryz.ntmps52
  go_wp2_with (go_at_call 38; refine hn.mono ?_; rintro e w' ⟨rfl, rfl⟩)
  go_ret
  exact ⟨rfl, rfl⟩

def sideB (M : WM) (s : Int) : Bool := decide (0 ≤ s ∧ s < M.made.length)
theorem sideB_iff {M : WM} {s : Int} : sideB M s = true ↔ 0 ≤ s ∧ s < M.made.length := by simp [sideB]

theorem side_W (hW : IsW w p M F) (s : Int) : Calls Tryz.prog 84 #[.pointer (some ⟨p, 0, none⟩), .int .i64 s] w fun e w' => e = .returned (.bool (sideB M s)) ∧ w = w' := by
  have hn := Sides_W hW
  by_cases h0 : 0 ≤ s
  · go_enter Tryz.func84, Tryz.ntmps84
    go_wp2_with (go_at_call 52; refine hn.mono ?_; rintro e w' ⟨rfl, rfl⟩)
    go_ret
    exact ⟨by simp [sideB, h0], rfl⟩
  · go_enter Tryz.func84, Tryz.ntmps84
    go_wp2_with (go_at_call 52; refine hn.mono ?_; rintro e w' ⟨rfl, rfl⟩)
    go_ret
    exact ⟨by simp [sideB]; omega, rfl⟩

def edgeB (M : WM) (n : Int) : Bool := decide (0 < n ∧ n < M.made.length)

theorem Is_W (hW : IsW w p M F) {r : Int} (hr : (Lit.int .i64 r).wf = true) : Calls Tryz.prog 46 #[.pointer (some ⟨p, 0, none⟩), .int .i64 r] w fun e w' => e = .returned (.bool (M.at r).isSome) ∧ w = w' := by
  have hn := none_W hW
  obtain ⟨pa, pc, cg, cc, mg, mc, tb, fb, fn, bl, h⟩ := hW
  have c2 := h.c2
  have hl := h.look hr
  cases ha : M.at r with
  | none =>
    rw [ha] at hl
    simp only [Option.map_none] at hl
    go_enter Tryz.func46, Tryz.ntmps46
    go_wp2_with (go_at_call 38; refine hn.mono ?_; rintro e w' ⟨rfl, rfl⟩)
    go_ret
    exact ⟨rfl, rfl⟩
  | some t =>
    rw [ha] at hl
    simp only [Option.map_some] at hl
    go_enter Tryz.func46, Tryz.ntmps46
    go_wp2_with (go_at_call 38; refine hn.mono ?_; rintro e w' ⟨rfl, rfl⟩)
    go_ret
    exact ⟨rfl, rfl⟩

theorem thc_cell {w : World} {b : Nat} {t : Th} (h : w.heap[b]? = some (.cells (thc t) 53 (0, 0))) :
    w.cell? ⟨b, 0, none⟩ = some (.int .u8 t.kind) ∧ w.cell? ⟨b, 1, none⟩ = some (.int .i64 t.home) ∧ w.cell? ⟨b, 8, none⟩ = some (.int .i64 t.n) ∧ w.cell? ⟨b, 9, none⟩ = some (.int .i64 t.lost) ∧
    w.cell? ⟨b, 10, none⟩ = some (.int .i64 t.tgt) ∧ w.cell? ⟨b, 11, none⟩ = some (.int .i64 t.bi) ∧ w.cell? ⟨b, 12, none⟩ = some (.int .u8 t.set) ∧ w.cell? ⟨b, 13, none⟩ = some (.bool t.full) :=
  ⟨by rw [cell_blk h]; rfl, by rw [cell_blk h]; rfl, by rw [cell_blk h]; rfl, by rw [cell_blk h]; rfl, by rw [cell_blk h]; rfl, by rw [cell_blk h]; rfl, by rw [cell_blk h]; rfl, by rw [cell_blk h]; rfl⟩

def WM.kindOf (M : WM) (r : Int) : Int := ((M.at r).map Th.kind).getD 0

theorem Kind_W (hW : IsW w p M F) {r : Int} (hr : (Lit.int .i64 r).wf = true) : Calls Tryz.prog 34 #[.pointer (some ⟨p, 0, none⟩), .int .i64 r] w fun e w' => e = .returned (.int .u8 (M.kindOf r)) ∧ w = w' := by
  have hn := Is_W hW hr
  obtain ⟨pa, pc, cg, cc, mg, mc, tb, fb, fn, bl, h⟩ := hW
  have c2 := h.c2
  have hl := h.look hr
  cases ha : M.at r with
  | none =>
    rw [ha] at hn
    go_enter Tryz.func34, Tryz.ntmps34
    go_wp2_with (go_at_call 46; refine hn.mono ?_; rintro e w' ⟨rfl, rfl⟩)
    go_ret
    exact ⟨by simp [WM.kindOf, ha], rfl⟩
  | some t =>
    rw [ha] at hl hn
    simp only [Option.map_some] at hl
    obtain ⟨k0, k1, -, -, k6, k7, k8, k9⟩ := thc_cell (h.blk r t ha).1
    go_enter Tryz.func34, Tryz.ntmps34
    go_wp2_with (go_at_call 46; refine hn.mono ?_; rintro e w' ⟨rfl, rfl⟩)
    go_ret
    exact ⟨by simp [WM.kindOf, ha], rfl⟩

def WM.homeOf (M : WM) (r : Int) : Int := match M.at r with | some t => if t.kind = 14 then 0 else t.home | none => 0
def WM.hasHome (M : WM) (r : Int) : Bool := match M.at r with | some t => !decide (t.kind = 14) | none => false
theorem Home_W (hW : IsW w p M F) {r : Int} (hr : (Lit.int .i64 r).wf = true) : Calls Tryz.prog 51 #[.pointer (some ⟨p, 0, none⟩), .int .i64 r] w fun e w' =>
    e = .returned (.tuple #[.int .i64 (M.homeOf r), .bool (M.hasHome r)]) ∧ w = w' := by
  have hn := Is_W hW hr
  obtain ⟨pa, pc, cg, cc, mg, mc, tb, fb, fn, bl, h⟩ := hW
  have c2 := h.c2
  have hl := h.look hr
  cases ha : M.at r with
  | none =>
    rw [ha] at hn
    go_enter Tryz.func51, Tryz.ntmps51
    go_wp2_with (go_at_call 46; refine hn.mono ?_; rintro e w' ⟨rfl, rfl⟩)
    go_ret2
    exact ⟨by simp [WM.homeOf, WM.hasHome, ha], rfl⟩
  | some t =>
    rw [ha] at hl hn
    simp only [Option.map_some] at hl
    obtain ⟨k0, k1, -, -, -, -, -, -⟩ := thc_cell (h.blk r t ha).1
    by_cases hk : t.kind = 14
    · have H : Hid (t.kind = 14) := hk
      have hk' : (t.kind == 14) = true := by simp [hk]
      clear hk
      go_enter Tryz.func51, Tryz.ntmps51
      go_wp2_with (go_at_call 46; refine hn.mono ?_; rintro e w' ⟨rfl, rfl⟩)
      go_ret2
      exact ⟨by simp [WM.homeOf, WM.hasHome, ha, H.out], rfl⟩
    · have H : Hid (¬ t.kind = 14) := hk
      have hk' : (t.kind == 14) = false := by simp [hk]
      clear hk
      go_enter Tryz.func51, Tryz.ntmps51
      go_wp2_with (go_at_call 46; refine hn.mono ?_; rintro e w' ⟨rfl, rfl⟩)
      go_ret2
      exact ⟨by simp [WM.homeOf, WM.hasHome, ha, H.out], rfl⟩

theorem Len_W (hW : IsW w p M F) : Calls Tryz.prog 15 #[.pointer (some ⟨p, 0, none⟩)] w fun e w' => e = .returned (.int .i64 M.things.length) ∧ w = w' := by
  have hn := none_W hW
  obtain ⟨pa, pc, cg, cc, mg, mc, tb, fb, fn, bl, h⟩ := hW
  have c2 := h.c2
  have hl := fun ty => h.things.len Tryz.underlying60 ty
  go_enter Tryz.func15, Tryz.ntmps15
  go_wp2_with (go_at_call 38; refine hn.mono ?_; rintro e w' ⟨rfl, rfl⟩)
  go_ret
  exact ⟨rfl, rfl⟩

theorem Find_W (hW : IsW w p M F) {r s : Int} (hr : (Lit.int .i64 r).wf = true) (hs : (Lit.int .u8 s).wf = true) : Calls Tryz.prog 69 #[.pointer (some ⟨p, 0, none⟩), .int .i64 r, .int .u8 s] w fun e w' =>
    e = .returned (.tuple #[.int .i64 ((M.find r s).getD 0), .bool (M.find r s).isSome]) ∧ w = w' := by
  have hn := none_W hW
  obtain ⟨pa, pc, cg, cc, mg, mc, tb, fb, fn, bl, h⟩ := hW
  have c3 := h.c3
  have hl := h.find_ok hr hs
  go_enter Tryz.func69, Tryz.ntmps69
  go_wp2_with (go_at_call 38; refine hn.mono ?_; rintro e w' ⟨rfl, rfl⟩)
  go_ret2
  exact ⟨rfl, rfl⟩


end

theorem asksBy_W (k : Int) (w : World) : Calls Tryz.prog 64 #[.int .u8 k] w fun e w' => e = .returned (.bool (k == 15 || k == 16)) ∧ w = w' := by
  by_cases h1 : k = 15
  · subst h1
    go_enter Tryz.func64, Tryz.ntmps64
    go_wp2
    go_ret
    exact ⟨rfl, rfl⟩
  · have h1 : (k == 15) = false := by simp [h1]
    go_enter Tryz.func64, Tryz.ntmps64
    go_wp2
    go_ret
    exact ⟨by simp [h1], rfl⟩
theorem wraps_W (k : Int) (w : World) : Calls Tryz.prog 92 #[.int .u8 k] w fun e w' => e = .returned (.bool (wrapsB k)) ∧ w = w' := by
  by_cases h1 : k = 14
  · subst h1
    go_enter Tryz.func92, Tryz.ntmps92
    go_wp2
    go_ret
    exact ⟨rfl, rfl⟩
  · have h1 : (k == 14) = false := by simp [h1]
    by_cases h2 : k = 15
    · subst h2
      go_enter Tryz.func92, Tryz.ntmps92
      go_wp2
      go_ret
      exact ⟨rfl, rfl⟩
    · have h2 : (k == 15) = false := by simp [h2]
      go_enter Tryz.func92, Tryz.ntmps92
      go_wp2
      go_ret
      exact ⟨by simp [wrapsB, h1, h2], rfl⟩
def asksOfB (k : Int) : Bool := k == 6 || k == 7 || k == 9 || k == 11 || wrapsB k
end Go.Proofs.YtmefjkggibbhoaaGreat
