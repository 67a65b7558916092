/- The small calls on a world: who is there, what kind it is, what a kind can. -/
import Derived.Test.YtifmifjbebpomaaGreatDoorRep
namespace Go.Proofs.YtifmifjbebpomaaGreatDoor
open Go.RowKit Go.ChangeMaps Go.MapKept

section
variable {w : World} {p : Nat} {M : WM} {F : Nat → Prop}

theorem none_W (hW : IsW w p M F) : Calls Tryz.prog 46 #[.pointer (some ⟨p, 0, none⟩)] w fun e w' => e = .returned (.bool false) ∧ w = w' := by
  obtain ⟨pa, pc, cg, cc, mg, mc, tb, fb, fn, bl, h⟩ := hW
  have c2 := h.c2
  go_enter Tryz.func46, Tryz.ntmps46
  go_wp2
  go_ret
  exact ⟨rfl, rfl⟩

theorem Sides_W (hW : IsW w p M F) : Calls Tryz.prog 31 #[.pointer (some ⟨p, 0, none⟩)] w fun e w' => e = .returned (.int .i64 M.made.length) ∧ w = w' := by
  have hn := none_W hW
  obtain ⟨pa, pc, cg, cc, mg, mc, tb, fb, fn, bl, h⟩ := hW
  have c5 := h.c5
  go_enter Tryz.func31, Tryz.ntmps31
  go_wp2_with (go_at_call 46; refine hn.mono ?_; rintro e w' ⟨rfl, rfl⟩)
  go_ret
  exact ⟨rfl, rfl⟩

def sideB (M : WM) (s : Int) : Bool := decide (0 ≤ s ∧ s < M.made.length)
theorem sideB_iff {M : WM} {s : Int} : sideB M s = true ↔ 0 ≤ s ∧ s < M.made.length := by simp [sideB]

theorem side_W (hW : IsW w p M F) (s : Int) : Calls Tryz.prog 78 #[.pointer (some ⟨p, 0, none⟩), .int .i64 s] w fun e w' => e = .returned (.bool (sideB M s)) ∧ w = w' := by
  have hn := Sides_W hW
  by_cases h0 : 0 ≤ s
  · go_enter Tryz.func78, Tryz.ntmps78
    go_wp2_with (go_at_call 31; refine hn.mono ?_; rintro e w' ⟨rfl, rfl⟩)
    go_ret
    exact ⟨by simp [sideB, h0], rfl⟩
  · go_enter Tryz.func78, Tryz.ntmps78
    go_wp2_with (go_at_call 31; refine hn.mono ?_; rintro e w' ⟨rfl, rfl⟩)
    go_ret
    exact ⟨by simp [sideB]; omega, rfl⟩

def edgeB (M : WM) (n : Int) : Bool := decide (0 < n ∧ n < M.made.length)
theorem edge_W (hW : IsW w p M F) (n : Int) : Calls Tryz.prog 74 #[.pointer (some ⟨p, 0, none⟩), .int .i64 n] w fun e w' => e = .returned (.bool (edgeB M n)) ∧ w = w' := by
  have hn := Sides_W hW
  by_cases h0 : 0 < n
  · go_enter Tryz.func74, Tryz.ntmps74
    go_wp2_with (go_at_call 31; refine hn.mono ?_; rintro e w' ⟨rfl, rfl⟩)
    go_ret
    exact ⟨by simp [edgeB, h0], rfl⟩
  · go_enter Tryz.func74, Tryz.ntmps74
    go_wp2_with (go_at_call 31; refine hn.mono ?_; rintro e w' ⟨rfl, rfl⟩)
    go_ret
    exact ⟨by simp [edgeB]; omega, rfl⟩

theorem Is_W (hW : IsW w p M F) {r : Int} (hr : (Lit.int .i64 r).wf = true) : Calls Tryz.prog 23 #[.pointer (some ⟨p, 0, none⟩), .int .i64 r] w fun e w' => e = .returned (.bool (M.at r).isSome) ∧ w = w' := by
  have hn := none_W hW
  obtain ⟨pa, pc, cg, cc, mg, mc, tb, fb, fn, bl, h⟩ := hW
  have c2 := h.c2
  have hl := h.look hr
  cases ha : M.at r with
  | none =>
    rw [ha] at hl
    simp only [Option.map_none] at hl
    go_enter Tryz.func23, Tryz.ntmps23
    go_wp2_with (go_at_call 46; refine hn.mono ?_; rintro e w' ⟨rfl, rfl⟩)
    go_ret
    exact ⟨rfl, rfl⟩
  | some t =>
    rw [ha] at hl
    simp only [Option.map_some] at hl
    go_enter Tryz.func23, Tryz.ntmps23
    go_wp2_with (go_at_call 46; refine hn.mono ?_; rintro e w' ⟨rfl, rfl⟩)
    go_ret
    exact ⟨rfl, rfl⟩

theorem thc_cell {w : World} {b : Nat} {t : Th} (h : w.heap[b]? = some (.cells (thc t) 73 (0, 0))) :
    w.cell? ⟨b, 0, none⟩ = some (.int .u8 t.kind) ∧ w.cell? ⟨b, 1, none⟩ = some (.int .i64 t.home) ∧ w.cell? ⟨b, 8, none⟩ = some (.int .i64 t.n) ∧ w.cell? ⟨b, 9, none⟩ = some (.int .i64 t.lost) ∧
    w.cell? ⟨b, 10, none⟩ = some (.int .i64 t.tgt) ∧ w.cell? ⟨b, 11, none⟩ = some (.int .i64 t.bi) ∧ w.cell? ⟨b, 12, none⟩ = some (.int .u8 t.set) ∧ w.cell? ⟨b, 13, none⟩ = some (.bool t.full) :=
  ⟨by rw [cell_blk h]; rfl, by rw [cell_blk h]; rfl, by rw [cell_blk h]; rfl, by rw [cell_blk h]; rfl, by rw [cell_blk h]; rfl, by rw [cell_blk h]; rfl, by rw [cell_blk h]; rfl, by rw [cell_blk h]; rfl⟩

def WM.kindOf (M : WM) (r : Int) : Int := ((M.at r).map Th.kind).getD 0

theorem Kind_W (hW : IsW w p M F) {r : Int} (hr : (Lit.int .i64 r).wf = true) : Calls Tryz.prog 64 #[.pointer (some ⟨p, 0, none⟩), .int .i64 r] w fun e w' => e = .returned (.int .u8 (M.kindOf r)) ∧ w = w' := by
  have hn := Is_W hW hr
  obtain ⟨pa, pc, cg, cc, mg, mc, tb, fb, fn, bl, h⟩ := hW
  have c2 := h.c2
  have hl := h.look hr
  cases ha : M.at r with
  | none =>
    rw [ha] at hn
    go_enter Tryz.func64, Tryz.ntmps64
    go_wp2_with (go_at_call 23; refine hn.mono ?_; rintro e w' ⟨rfl, rfl⟩)
    go_ret
    exact ⟨by simp [WM.kindOf, ha], rfl⟩
  | some t =>
    rw [ha] at hl hn
    simp only [Option.map_some] at hl
    obtain ⟨k0, k1, -, -, k6, k7, k8, k9⟩ := thc_cell (h.blk r t ha).1
    go_enter Tryz.func64, Tryz.ntmps64
    go_wp2_with (go_at_call 23; refine hn.mono ?_; rintro e w' ⟨rfl, rfl⟩)
    go_ret
    exact ⟨by simp [WM.kindOf, ha], rfl⟩

def WM.homeOf (M : WM) (r : Int) : Int := match M.at r with | some t => if t.kind = 14 then 0 else t.home | none => 0
def WM.hasHome (M : WM) (r : Int) : Bool := match M.at r with | some t => !decide (t.kind = 14) | none => false
theorem Home_W (hW : IsW w p M F) {r : Int} (hr : (Lit.int .i64 r).wf = true) : Calls Tryz.prog 29 #[.pointer (some ⟨p, 0, none⟩), .int .i64 r] w fun e w' =>
    e = .returned (.tuple #[.int .i64 (M.homeOf r), .bool (M.hasHome r)]) ∧ w = w' := by
  have hn := Is_W hW hr
  obtain ⟨pa, pc, cg, cc, mg, mc, tb, fb, fn, bl, h⟩ := hW
  have c2 := h.c2
  have hl := h.look hr
  cases ha : M.at r with
  | none =>
    rw [ha] at hn
    go_enter Tryz.func29, Tryz.ntmps29
    go_wp2_with (go_at_call 23; refine hn.mono ?_; rintro e w' ⟨rfl, rfl⟩)
    go_ret2
    exact ⟨by simp [WM.homeOf, WM.hasHome, ha], rfl⟩
  | some t =>
    rw [ha] at hl hn
    simp only [Option.map_some] at hl
    obtain ⟨k0, k1, -, -, -, -, -, -⟩ := thc_cell (h.blk r t ha).1
    by_cases hk : t.kind = 14
    · have H : Hid (t.kind = 14) := hk
      have hk' : (t.kind == 14) = true := by simp [hk]
      clear hk
      go_enter Tryz.func29, Tryz.ntmps29
      go_wp2_with (go_at_call 23; refine hn.mono ?_; rintro e w' ⟨rfl, rfl⟩)
      go_ret2
      exact ⟨by simp [WM.homeOf, WM.hasHome, ha, H.out], rfl⟩
    · have H : Hid (¬ t.kind = 14) := hk
      have hk' : (t.kind == 14) = false := by simp [hk]
      clear hk
      go_enter Tryz.func29, Tryz.ntmps29
      go_wp2_with (go_at_call 23; refine hn.mono ?_; rintro e w' ⟨rfl, rfl⟩)
      go_ret2
      exact ⟨by simp [WM.homeOf, WM.hasHome, ha, H.out], rfl⟩




end

theorem asksBy_W (k : Int) (w : World) : Calls Tryz.prog 50 #[.int .u8 k] w fun e w' => e = .returned (.bool (k == 15 || k == 16)) ∧ w = w' := by
  by_cases h1 : k = 15
  · subst h1
    go_enter Tryz.func50, Tryz.ntmps50
    go_wp2
    go_ret
    exact ⟨rfl, rfl⟩
  · have h1 : (k == 15) = false := by simp [h1]
    go_enter Tryz.func50, Tryz.ntmps50
    go_wp2
    go_ret
    exact ⟨by simp [h1], rfl⟩
theorem wraps_W (k : Int) (w : World) : Calls Tryz.prog 90 #[.int .u8 k] w fun e w' => e = .returned (.bool (wrapsB k)) ∧ w = w' := by
  by_cases h1 : k = 14
  · subst h1
    go_enter Tryz.func90, Tryz.ntmps90
    go_wp2
    go_ret
    exact ⟨rfl, rfl⟩
  · have h1 : (k == 14) = false := by simp [h1]
    by_cases h2 : k = 15
    · subst h2
      go_enter Tryz.func90, Tryz.ntmps90
      go_wp2
      go_ret
      exact ⟨rfl, rfl⟩
    · have h2 : (k == 15) = false := by simp [h2]
      go_enter Tryz.func90, Tryz.ntmps90
      go_wp2
      go_ret
      exact ⟨by simp [wrapsB, h1, h2], rfl⟩
def asksOfB (k : Int) : Bool := k == 6 || k == 7 || k == 9 || k == 11 || wrapsB k
end Go.Proofs.YtifmifjbebpomaaGreatDoor
