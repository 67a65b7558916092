/- Walls: Cut, Islands, of one world. -/
import Derived.Test.YtifmifjbebpomaaGreatDoorWaB
import Derived.Test.YtifmifjbebpomaaGreatDoorWalkE
import Derived.RangeFuncBox
namespace Go.Proofs.YtifmifjbebpomaaGreatDoor
open Go.RowKit Go.Shelf Go.ChangeMaps Go.MapKept
variable {w : World} {p : Nat} {M : WM} {F : Nat → Prop}

set_option maxRecDepth 8000 in
/-- One edge is cut. -/
theorem wCut_one {b c n : Nat} (hW : IsW w p M F) (h0 : 0 < n) (hn : n < M.made.length) (d0 : w.cell? ⟨b, 0, none⟩ = some (.int .i64 n)) :
    Calls Tryz.prog 15 #[.pointer (some ⟨p, 0, none⟩), .slice (some ⟨b, 0, none⟩) 1 c] w fun e w' => e = .returned (.int .i64 0) ∧ IsW w' p (M.cutE n) F ∧ Keeps F w w' := by
  have h1 := wthere_W hW
  have h2 := Sides_W hW
  have h3 := CutEdge_W hW n h0 hn
  have e1 : ¬ ((n : Int) < 1) := by omega
  have e2 : ¬ ((n : Int) ≥ (M.made.length : Int)) := by omega
  go_enter Tryz.func15, Tryz.ntmps15
  go_wp2_with fail
  refine h1.mono ?_
  rintro e _ ⟨rfl, rfl⟩
  go_wp2_with fail
  refine wp_loop_rounds 2 ?_
  rw [rounds_succ]
  go_wp2_with fail
  refine h2.mono ?_
  rintro e _ ⟨rfl, rfl⟩
  go_wp2_with fail
  rw [rounds_succ]
  go_wp2_with fail
  refine wp_loop_rounds 2 ?_
  rw [rounds_succ]
  go_wp2_with fail
  refine h3.mono ?_
  rintro e w1 ⟨rfl, k1, k2, -⟩
  have H := (show Hid (IsW w1 p (M.cutE n) F ∧ Keeps F w w1) from ⟨k1, k2⟩)
  have d0' : w1.cell? ⟨b, 0, none⟩ = w1.cell? ⟨b, 0, none⟩ := rfl
  clear k1 k2 d0'
  go_wp2_with fail
  rw [rounds_succ]
  go_wp2_with fail
  go_ret
  exact ⟨rfl, H.out⟩

theorem infoLSide : (Tryz.prog.info? 32).map (fun i => (i.zero, i.size, i.bytes)) = some (some (.slice none 0 0), 1, 24) := by kernel_rfl
theorem infoSide' : (Tryz.prog.info? 23).map (fun i => (i.zero, i.size, i.bytes)) = some (some (.int .i64 0), 1, 8) := by kernel_rfl
/-- One island, while they are told. -/
structure IslAt (w W : World) (g c : Nat) (s0 : Value) (xs : List Int) : Prop where
  below : Below w.heap.size w W
  row : W.ownsRow w.heap.size 32 1 (.slice (some ⟨g, 0, none⟩) 1 c) 1 [s0]
  row0 : W.ownsRow w.heap.size 23 1 s0 xs.length (xs.map (Value.int .i64))
theorem row_apart {w : World} {base base' n n' : Nat} {e e' : TypeId} {v v' : Value} {xs xs' : List Value} (hne : e ≠ e') (h : w.ownsRow base e 1 v n xs) (h' : w.ownsRow base' e' 1 v' n' xs') : v.ownBlock = none ∨ v.ownBlock ≠ v'.ownBlock := by
  rcases h.2 with ⟨rfl, _⟩ | ⟨g, cap, cur, rfl, _, hg, _⟩
  · exact .inl rfl
  · rcases h'.2 with ⟨rfl, _⟩ | ⟨g', cap', cur', rfl, _, hg', _⟩
    · exact .inr (by simp [Value.ownBlock])
    · refine .inr fun e0 => ?_
      simp only [Value.ownBlock, Option.some.injEq] at e0
      subst e0
      rw [hg] at hg'
      cases hg'
      exact hne rfl
theorem IslAt.push {W W' : World} {g c : Nat} {s0 s1 : Value} {xs : List Int} {x : Int} (h : IslAt w W g c s0 xs) (r1 : W'.ownsRow w.heap.size 23 1 s1 (xs.length + 1) (xs.map (Value.int .i64) ++ [.int .i64 x])) (r2 : W.grownBy W' s0.ownBlock) :
    IslAt w (W'.setCell ⟨g, 0, none⟩ s1) g c s1 (xs ++ [x]) := by
  have hr := h.row.kept r2 (row_apart (by decide) h.row h.row0)
  have hap := row_apart (by decide) r1 hr
  have hg0 := (h.row.lt g rfl)
  have hb : Below w.heap.size w W' := h.below.grown r2 h.below.size (fun k e => (h.row0.lt k e).1)
  refine ⟨hb.setCell hg0.1 _, ?_, ?_⟩
  · rcases hr.2 with ⟨h1, _⟩ | ⟨g', cap, cur, he, h1, h2, h3, h4, h5, h6⟩
    · cases h1
    · cases he
      refine ⟨rfl, .inr ⟨g, c, _, rfl, h1, blk_setCell h2 0 s1, h3, h4, by simpa using h5, ?_⟩⟩
      have hc : 0 < cur.size := by rw [h5]; omega
      obtain ⟨a, r, hl⟩ : ∃ a r, cur.toList = a :: r := by
        cases hcl : cur.toList with
        | nil =>
          have h7 : cur.toList.length = 0 := by rw [hcl]; rfl
          rw [Array.length_toList] at h7
          omega
        | cons a r => exact ⟨a, r, rfl⟩
      simp [hl]
  · have := r1.kept (grownBy_setCell' W' g s1) (by
      rcases hap with h | h
      · exact .inl h
      · exact .inr (fun e => h (e.trans rfl)))
    simpa using this
theorem IslAt.facts {W : World} {g c a n k : Nat} {xs : List Int} (h : IslAt w W g c (.slice (some ⟨a, 0, none⟩) n k) (0 :: xs)) : W.cell? ⟨g, 0, none⟩ = some (.slice (some ⟨a, 0, none⟩) n k) ∧ W.cell? ⟨a, 0, none⟩ = some (.int .i64 0) ∧ 0 < n := by
  have hn : n = xs.length + 1 := by
    rcases h.row0.2 with ⟨h1, _⟩ | ⟨g', cap, cur, h1, _⟩
    · cases h1
    · cases h1; rfl
  subst hn
  refine ⟨h.row.cellAt 0 (by decide), ?_, by omega⟩
  have := h.row0.cellAt 0 (by simp)
  rw [this]
  rfl
theorem IslAt.outCell {W W' : World} {g c : Nat} {s0 : Value} {xs : List Int} (h : IslAt w W g c s0 xs) (r2 : W.grownBy W' s0.ownBlock) : W'.cell? ⟨g, 0, none⟩ = some s0 ∧ W'.frozen? ⟨g, 0, none⟩ = false := by
  have hr := h.row.kept r2 (row_apart (by decide) h.row h.row0)
  refine ⟨hr.cellAt 0 (by decide), ?_⟩
  rcases hr.2 with ⟨h1, _⟩ | ⟨g', cap, cur, he, h1, h2, _⟩
  · cases h1
  · cases he
    exact frozen_blk h2 0
set_option maxHeartbeats 4000000 in
set_option maxRecDepth 8000 in
/-- Four sides, three of them on one island. -/
theorem wIslands_aw (hW : IsW w p M F) (h4 : M.made.length = 4) (o1 : M.openB 0 1 = true) (o2 : M.openB 0 2 = true) (o3 : M.openB 0 3 = false) :
    Calls Tryz.prog 14 #[.pointer (some ⟨p, 0, none⟩)] w fun e w' => ∃ a c, e = .returned (.slice a 2 c) ∧ Below w.heap.size w w' := by
  have HW := (show Hid (IsW w p M F) from hW)
  have H1 := wthere_W hW
  have H2 := Sides_W hW
  rw [h4] at H2
  have HO := (show Hid (∀ W, Below w.heap.size w W → ∀ b, (b = 1 ∨ b = 2) → Calls Tryz.prog 41 #[.pointer (some ⟨p, 0, none⟩), .int .i64 0, .int .i64 b] W fun e w' => e = .returned (.bool true) ∧ W = w') from fun W hb b hbb => by
    have := Open_W (hW.below hb) 0 b
    rcases hbb with rfl | rfl
    · rwa [o1] at this
    · rwa [o2] at this)
  have HO3 := (show Hid (∀ W, Below w.heap.size w W → Calls Tryz.prog 41 #[.pointer (some ⟨p, 0, none⟩), .int .i64 0, .int .i64 3] W fun e w' => e = .returned (.bool false) ∧ W = w') from fun W hb => by
    have := Open_W (hW.below hb) 0 3
    rwa [o3] at this)
  clear hW h4 o1 o2 o3
  go_enter Tryz.func14, Tryz.ntmps14
  go_wp2_with fail
  go_step3
  go_wp2_with fail
  refine H1.mono ?_
  rintro e _ ⟨rfl, rfl⟩
  go_wp2_with fail
  go_step3
  go_wp2_with fail
  refine H2.mono ?_
  rintro e _ ⟨rfl, rfl⟩
  go_wp2_with fail
  refine wp_loop_rounds 5 ?_
  rw [rounds_succ]
  go_wp2_with fail
  refine wp_loop_rounds 1 ?_
  rw [rounds_succ]
  have HN0 : ((0 : Nat) : Int) ≤ 1099511627777 := by decide
  have hzA : w.heap.size ≤ (w.alloc (.cells #[.int .i64 0] 23)).heap.size := by simp
  go_wp2_with (at_builtin; refine append_one rfl _ _ 58 rfl w.heap.size 32 (.slice none 0 0) 24 Tryz.underlying58 infoLSide rfl (.slice none 0 0) 0 [] rfl (World.ownsRow_nil _ _ _ _) (.slice (some ⟨w.heap.size, 0, none⟩) 1 1) (by rw [World.size_alloc]; rfl) rfl HN0 (by decide) hzA ?_; intro v1 w1 r1 r2 r3)
  obtain ⟨g, c, rfl⟩ : ∃ g c, v1 = .slice (some ⟨g, 0, none⟩) 1 c := by
    rcases r1.2 with ⟨_, h⟩ | ⟨g, cap, cur, h, _⟩
    · cases h
    · exact ⟨g, cap, h⟩
  have HI1 : Hid (IslAt w w1 g c (.slice (some ⟨w.heap.size, 0, none⟩) 1 1) [0]) := by
    refine ⟨((Below.refl _ _).alloc (Nat.le_refl _) _).trans r3, r1, rfl, .inr ⟨w.heap.size, 1, #[.int .i64 0], rfl, Nat.le_refl _, ?_, Nat.le_refl _, by decide, rfl, rfl⟩⟩
    exact (r2.block _ (by simp) (fun e => by cases e)).trans (blk_new w _)
  have Hs1 : Hid (∃ a n k, Value.slice (some ⟨w.heap.size, 0, none⟩) 1 1 = .slice (some ⟨a, 0, none⟩) n k) := ⟨_, _, _, rfl⟩
  clear r1 r2 r3 HN0 hzA
  rw [rounds_succ]
  go_wp2_with fail
  refine wp_loop_rounds 1 ?_
  rw [rounds_succ]
  obtain ⟨k11, k12, k13⟩ := HI1.out.facts
  go_wp2_with fail
  refine (HO.out _ HI1.out.below 1 (by decide)).mono ?_
  rintro e _ ⟨rfl, rfl⟩
  have HN1 : ((1 : Nat) : Int) ≤ 1099511627777 := by decide
  have hz1 : w.heap.size ≤ w1.heap.size := HI1.out.below.size
  have hr1 := HI1.out.row0
  go_wp2_with (at_builtin; refine append_one rfl _ _ 32 rfl w.heap.size 23 (.int .i64 0) 8 Tryz.underlying32 infoSide' rfl (.slice (some ⟨w.heap.size, 0, none⟩) 1 1) 1 _ rfl hr1 (.int .i64 1) rfl rfl HN1 (by decide) hz1 ?_; intro v2 x2 r1 r2 r3
               obtain ⟨c2, f2⟩ := HI1.out.outCell r2
               obtain ⟨a2, n2, k2, rfl⟩ : ∃ a n k, v2 = .slice (some ⟨a, 0, none⟩) n k := by
                 rcases r1.2 with ⟨_, h⟩ | ⟨g, cap, cur, h, _⟩
                 · cases h
                 · exact ⟨g, _, cap, h⟩)
  have HI2 : Hid (IslAt w (x2.setCell ⟨g, 0, none⟩ (.slice (some ⟨a2, 0, none⟩) n2 k2)) g c (.slice (some ⟨a2, 0, none⟩) n2 k2) ([0] ++ [1])) := HI1.out.push r1 r2
  clear r1 r2 r3 HN1 hz1 hr1 k11 k12 k13 c2 f2 HI1
  revert HI2
  generalize World.setCell _ _ _ = w2
  intro HI2
  rw [rounds_succ]
  go_wp2_with fail
  refine wp_loop_rounds 1 ?_
  rw [rounds_succ]
  obtain ⟨k21, k22, k23⟩ := HI2.out.facts
  go_wp2_with fail
  refine (HO.out _ HI2.out.below 2 (by decide)).mono ?_
  rintro e _ ⟨rfl, rfl⟩
  have HN2 : ((2 : Nat) : Int) ≤ 1099511627777 := by decide
  have hz2 : w.heap.size ≤ w2.heap.size := HI2.out.below.size
  have hr2 := HI2.out.row0
  go_wp2_with (at_builtin; refine append_one rfl _ _ 32 rfl w.heap.size 23 (.int .i64 0) 8 Tryz.underlying32 infoSide' rfl (.slice (some ⟨a2, 0, none⟩) n2 k2) 2 _ rfl hr2 (.int .i64 2) rfl rfl HN2 (by decide) hz2 ?_; intro v3 x3 r1 r2 r3
               obtain ⟨c3, f3⟩ := HI2.out.outCell r2
               obtain ⟨a3, n3, k3, rfl⟩ : ∃ a n k, v3 = .slice (some ⟨a, 0, none⟩) n k := by
                 rcases r1.2 with ⟨_, h⟩ | ⟨g, cap, cur, h, _⟩
                 · cases h
                 · exact ⟨g, _, cap, h⟩)
  have HI3 : Hid (IslAt w (x3.setCell ⟨g, 0, none⟩ (.slice (some ⟨a3, 0, none⟩) n3 k3)) g c (.slice (some ⟨a3, 0, none⟩) n3 k3) ([0, 1] ++ [2])) := HI2.out.push r1 r2
  clear r1 r2 r3 HN2 hz2 hr2 k21 k22 k23 c3 f3 HI2
  revert HI3
  generalize World.setCell _ _ _ = w3
  intro HI3
  rw [rounds_succ]
  go_wp2_with fail
  refine wp_loop_rounds 2 ?_
  rw [rounds_succ]
  obtain ⟨k31, k32, k33⟩ := HI3.out.facts
  go_wp2_with fail
  refine (HO3.out _ HI3.out.below).mono ?_
  rintro e _ ⟨rfl, rfl⟩
  go_wp2_with fail
  rw [rounds_succ]
  have HN3 : ((1 : Nat) : Int) ≤ 1099511627777 := by decide
  have hz3 : w.heap.size ≤ (w3.alloc (.cells #[.int .i64 3] 23)).heap.size := by have := HI3.out.below.size; simp; omega
  have hr3 := HI3.out.row.alloc (.cells #[.int .i64 3] 23)
  go_wp2_with (at_builtin; refine append_one rfl _ _ 58 rfl w.heap.size 32 (.slice none 0 0) 24 Tryz.underlying58 infoLSide rfl (.slice (some ⟨g, 0, none⟩) 1 c) 1 _ rfl hr3 (.slice (some ⟨w3.heap.size, 0, none⟩) 1 1) (by rw [World.size_alloc]; rfl) rfl HN3 (by decide) hz3 ?_; intro v4 x4 r1 r2 r3)
  have HB4 : Hid (Below w.heap.size w x4) := (HI3.out.below.alloc HI3.out.below.size _).trans r3
  obtain ⟨a4, c4, rfl⟩ : ∃ a c, v4 = .slice a 2 c := by
    rcases r1.2 with ⟨_, h⟩ | ⟨g, cap, cur, h, _⟩
    · cases h
    · exact ⟨_, cap, h⟩
  clear r1 r2 r3
  rw [rounds_succ]
  go_wp2_with fail
  rw [Exit.noGoto_ret]
  go_ret
  exact ⟨_, _, rfl, HB4.out⟩
end Go.Proofs.YtifmifjbebpomaaGreatDoor
