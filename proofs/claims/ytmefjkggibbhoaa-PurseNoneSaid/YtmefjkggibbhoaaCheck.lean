/- Check: no mint has lost anything. -/
import Derived.Test.YtmefjkggibbhoaaSum
namespace Go.Proofs.Ytmefjkggibbhoaa
open Go.RowKit Go.Shelf Go.ChangeMaps Go.MapKept
attribute [local go_sem] Oper.semAt_some

/-- Between two rounds of Check. -/
structure CkAt (w : World) (b0 : Nat) (p : Nat) (W : World) : Prop where
  below : Below w.heap.size w W
  size : b0 ≤ W.heap.size
  q1 : W.heap[w.heap.size]? = some (.cells #[.pointer (some ⟨p, 0, none⟩)] 25 (0, 0))
  q2 : W.heap[w.heap.size + 1]? = some (.cells #[.int .i64 0] 26 (0, 0))
theorem CkAt.grown {w W W' : World} {b0 p : Nat} {row : Option Nat} (h : CkAt w b0 p W) (hb0 : w.heap.size + 2 ≤ b0) (hg : W.grownBy W' row) (hr : ∀ x, row = some x → b0 ≤ x) : CkAt w b0 p W' := by
  have hk : ∀ c, c < b0 → c < W.heap.size → W'.heap[c]? = W.heap[c]? := fun c hc hl => hg.block c hl (fun e => by have := hr c e.symm; omega)
  exact ⟨h.below.grown hg h.below.size (fun k e => by have := hr k e; omega), Nat.le_trans h.size hg.size, (hk _ (by omega) (blk_lt h.q1)).trans h.q1, (hk _ (by omega) (blk_lt h.q2)).trans h.q2⟩

set_option maxHeartbeats 4000000 in
set_option maxRecDepth 100000 in
theorem Check_W {w : World} {p : Nat} {M : WM} {F : Nat → Prop} (hW : IsW w p M F)
    (hP : ∀ x ∈ M.things, x.2.kind = 9 → ∃ h n m, x.2 = purseT h n m ∧ 0 ≤ n)
    (hT : ∀ x ∈ M.things, x.2.kind = 8 → ∃ h N lo, x.2 = mintT h N lo ∧ N - lo = sumF (M.things.filter (isP x.1))) :
    Calls Try.prog 44 #[.pointer (some ⟨p, 0, none⟩)] w fun e w' => e = .returned (.int .i64 0) ∧ Below w.heap.size w w' := by
  have HW := (show Hid (IsW w p M F) from hW)
  have HP := (show Hid _ from hP)
  have HT := (show Hid _ from hT)
  clear hW hP hT
  refine (callsIn_wide (n := 5)).1 ?_
  refine callsIn_of_wp_marks Try.func44 rfl trivial ?_ rfl
  simp only [Try.ntmps44, List.size_toArray, List.length_cons, List.length_nil, Nat.reduceAdd, Nat.reduceSub, Array.replicate_succ, Array.replicate_zero, List.push_toArray, List.append_toArray, List.nil_append, List.cons_append]
  gi_wp2_with fail
  have hB1 : Below w.heap.size w ((w.alloc (.cells #[.pointer (some ⟨p, 0, none⟩)] 25)).alloc (.cells #[.int .i64 0] 26)) := ((Below.refl _ w).alloc (Nat.le_refl _) _).alloc (by simp) _
  have q1 := blk2_old w (.cells #[.pointer (some ⟨p, 0, none⟩)] 25) (.cells #[.int .i64 0] 26)
  have q2 := blk2_new w (.cells #[.pointer (some ⟨p, 0, none⟩)] 25) (.cells #[.int .i64 0] 26)
  have hs1 : ((w.alloc (.cells #[.pointer (some ⟨p, 0, none⟩)] 25)).alloc (.cells #[.int .i64 0] 26)).heap.size = w.heap.size + 2 := by simp
  generalize (w.alloc (.cells #[.pointer (some ⟨p, 0, none⟩)] 25)).alloc (.cells #[.int .i64 0] 26) = w1 at *
  refine ⟨trivial, (callsIn_wide.2 (Sides_W (HW.out.below hB1))).mono ?_⟩
  rintro e _ ⟨rfl, rfl⟩
  have hmd : ((M.made.length : Int) == 0) = false := by
    have := HW.out.ok.made
    exact beq_eq_false_iff_ne.2 (by omega)
  have c1 : w1.cell? ⟨w.heap.size, 0, none⟩ = some (.pointer (some ⟨p, 0, none⟩)) := by rw [cell_blk q1]; rfl
  have HQ := (show Hid _ from And.intro q1 q2)
  have HB1 := (show Hid (Below w.heap.size w w1 ∧ w1.heap.size = w.heap.size + 2) from ⟨hB1, hs1⟩)
  clear q1 q2 hB1 hs1
  gi_wp2_with fail
  refine ⟨trivial, (callsIn_wide.2 (Things_W w1 p)).mono ?_⟩
  rintro e _ ⟨rfl, rfl⟩
  gi_wp2_with fail
  obtain ⟨hq1, hq2⟩ := HQ.out
  have HB4 : Hid (Below w.heap.size w (w1.alloc (.cells #[.pointer (some ⟨p, 0, none⟩)] 25))) := HB1.out.1.alloc HB1.out.1.size _
  have hbx : (w1.alloc (.cells #[.pointer (some ⟨p, 0, none⟩)] 25)).cell? ⟨w1.heap.size, 0, none⟩ = some (.pointer (some ⟨p, 0, none⟩)) := by
    rw [cell_blk (World.alloc_heap_new w1 _)]; rfl
  have hin : CkAt w (w1.alloc (.cells #[.pointer (some ⟨p, 0, none⟩)] 25)).heap.size p (w1.alloc (.cells #[.pointer (some ⟨p, 0, none⟩)] 25)) :=
    ⟨HB4.out, Nat.le_refl _, (Below.heap_alloc _ _ _ (blk_lt hq1)).trans hq1, (Below.heap_alloc _ _ _ (blk_lt hq2)).trans hq2⟩
  have hsz4 : w.heap.size + 2 ≤ (w1.alloc (.cells #[.pointer (some ⟨p, 0, none⟩)] 25)).heap.size := by
    have := HB1.out.2
    simp
    omega
  have hseq := things1_seq (n := 4) (HW.out.below HB4.out) hbx (fun _ _ => False) (fun _ _ _ h => h.elim) (fun y : {x // x ∈ M.things} => y.1) M.things.attach (List.attach_map_subtype_val _)
  have HSQ := (show Hid _ from hseq)
  clear hseq hbx c1 hq1 hq2 HQ HB1
  generalize hw4 : w1.alloc (.cells #[.pointer (some ⟨p, 0, none⟩)] 25) = w4 at *
  clear hw4
  generalize w1.heap.size = bx at *
  refine wpIn_rangeFunc_ownF rfl (by decide) (gf := 100) (lb := #[.pointer (some ⟨bx, 0, none⟩)]) rfl trivial (enters_of Try.func100 (by kernel_rfl) rfl) HSQ.out (fun h k => h.trans k)
    (fun W l o o' hl ho hc _ => ⟨by simp, fun b cs e fr hb _ => (World.putObj_heap_other (fun h => by subst h; rw [hb] at ho; cases ho; cases hc)).trans hb, fun _ h => h.elim⟩) (Below.refl _ _) (fun _ => rfl)
    (fun (_ : List {x // x ∈ M.things}) W => CkAt w w4.heap.size p W) (fun _ _ _ => False)
    (fun s W W' row hs hg hr => by exact CkAt.grown hs hsz4 hg (fun x e => (hr x e).1)) (fun _ _ _ _ _ hs _ _ => hs) hin
    (fun x => { tmps := #[.pointer (some ⟨p, 0, none⟩), .pointer (some ⟨w.heap.size, 0, none⟩), .pointer (some ⟨w.heap.size + 1, 0, none⟩), .int .i64 x.1.1, .int .u8 x.1.2.kind, undef, undef, undef, undef, .pointer (some ⟨p, 0, none⟩), .bool false, .bool false, .pointer (some ⟨p, 0, none⟩), .int .i64 M.made.length, .bool false, .bool false, .pointer (some ⟨p, 0, none⟩), .func (.func 100) #[] #[.pointer (some ⟨bx, 0, none⟩)], .int .i64 x.1.1, .int .u8 x.1.2.kind, undef, undef, undef, undef, undef, undef, undef, undef, undef, undef, undef, undef, undef, undef, undef], defers := [] }) ?assign ?body ?done ?stop
  case assign =>
    intro l x W K hK
    gi_wp2
    exact hK
  case body =>
    rintro l pre ⟨⟨i, t⟩, hm⟩ W hI -
    have hat : M.at i = some t := HW.out.ok.at_of_mem hm
    have hiw := HW.out.ok.at_wf hat
    by_cases hk : t.kind = 8
    · obtain ⟨h', n', lo', rfl, hsum⟩ := HT.out (i, t) hm hk
      have hsm := Sum_W (HW.out.below hI.below) hiw hat HP.out
      have hbd := sumF_le (M.things.filter (isP i)) (fun y hy => by
        obtain ⟨h1, h2⟩ := List.mem_filter.1 hy
        have h3 : y.2.kind = 9 := by simp only [isP, Bool.and_eq_true, decide_eq_true_eq] at h2; exact h2.1
        obtain ⟨a, b, c, e, hn⟩ := HP.out y h1 h3
        rw [e]
        exact hn)
      replace hsum : n' - lo' = sumF (M.things.filter (isP i)) := hsum
      generalize sumF (M.things.filter (isP i)) = S at *
      have HSM := (show Hid _ from hsm)
      have HI := (show Hid _ from hI)
      have c1 : W.cell? ⟨w.heap.size, 0, none⟩ = some (.pointer (some ⟨p, 0, none⟩)) := by rw [cell_blk hI.q1]; rfl
      have hwr : wrap64 (n' - lo') = S := by rw [hsum]; unfold wrap64; omega
      clear hsm hI hk hsum hbd
      gi_wp2_with fail
      refine ⟨trivial, (CallsIn.inRound l (callsIn_wide.2 HSM.out)).mono ?_⟩
      rintro e W1 ⟨rfl, hb1⟩
      gi_wp2_with fail
      exact ⟨keepsOthers_of_below hb1, ⟨hb1.size, fun b cs e fr hb _ => (hb1.block b (blk_lt hb)).trans hb, fun _ h => h.elim⟩, CkAt.grown HI.out hsz4 (grownBy_of_below hb1) (fun _ e => by cases e)⟩
    · have hk0 : (t.kind != 8) = true := by simpa using hk
      have HI := (show Hid _ from hI)
      clear hI
      gi_wp2_with fail
      exact ⟨keepsOthers_of_below (Below.refl _ _), KpO.refl _ _, HI.out⟩
  case done =>
    rintro D ys W hD rfl hI hK
    obtain ⟨c2, f2⟩ := box_facts hI.q2
    have HI := (show Hid _ from hI)
    clear hI
    gi_wp2_with fail
    have hne : w.heap.size + 1 ≠ D := by omega
    have hK' : (W.setCell ⟨w.heap.size + 1, 0, none⟩ (.int .i64 0)).heap[D]? = some (.deferred (some [])) := (Below.heap_setCell _ _ _ _ (fun e => hne e.symm)).trans hK
    have hs := heap_setCell_box (.int .i64 0) HI.out.q2
    have c5 : ((W.setCell ⟨w.heap.size + 1, 0, none⟩ (.int .i64 0)).putObj D (.deferred none)).cell? ⟨w.heap.size + 1, 0, none⟩ = some (.int .i64 0) := by
      rw [cell_blk ((World.putObj_heap_other hne).trans hs)]; rfl
    refine ⟨by simp, .inl ⟨_, _, rfl, run_takeDeferred hK', ?_⟩⟩
    refine ⟨.int .i64 0, ?_, rfl, (HI.out.below.setCell (p := ⟨w.heap.size + 1, 0, none⟩) (Nat.le_succ _) _).grown (grownBy_putObj' _ D _) ?_ (fun k e => by cases e; omega)⟩
    · simp [results, Try.f44, go_sem, c5]
    · have := HI.out.below.size
      simpa [World.setCell] using this
  case stop =>
    rintro D c pre W _ _ h _
    exact h.elim
end Go.Proofs.Ytmefjkggibbhoaa
