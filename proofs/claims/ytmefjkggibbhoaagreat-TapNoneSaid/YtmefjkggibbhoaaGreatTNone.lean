/- Taps over worlds that are not there: what each call answers. -/
import Derived.Test.YtmefjkggibbhoaaGreatNoW
import Derived.Test.YtmefjkggibbhoaaGreatTap
import Derived.RangeFuncLeaves
import Derived.RangeFuncNested
import Derived.TacticsInMore
import Derived.BigRegion
namespace Go.Proofs.YtmefjkggibbhoaaGreat
open Go.RowKit Go.ChangeMaps Go.MapKept

set_option maxRecDepth 8000 in
theorem tSides_no {w : World} {v : Value} (hv : NoW w v) : Calls Tryz.prog 52 #[v] w fun e w' => e = .returned (.int .i64 0) ∧ w = w' := by
  have HN := (show Hid _ from none_no hv)
  clear hv
  go_enter Tryz.func52, Tryz.ntmps52
  go_wp2_with fail
  refine Calls.mono HN.out ?_
  rintro e _ ⟨rfl, rfl⟩
  go_wp2_with fail
  go_ret
  exact ⟨rfl, rfl⟩

set_option maxRecDepth 8000 in
theorem tmay_no {w : World} {v : Value} (hv : NoW w v) (s r : Int) : Calls Tryz.prog 47 #[v, .int .i64 s, .int .i64 r] w fun e w' => e = .returned (.int .i64 1) ∧ w = w' := by
  have HS := (show Hid _ from tSides_no hv)
  rcases hv with rfl | ⟨b, rfl, -⟩
  · go_enter Tryz.func47, Tryz.ntmps47
    go_wp2_with fail
    go_ret
    exact ⟨rfl, rfl⟩
  · go_enter Tryz.func47, Tryz.ntmps47
    go_wp2_with fail
    refine Calls.mono HS.out ?_
    rintro e _ ⟨rfl, rfl⟩
    go_wp2_with fail
    go_ret
    exact ⟨rfl, rfl⟩

set_option maxRecDepth 8000 in
theorem tWith_no {w : World} {v : Value} (hv : NoW w v) (s r n : Int) : Calls Tryz.prog 17 #[v, .int .i64 s, .int .i64 r, .int .i64 n] w fun e w' => e = .returned (.tuple #[.int .i64 0, .int .i64 1]) ∧ w = w' := by
  have HS := (show Hid _ from tmay_no hv s r)
  clear hv
  go_enter Tryz.func17, Tryz.ntmps17
  go_wp2_with fail
  refine Calls.mono HS.out ?_
  rintro e _ ⟨rfl, rfl⟩
  go_wp2_with fail
  go_ret2
  exact ⟨rfl, rfl⟩

set_option maxRecDepth 8000 in
theorem twalk_no {w : World} {v : Value} (hv : NoW w v) (r : Int) (f : Value) : Calls Tryz.prog 36 #[v, .int .i64 r, f] w fun e w' => e = .returned (.int .i64 1) ∧ w = w' := by
  have HS := (show Hid _ from tSides_no hv)
  rcases hv with rfl | ⟨b, rfl, -⟩
  · go_enter Tryz.func36, Tryz.ntmps36
    go_wp2_with fail
    go_ret
    exact ⟨rfl, rfl⟩
  · go_enter Tryz.func36, Tryz.ntmps36
    go_wp2_with fail
    refine Calls.mono HS.out ?_
    rintro e _ ⟨rfl, rfl⟩
    go_wp2_with fail
    go_ret
    exact ⟨rfl, rfl⟩

set_option maxRecDepth 8000 in
theorem tPass_noA {w : World} (q : Option Addr) (hv : NoW w (.pointer q)) (r : Int) : Calls Tryz.prog 12 #[.pointer q, .int .i64 r] w fun e w' => e = .returned (.int .i64 1) ∧ w = w' := by
  have hmf : ∀ (fn : Fn) (first cap : Array Value) (w : World), (Instr.makeFunc fn first cap).run Tryz.prog w = .ok (.func fn first cap) w := fun _ _ _ _ => rfl
  have HS := (show Hid _ from fun f => twalk_no hv r f)
  clear hv
  go_enter Tryz.func12, Tryz.ntmps12
  go_wp2_with fail
  refine Calls.mono (HS.out _) ?_
  rintro e _ ⟨rfl, rfl⟩
  go_wp2_with fail
  go_ret
  exact ⟨rfl, rfl⟩
theorem tPass_no {w : World} {v : Value} (hv : NoW w v) (r : Int) : Calls Tryz.prog 12 #[v, .int .i64 r] w fun e w' => e = .returned (.int .i64 1) ∧ w = w' := by
  rcases id hv with rfl | ⟨b, rfl, -⟩
  · exact tPass_noA _ hv r
  · exact tPass_noA _ hv r

set_option maxRecDepth 8000 in
theorem tTaps_no {w : World} {v : Value} (hv : NoW w v) (r : Int) : Calls Tryz.prog 10 #[v, .int .i64 r] w fun e w' => e = .returned (.tuple #[.slice none 0 0, .int .i64 1]) ∧ Below w.heap.size w w' := by
  have hmf : ∀ (fn : Fn) (first cap : Array Value) (w : World), (Instr.makeFunc fn first cap).run Tryz.prog w = .ok (.func fn first cap) w := fun _ _ _ _ => rfl
  have hb1 : Below w.heap.size w (w.alloc (.cells #[.slice none 0 0] 93)) := (Below.refl _ _).alloc (Nat.le_refl _) _
  have HS := (show Hid _ from fun f => twalk_no (hv.below hb1) r f)
  have HB1 := (show Hid _ from hb1)
  clear hv hb1
  go_enter Tryz.func10, Tryz.ntmps10
  go_wp2_with fail
  refine Calls.mono (HS.out _) ?_
  rintro e _ ⟨rfl, rfl⟩
  go_wp2_with fail
  go_ret2
  exact ⟨rfl, HB1.out⟩

set_option maxRecDepth 8000 in
theorem tTally_no {w : World} {v : Value} (hv : NoW w v) (r : Int) : Calls Tryz.prog 19 #[v, .int .i64 r] w fun e w' => e = .returned (.tuple #[.int .i64 0, .int .i64 1]) ∧ Below w.heap.size w w' := by
  have HQ := (show Hid _ from What_no hv r)
  rcases hv with rfl | ⟨b, rfl, -⟩
  · go_enter Tryz.func19, Tryz.ntmps19
    go_wp2_with fail
    go_ret2
    exact ⟨rfl, Below.refl _ _⟩
  · go_enter Tryz.func19, Tryz.ntmps19
    go_wp2_with fail
    refine Calls.mono HQ.out ?_
    rintro e w1 ⟨rfl, hb1⟩
    obtain ⟨w2, hst, hb2, hg2⟩ := box_what w1 #[.int .u8 0, .int .i64 0, .int .u8 0, .int .i64 0, .string ⟨#[]⟩, .slice none 0 0, .int .i64 0, .slice none 0 0, .int .i64 0, .int .i64 0, .int .i64 0, .int .i64 0, .int .u8 0, .bool false, .slice none 0 0, .slice none 0 0] rfl (by simp [go_sem])
    have HB2 := (show Hid (Below w.heap.size w w2) from hb1.trans (hb2.mono hb1.size))
    clear hb1 hb2 hg2
    go_wp2_with fail
    go_ret2
    exact ⟨rfl, HB2.out⟩

set_option maxRecDepth 8000 in
theorem tCount_no {w : World} {v : Value} (hv : NoW w v) (r : Int) : Calls Tryz.prog 18 #[v, .int .i64 r] w fun e w' => e = .returned (.tuple #[.int .i64 0, .int .i64 1]) ∧ Below w.heap.size w w' := by
  have HT := (show Hid _ from tTally_no hv r)
  clear hv
  go_enter Tryz.func18, Tryz.ntmps18
  go_wp2_with fail
  refine Calls.mono HT.out ?_
  rintro e w1 ⟨rfl, hb1⟩
  have HB1 := (show Hid (Below w.heap.size w w1) from hb1)
  clear hb1
  go_wp2_with fail
  go_ret2
  exact ⟨rfl, HB1.out⟩

attribute [local go_sem] Oper.semAt_some
set_option maxHeartbeats 2000000 in
set_option maxRecDepth 100000 in
theorem tOf_no {w : World} {v : Value} (hv : NoW w v) (r : Int) : Calls Tryz.prog 20 #[v, .int .i64 r] w fun e w' => e = .returned (.tuple #[.slice none 0 0, .int .i64 1]) ∧ Below w.heap.size w w' := by
  have hs := fun w' (hb : Below w.heap.size w w') => tSides_no (hv.below hb)
  have HS := (show Hid _ from hs)
  clear hs
  refine (callsIn_wide (n := 5)).1 ?_
  refine callsIn_of_wp_marks Tryz.func20 rfl trivial ?_ rfl
  simp only [Tryz.ntmps20, List.size_toArray, List.length_cons, List.length_nil, Nat.reduceAdd, Nat.reduceSub, Array.replicate_succ, Array.replicate_zero, List.push_toArray, List.append_toArray, List.nil_append, List.cons_append]
  rcases hv with rfl | ⟨b, rfl, -⟩
  · gi_wp2_with fail
    refine ⟨trivial, ?_⟩
    gi_wp2_with fail
    exact ⟨_, results_tmp2 rfl _ _ _, rfl, ((Below.refl _ w).alloc (Nat.le_refl _) _).alloc (by simp) _⟩
  · gi_wp2_with fail
    refine ⟨trivial, (callsIn_wide.2 (HS.out _ ((((Below.refl _ w).alloc (Nat.le_refl _) _).alloc (by simp) _)))).mono ?_⟩
    rintro e _ ⟨rfl, rfl⟩
    gi_wp2_with fail
    exact ⟨_, results_tmp2 rfl _ _ _, rfl, ((Below.refl _ w).alloc (Nat.le_refl _) _).alloc (by simp) _⟩

set_option maxHeartbeats 2000000 in
set_option maxRecDepth 100000 in
theorem tMake_noA {w : World} (q : Option Addr) (hv : NoW w (.pointer q)) (s r : Int) : Calls Tryz.prog 16 #[.pointer q, .int .i64 s, .int .i64 r] w fun e w' => e = .returned (.tuple #[.int .i64 0, .int .i64 0, .int .i64 1]) ∧ Below w.heap.size w w' := by
  have HV : Hid (NoW w (.pointer q)) := hv
  clear hv
  go_enter_defers Tryz.func16, Tryz.ntmps16
  go_wp2_with fail
  obtain ⟨hb4, q3, q6, q7, q8, -⟩ := four w (.cells #[.pointer q] 26) (.cells #[.int .i64 0] 35) (.cells #[.int .i64 0] 35) (.cells #[.int .i64 0] 27)
  revert hb4 q3 q6 q7 q8
  generalize (((w.alloc _).alloc _).alloc _).alloc _ = w4
  intro hb4 q3 q6 q7 q8
  have c8 : w4.cell? ⟨w.heap.size + 3, 0, none⟩ = some (.int .i64 0) := by rw [cell_blk q8]; rfl
  have f8 : w4.frozen? ⟨w.heap.size + 3, 0, none⟩ = false := frozen_blk q8 0
  have HY := (show Hid _ from tmay_no (HV.out.below hb4) s r)
  have s6 := blk_other q6 ⟨w.heap.size + 3, 0, none⟩ (.int .i64 1) (by show w.heap.size + 1 ≠ w.heap.size + 3; omega)
  have s7 := blk_other q7 ⟨w.heap.size + 3, 0, none⟩ (.int .i64 1) (by show w.heap.size + 2 ≠ w.heap.size + 3; omega)
  have s8 := blk_setCell q8 0 (.int .i64 1)
  have HQ := (show Hid _ from And.intro s6 (And.intro s7 s8))
  have HB := (show Hid (Below w.heap.size w (w4.setCell ⟨w.heap.size + 3, 0, none⟩ (.int .i64 1))) from hb4.setCell (p := ⟨w.heap.size + 3, 0, none⟩) (by show w.heap.size ≤ w.heap.size + 3; omega) _)
  clear hb4 q3 q6 q7 q8 s6 s7 s8 HV
  refine Calls.mono HY.out ?_
  rintro e _ ⟨rfl, rfl⟩
  go_upto_region 2 with fail
  clear c8 f8 HY
  revert HQ HB
  generalize w4.setCell _ _ = w5
  intro HQ HB
  have c6 : w5.cell? ⟨w.heap.size + 1, 0, none⟩ = some (.int .i64 0) := by rw [cell_blk HQ.out.1]; rfl
  have c7 : w5.cell? ⟨w.heap.size + 2, 0, none⟩ = some (.int .i64 0) := by rw [cell_blk HQ.out.2.1]; rfl
  have c8 : w5.cell? ⟨w.heap.size + 3, 0, none⟩ = some (.int .i64 1) := by rw [cell_blk HQ.out.2.2]; rfl
  have f6 : w5.frozen? ⟨w.heap.size + 1, 0, none⟩ = false := frozen_blk HQ.out.1 0
  have f7 : w5.frozen? ⟨w.heap.size + 2, 0, none⟩ = false := frozen_blk HQ.out.2.1 0
  have f8 : w5.frozen? ⟨w.heap.size + 3, 0, none⟩ = false := frozen_blk HQ.out.2.2 0
  have e6 : w5.setCell ⟨w.heap.size + 1, 0, none⟩ (.int .i64 0) = w5 := setCell_same HQ.out.1 rfl
  have e7 : w5.setCell ⟨w.heap.size + 2, 0, none⟩ (.int .i64 0) = w5 := setCell_same HQ.out.2.1 rfl
  have e8 : w5.setCell ⟨w.heap.size + 3, 0, none⟩ (.int .i64 1) = w5 := setCell_same HQ.out.2.2 rfl
  clear HQ
  go_wp2_with fail
  go_region
  go_wp2_with fail
  refine ⟨.tuple #[.int .i64 0, .int .i64 0, .int .i64 1], ?_, rfl, HB.out.drew⟩
  simp [results, Tryz.f16, go_sem, c6, c7, c8]
theorem tMake_no {w : World} {v : Value} (hv : NoW w v) (s r : Int) : Calls Tryz.prog 16 #[v, .int .i64 s, .int .i64 r] w fun e w' => e = .returned (.tuple #[.int .i64 0, .int .i64 0, .int .i64 1]) ∧ Below w.heap.size w w' := by
  rcases id hv with rfl | ⟨b, rfl, -⟩
  · exact tMake_noA _ hv s r
  · exact tMake_noA _ hv s r
end Go.Proofs.YtmefjkggibbhoaaGreat
