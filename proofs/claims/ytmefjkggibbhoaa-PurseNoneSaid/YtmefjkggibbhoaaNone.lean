/- Purses over worlds that are not there: what each call answers. -/
import Derived.Test.YtmefjkggibbhoaaNoW
import Derived.Test.YtmefjkggibbhoaaCheck
namespace Go.Proofs.Ytmefjkggibbhoaa
open Go.RowKit Go.ChangeMaps Go.MapKept

set_option maxRecDepth 8000 in
theorem Make_noW {w : World} {v : Value} (hv : NoW w v) (k h n tg : Int) : Calls Try.prog 16 #[v, .agg #[.int .u8 k, .int .i64 h, .int .u8 0, .int .i64 0, .string ⟨#[]⟩, .slice none 0 0, .int .i64 0, .slice none 0 0, .int .i64 n, .int .i64 0, .int .i64 tg, .int .i64 0, .int .u8 0, .bool false, .slice none 0 0, .slice none 0 0]] w fun e w' => e = .returned (.tuple #[.int .i64 0, .int .i64 1]) ∧ Below w.heap.size w w' := by
  have hn := fun w' (hb : Below w.heap.size w w') => none_no (hv.below hb)
  have HN := (show Hid _ from hn)
  clear hn hv
  go_enter Try.func16, Try.ntmps16
  go_wp2_with fail
  refine Calls.mono (HN.out _ ((Below.refl _ w).alloc (Nat.le_refl _) _)) ?_
  rintro e _ ⟨rfl, rfl⟩
  go_wp2_with fail
  go_ret2
  exact ⟨rfl, (Below.refl _ _).alloc (Nat.le_refl _) _⟩

set_option maxRecDepth 8000 in
theorem Mint_no {w : World} {v : Value} (hv : NoW w v) (s : Int) : Calls Try.prog 37 #[v, .int .i64 s] w fun e w' => e = .returned (.tuple #[.int .i64 0, .int .i64 1]) ∧ Below w.heap.size w w' := by
  rcases hv with rfl | ⟨b, rfl, h⟩
  · go_enter Try.func37, Try.ntmps37
    go_wp2_with fail
    go_ret2
    exact ⟨rfl, Below.refl _ _⟩
  · have hm := Make_noW (.inr ⟨b, rfl, h⟩) 8 s 0 0
    have HM := (show Hid _ from hm)
    clear hm h
    go_enter Try.func37, Try.ntmps37
    go_wp2_with fail
    refine Calls.mono HM.out ?_
    rintro e w1 ⟨rfl, hb⟩
    go_wp2_with fail
    go_ret2
    exact ⟨rfl, hb⟩

set_option maxRecDepth 8000 in
theorem Get_no {w : World} {v : Value} (hv : NoW w v) (r : Int) : Calls Try.prog 42 #[v, .int .i64 r] w fun e w' => e = .returned (.tuple #[.int .i64 0, .int .i64 1]) ∧ Below w.heap.size w w' := by
  have hf := find_no hv r 9
  have HF := (show Hid _ from hf)
  clear hf hv
  go_enter Try.func42, Try.ntmps42
  go_wp2_with fail
  refine Calls.mono HF.out ?_
  rintro e w1 ⟨rfl, hb1⟩
  obtain ⟨w2, hst, hb2, -, -⟩ := boxed_what' w1 #[.int .u8 0, .int .i64 0, .int .u8 0, .int .i64 0, .string ⟨#[]⟩, .slice none 0 0, .int .i64 0, .slice none 0 0, .int .i64 0, .int .i64 0, .int .i64 0, .int .i64 0, .int .u8 0, .bool false, .slice none 0 0, .slice none 0 0] rfl (by simp [go_sem])
  have HB2 := (show Hid (Below w.heap.size w w2) from hb1.trans (hb2.mono hb1.size))
  clear hb1 hb2
  go_wp2_with fail
  go_ret2
  exact ⟨rfl, HB2.out⟩

set_option maxRecDepth 8000 in
theorem Ask_no {w : World} {v : Value} (hv : NoW w v) (r n : Int) : Calls Try.prog 38 #[v, .int .i64 r, .int .i64 n] w fun e w' => e = .returned (.tuple #[.int .i64 0, .int .i64 1]) ∧ Below w.heap.size w w' := by
  have hf := find_no hv r 8
  have HF := (show Hid _ from hf)
  clear hf hv
  go_enter Try.func38, Try.ntmps38
  go_wp2_with fail
  refine Calls.mono HF.out ?_
  rintro e w1 ⟨rfl, hb1⟩
  obtain ⟨w2, hst, hb2, -, -⟩ := boxed_what' w1 #[.int .u8 0, .int .i64 0, .int .u8 0, .int .i64 0, .string ⟨#[]⟩, .slice none 0 0, .int .i64 0, .slice none 0 0, .int .i64 0, .int .i64 0, .int .i64 0, .int .i64 0, .int .u8 0, .bool false, .slice none 0 0, .slice none 0 0] rfl (by simp [go_sem])
  have HB2 := (show Hid (Below w.heap.size w w2) from hb1.trans (hb2.mono hb1.size))
  clear hb1 hb2
  go_wp2_with fail
  go_ret2
  exact ⟨rfl, HB2.out⟩

set_option maxRecDepth 8000 in
theorem Take_no {w : World} {v : Value} (hv : NoW w v) (r n : Int) : Calls Try.prog 43 #[v, .int .i64 r, .int .i64 n] w fun e w' => e = .returned (.tuple #[.int .i64 0, .int .i64 1]) ∧ Below w.heap.size w w' := by
  have hf := find_no hv r 9
  have HF := (show Hid _ from hf)
  clear hf hv
  go_enter Try.func43, Try.ntmps43
  go_wp2_with fail
  refine Calls.mono HF.out ?_
  rintro e w1 ⟨rfl, hb1⟩
  obtain ⟨w2, hst, hb2, -, -⟩ := boxed_what' w1 #[.int .u8 0, .int .i64 0, .int .u8 0, .int .i64 0, .string ⟨#[]⟩, .slice none 0 0, .int .i64 0, .slice none 0 0, .int .i64 0, .int .i64 0, .int .i64 0, .int .i64 0, .int .u8 0, .bool false, .slice none 0 0, .slice none 0 0] rfl (by simp [go_sem])
  have HB2 := (show Hid (Below w.heap.size w w2) from hb1.trans (hb2.mono hb1.size))
  clear hb1 hb2
  go_wp2_with fail
  go_ret2
  exact ⟨rfl, HB2.out⟩

set_option maxRecDepth 8000 in
theorem Of_no {w : World} {v : Value} (hv : NoW w v) (r : Int) : Calls Try.prog 39 #[v, .int .i64 r] w fun e w' => e = .returned (.tuple #[.int .i64 0, .int .i64 1]) ∧ Below w.heap.size w w' := by
  have hf := find_no hv r 8
  have HF := (show Hid _ from hf)
  clear hf hv
  go_enter Try.func39, Try.ntmps39
  go_wp2_with fail
  refine Calls.mono HF.out ?_
  rintro e w1 ⟨rfl, hb1⟩
  obtain ⟨w2, hst, hb2, -, -⟩ := boxed_what' w1 #[.int .u8 0, .int .i64 0, .int .u8 0, .int .i64 0, .string ⟨#[]⟩, .slice none 0 0, .int .i64 0, .slice none 0 0, .int .i64 0, .int .i64 0, .int .i64 0, .int .i64 0, .int .u8 0, .bool false, .slice none 0 0, .slice none 0 0] rfl (by simp [go_sem])
  have HB2 := (show Hid (Below w.heap.size w w2) from hb1.trans (hb2.mono hb1.size))
  clear hb1 hb2
  go_wp2_with fail
  go_ret2
  exact ⟨rfl, HB2.out⟩

set_option maxRecDepth 8000 in
theorem Move_no {w : World} {v : Value} (hv : NoW w v) (a b : Int) : Calls Try.prog 40 #[v, .int .i64 a, .int .i64 b] w fun e w' => e = .returned (.int .i64 1) ∧ Below w.heap.size w w' := by
  have hf := fun w' (hb : Below w.heap.size w w') r => find_no (hv.below hb) r 9
  have HF := (show Hid _ from hf)
  clear hf hv
  go_enter Try.func40, Try.ntmps40
  go_wp2_with fail
  refine Calls.mono (HF.out _ (Below.refl _ _) a) ?_
  rintro e w1 ⟨rfl, hb1⟩
  obtain ⟨w2, hst, hb2, -, -⟩ := boxed_what' w1 #[.int .u8 0, .int .i64 0, .int .u8 0, .int .i64 0, .string ⟨#[]⟩, .slice none 0 0, .int .i64 0, .slice none 0 0, .int .i64 0, .int .i64 0, .int .i64 0, .int .i64 0, .int .u8 0, .bool false, .slice none 0 0, .slice none 0 0] rfl (by simp [go_sem])
  have HB2 := (show Hid (Below w.heap.size w w2) from hb1.trans (hb2.mono hb1.size))
  clear hb1 hb2
  go_wp2_with fail
  clear hst
  refine Calls.mono (HF.out _ HB2.out b) ?_
  rintro e w3 ⟨rfl, hb3⟩
  obtain ⟨w4, hst, hb4, -, -⟩ := boxed_what' w3 #[.int .u8 0, .int .i64 0, .int .u8 0, .int .i64 0, .string ⟨#[]⟩, .slice none 0 0, .int .i64 0, .slice none 0 0, .int .i64 0, .int .i64 0, .int .i64 0, .int .i64 0, .int .u8 0, .bool false, .slice none 0 0, .slice none 0 0] rfl (by simp [go_sem])
  have HB4 := (show Hid (Below w.heap.size w w4) from HB2.out.trans ((hb3.trans (hb4.mono hb3.size)).mono HB2.out.size))
  clear hb3 hb4
  go_wp2_with fail
  go_ret
  exact ⟨rfl, HB4.out⟩

attribute [local go_sem] Oper.semAt_some
set_option maxHeartbeats 2000000 in
set_option maxRecDepth 100000 in
theorem Purses_noA {w : World} (q : Option Addr) (hv : NoW w (.pointer q)) (r : Int) : Calls Try.prog 45 #[.pointer q, .int .i64 r] w fun e w' => e = .returned (.tuple #[.slice none 0 0, .int .i64 1]) ∧ Below w.heap.size w w' := by
  have hf := fun w' (hb : Below w.heap.size w w') => find_no (hv.below hb) r 8
  have HF := (show Hid _ from hf)
  clear hf hv
  refine (callsIn_wide (n := 5)).1 ?_
  refine callsIn_of_wp_marks Try.func45 rfl trivial ?_ rfl
  simp only [Try.ntmps45, List.size_toArray, List.length_cons, List.length_nil, Nat.reduceAdd, Nat.reduceSub, Array.replicate_succ, Array.replicate_zero, List.push_toArray, List.append_toArray, List.nil_append, List.cons_append]
  gi_wp2_with fail
  refine ⟨trivial, (callsIn_wide.2 (HF.out _ ((((Below.refl _ w).alloc (Nat.le_refl _) _).alloc (by simp) _)))).mono ?_⟩
  rintro e w1 ⟨rfl, hb1⟩
  obtain ⟨w2, hst, hb2, -, -⟩ := boxed_what' w1 #[.int .u8 0, .int .i64 0, .int .u8 0, .int .i64 0, .string ⟨#[]⟩, .slice none 0 0, .int .i64 0, .slice none 0 0, .int .i64 0, .int .i64 0, .int .i64 0, .int .i64 0, .int .u8 0, .bool false, .slice none 0 0, .slice none 0 0] rfl (by simp [go_sem])
  have HB2 : Hid (Below w.heap.size w w2) := by
    have h0 : Below w.heap.size w ((w.alloc (.cells #[.pointer q] 25)).alloc (.cells #[.int .i64 r] 30)) := ((Below.refl _ w).alloc (Nat.le_refl _) _).alloc (by simp) _
    exact h0.trans ((hb1.trans (hb2.mono hb1.size)).mono h0.size)
  clear hb1 hb2
  gi_wp2_with fail
  exact ⟨_, results_tmp2 rfl _ _ _, rfl, HB2.out⟩

theorem Purses_no {w : World} {v : Value} (hv : NoW w v) (r : Int) : Calls Try.prog 45 #[v, .int .i64 r] w fun e w' => e = .returned (.tuple #[.slice none 0 0, .int .i64 1]) ∧ Below w.heap.size w w' := by
  rcases id hv with rfl | ⟨b, rfl, -⟩
  · exact Purses_noA _ hv r
  · exact Purses_noA _ hv r

set_option maxRecDepth 8000 in
theorem Sum_no {w : World} {v : Value} (hv : NoW w v) (r : Int) : Calls Try.prog 46 #[v, .int .i64 r] w fun e w' => e = .returned (.tuple #[.int .i64 0, .int .i64 0, .int .i64 0, .int .i64 1]) ∧ Below w.heap.size w w' := by
  have hf := Purses_no hv r
  have HF := (show Hid _ from hf)
  clear hf hv
  go_enter Try.func46, Try.ntmps46
  go_wp2_with fail
  refine Calls.mono HF.out ?_
  rintro e w1 ⟨rfl, hb1⟩
  have HB1 := (show Hid (Below w.heap.size w w1) from hb1)
  clear hb1
  go_wp2_with fail
  exact bodyPost_ret (v := .tuple #[.int .i64 0, .int .i64 0, .int .i64 0, .int .i64 1]) (by simp [results, Try.f46, go_sem]) rfl ⟨rfl, HB1.out⟩

set_option maxRecDepth 8000 in
theorem Sides_no {w : World} {v : Value} (hv : NoW w v) : Calls Try.prog 18 #[v] w fun e w' => e = .returned (.int .i64 0) ∧ w = w' := by
  have HN := (show Hid _ from none_no hv)
  clear hv
  go_enter Try.func18, Try.ntmps18
  go_wp2_with fail
  refine Calls.mono HN.out ?_
  rintro e _ ⟨rfl, rfl⟩
  go_wp2_with fail
  go_ret
  exact ⟨rfl, rfl⟩

set_option maxRecDepth 8000 in
theorem Check_no {w : World} {v : Value} (hv : NoW w v) : Calls Try.prog 44 #[v] w fun e w' => e = .returned (.int .i64 1) ∧ Below w.heap.size w w' := by
  have hs := fun w' (hb : Below w.heap.size w w') => Sides_no (hv.below hb)
  have HS := (show Hid _ from hs)
  clear hs
  refine (callsIn_wide (n := 5)).1 ?_
  refine callsIn_of_wp_marks Try.func44 rfl trivial ?_ rfl
  simp only [Try.ntmps44, List.size_toArray, List.length_cons, List.length_nil, Nat.reduceAdd, Nat.reduceSub, Array.replicate_succ, Array.replicate_zero, List.push_toArray, List.append_toArray, List.nil_append, List.cons_append]
  rcases hv with rfl | ⟨b, rfl, -⟩
  · gi_wp2_with fail
    refine ⟨trivial, ?_⟩
    gi_wp2_with fail
    have c5 : ((w.alloc (.cells #[.pointer none] 25)).alloc (.cells #[.int .i64 1] 26)).cell? ⟨w.heap.size + 1, 0, none⟩ = some (.int .i64 1) := by
      rw [cell_blk (blk2_new _ _ _)]; rfl
    refine ⟨.int .i64 1, ?_, rfl, ((Below.refl _ w).alloc (Nat.le_refl _) _).alloc (by simp) _⟩
    simp [results, Try.f44, go_sem, c5]
  · gi_wp2_with fail
    refine ⟨trivial, (callsIn_wide.2 (HS.out _ ((((Below.refl _ w).alloc (Nat.le_refl _) _).alloc (by simp) _)))).mono ?_⟩
    rintro e _ ⟨rfl, rfl⟩
    gi_wp2_with fail
    have c5 : ((w.alloc (.cells #[.pointer (some ⟨b, 0, none⟩)] 25)).alloc (.cells #[.int .i64 1] 26)).cell? ⟨w.heap.size + 1, 0, none⟩ = some (.int .i64 1) := by
      rw [cell_blk (blk2_new _ _ _)]; rfl
    refine ⟨.int .i64 1, ?_, rfl, ((Below.refl _ w).alloc (Nat.le_refl _) _).alloc (by simp) _⟩
    simp [results, Try.f44, go_sem, c5]
end Go.Proofs.Ytmefjkggibbhoaa
