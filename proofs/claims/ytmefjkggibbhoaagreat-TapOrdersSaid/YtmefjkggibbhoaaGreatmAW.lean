/- A part of the proof, several texts in one: CntB, SameA, SameB, SameC, SameD. -/
import Derived.Test.YtmefjkggibbhoaaGreatmAQ
import Derived.Test.YtmefjkggibbhoaaGreatmAV
import Derived.Test.YtmefjkggibbhoaaGreatmAG
import Derived.Deep.MidRow
import Derived.Test.YtmefjkggibbhoaaGreatmAU
import Derived.Test.YtmefjkggibbhoaaGreatmAF
import Derived.Deep.QuietTactic
import Derived.BigQuiet
import Derived.Test.YtmefjkggibbhoaaGreatmAJ
/- TapCounts: a tower that counts, in memory. -/
namespace Go.Proofs.YtmefjkggibbhoaaGreat
open Go.RowKit Go.ChangeMaps Go.MapKept

/-- The tower's list and map, and the map of what is wanted, beside the world. -/
abbrev TS3 (g m cap mb wb : Nat) (b : Nat) : Prop := (Value.slice (some ⟨g, 0, none⟩) m cap).ownBlock = some b ∨ b = mb ∨ b = wb
def CntM (w0 w : World) (p : Nat) (M : WM) (l : List Int) (tl c want : Int → Int) (B g m cap mb wb : Nat) : Prop :=
  OwnS w0 w p M (TS3 g m cap mb wb) ∧ Cw M l tl c ∧ (∀ n, 0 ≤ c n ∧ c n ≤ B) ∧ (∀ n, 0 ≤ want n ∧ want n ≤ B) ∧ w.ownsRow w0.heap.size 35 1 (.slice (some ⟨g, 0, none⟩) m cap) m (l.map (Value.int .i64)) ∧
    MapLe Tryz.prog 35 w mb (tlf tl) 80 ∧ MapLe Tryz.prog 35 w wb (tlf want) B ∧ w0.heap.size ≤ wb ∧ mb ≠ wb
def CntAt (w0 w : World) (p : Nat) (l : List Int) (tl c want : Int → Int) (B g m cap mb wb : Nat) : Prop := ∃ M, CntM w0 w p M l tl c want B g m cap mb wb
section
variable {w0 w w' : World} {p : Nat} {M : WM} {l : List Int} {tl c want : Int → Int} {B g m cap mb wb : Nat}
theorem CntM.below (h : CntM w0 w p M l tl c want B g m cap mb wb) (hb : Below w.heap.size w w') : CntM w0 w' p M l tl c want B g m cap mb wb := by
  obtain ⟨h1, h2, h3, h3', h4, h5, h6, h7, h8⟩ := h
  obtain ⟨h9, h10⟩ := h1.below hb
  exact ⟨h9, h2, h3, h3', h10.row h4 (fun b hb => .inl hb), h5.of_block (h10.2 mb (.inr (.inl rfl))), h6.of_block (h10.2 wb (.inr (.inr rfl))), h7, h8⟩
theorem CntAt.start {ws : World} {first : Int} (h : TowAt NoB ws w0 w p l tl first 80 g m cap mb) : CntAt w0 (w.alloc (.map #[] 0)) p l tl (fun _ => 0) (fun _ => 0) 0 g m cap mb w.heap.size := by
  obtain ⟨M, ⟨F, hW, h2, h3, h4⟩, hTw, hR, hM, -⟩ := h
  have hb : Below w.heap.size w (w.alloc (.map #[] 0)) := (Below.refl _ w).alloc (Nat.le_refl _) _
  obtain ⟨es, clk, hes⟩ := hM.is
  have hml := blk_lt hes
  obtain ⟨-, hk⟩ := OwnS.below (S := TS NoB g m cap mb) ⟨F, hW, h2, h3, h4⟩ hb
  refine ⟨M, ⟨F, hW.below hb, h2, h3.trans (hb.mono h3.size), fun b hb => ?_⟩, hTw.cw, fun n => by simp, fun n => by simp, hk.row hR (fun b hb => .inl hb), hM.of_block (hk.2 mb (.inr (.inl rfl))), ⟨0, Nat.le_refl _, ?_⟩, h3.size, by omega⟩
  · rcases hb with hb | rfl | rfl
    · have := h4 b (.inl hb)
      exact ⟨this.1, by simp; omega⟩
    · have := h4 b (.inr (.inl rfl))
      exact ⟨this.1, by simp; omega⟩
    · exact ⟨fun h => by have := hW.lt _ h; omega, by simp⟩
  · exact (HasMap.made w Tryz.prog 35).congr (fun key kl _ => by unfold tlf; split <;> simp)
theorem CntM.cell (h : CntM w0 w p M l tl c want B g m cap mb wb) {k : Nat} {x : Int} (hm : m = l.length) (hx : l[k]? = some x) : w.cell? ⟨g, k, none⟩ = some (.int .i64 x) := by
  obtain ⟨a, cap', e, hc⟩ := way_cells h.2.2.2.2.1
  cases e
  have hk := (List.getElem?_eq_some_iff.1 hx).1
  obtain ⟨g', e, -, -, hc⟩ := hc k (by omega)
  cases e
  rw [hc, List.getElem?_map, hx]
  rfl
theorem CntM.tly (h : CntM w0 w p M l tl c want B g m cap mb wb) {q : Int} (hq : (Lit.int .i64 q).wf = true) : (Instr.lookup 32 (.map (some mb)) (.int .i64 q) true).run Tryz.prog w = .ok (.tuple #[.int .i64 (tl q), .bool (tl q != 0)]) w := by
  obtain ⟨-, -, -, -, -, ⟨n, -, h6⟩, -⟩ := h
  rw [h6.look_ok keyedRef Tryz.underlying32 (zeroRef w) (key_ref hq)]
  by_cases e : tl q = 0 <;> simp [tlf, e]
theorem CntM.wanted (h : CntM w0 w p M l tl c want B g m cap mb wb) {q : Int} (hq : (Lit.int .i64 q).wf = true) : (Instr.lookup 77 (.map (some wb)) (.int .i64 q) false).run Tryz.prog w = .ok (.int .i64 (want q)) w := by
  obtain ⟨-, -, -, -, -, -, ⟨n, -, h6⟩, -⟩ := h
  rw [h6.look keyedRef Tryz.underlying77 (z := .int .i64 0) (by kernel_rfl) (key_ref hq)]
  by_cases e : want q = 0 <;> simp [tlf, e]
theorem CntM.ok (h : CntM w0 w p M l tl c want B g m cap mb wb) : M.ok := by
  obtain ⟨⟨F, hW, -⟩, -⟩ := h
  exact hW.ok
theorem CntM.wf (h : CntM w0 w p M l tl c want B g m cap mb wb) {k : Nat} {x : Int} (hx : l[k]? = some x) : (Lit.int .i64 x).wf = true := by
  obtain ⟨t, ht⟩ := h.2.1.at hx
  exact h.ok.at_wf ht
theorem CntM.tlwf (h : CntM w0 w p M l tl c want B g m cap mb wb) {k : Nat} {x : Int} (hx : l[k]? = some x) : (Lit.int .i64 (tl x)).wf = true := by
  match k with
  | 0 =>
    rw [h.2.1.head] at hx
    cases hx
    rw [h.2.1.tl1]
    rfl
  | k + 1 =>
    have hlt := (List.getElem?_eq_some_iff.1 hx).1
    rcases h.2.1.one (List.getElem?_eq_getElem (show k < l.length by omega)) hx with ⟨-, -, -, h', -, hn⟩ | ⟨h0, -⟩
    · exact h.ok.at_wf hn
    · rw [h0]
      rfl
/-- A level that a pass went through is wanted. -/
theorem CntAt.store (h : CntAt w0 w p l tl c want B g m cap mb wb) {k : Nat} {q : Int} (hq : l[k]? = some q) (hn : tl q ≠ 0) (hB : (B : Int) ≤ 1099511627776) :
    ∃ w1, (Instr.mapUpdate 77 (.map (some wb)) (.int .i64 (tl q)) (.int .i64 (want (tl q) + 1))).run Tryz.prog w = .ok () w1 ∧ CntAt w0 w1 p l tl c (bump tl want q) (B + 1) g m cap mb wb := by
  obtain ⟨M, h⟩ := h
  have hwf := h.tlwf hq
  obtain ⟨h1, h2, h3, h3', h4, h5, ⟨k, hk, h6⟩, h7, h8⟩ := h
  have hp := tlf_put (tl := want) (r := tl q) (n := want (tl q) + 1) (by have := h3' (tl q); omega)
  obtain ⟨w1, hrun, hm, ht⟩ := h6.store keyedRef Tryz.underlying77 (by unfold maxLen; omega) (key_ref hwf) (.int .i64 (want (tl q) + 1)) hp.1 hp.2
  have hT := Turned.of ht
  obtain ⟨cur, hcur⟩ := row_is h4
  obtain ⟨es, clk, hes⟩ := h6.is
  have hgm : g ≠ wb := fun e => by rw [e, hes] at hcur; cases hcur
  have hbm : bump tl want q = fun r => if r = tl q then want (tl q) + 1 else want r := by
    funext r
    unfold bump
    by_cases e : r = tl q
    · subst e; simp [hn]
    · simp [e]
  refine ⟨w1, hrun, M, h1.turned hT.2 (fun b hb => .inr (.inr hb)) (fun b hb => by rw [hb]; exact h7), h2, fun n => by have := h3 n; omega, fun n => ?_, ?_, h5.of_block (hT.block h8), ⟨_, ?_, by rw [hbm]; exact hm⟩, h7, h8⟩
  · have a1 := h3' n
    have a2 := h3' (tl q)
    rw [hbm]
    show 0 ≤ (if n = tl q then want (tl q) + 1 else want n) ∧ (if n = tl q then want (tl q) + 1 else want n) ≤ _
    split <;> omega
  · refine ⟨h4.1, ?_⟩
    rcases h4.2 with ⟨h, -⟩ | ⟨g', cap', cur', e1, e2, e3, e4⟩
    · cases h
    · cases e1
      exact .inr ⟨g, cap, cur', rfl, e2, (hT.block hgm).trans e3, e4⟩
  · split <;> omega
/-- A pass. -/
theorem CntAt.pass (h : CntAt w0 w p l tl c want B g m cap mb wb) {k : Nat} {x : Int} (hx : l[k]? = some x) (hl : l.length ≤ 81) (hB : B ≤ 1000000) :
    Calls Tryz.prog 12 #[.pointer (some ⟨p, 0, none⟩), .int .i64 x] w fun e w' => e = .returned (.int .i64 0) ∧ CntAt w0 w' p l tl ((l.take (k + 1)).foldl (bump tl) c) want (B + 81) g m cap mb wb := by
  obtain ⟨M, ⟨F, hW, h2, h3, h4⟩, hC, hc, hw, hR, hM, ⟨kw, hkw, hWt⟩, h7, h8⟩ := h
  obtain ⟨t, ht⟩ := hC.at hx
  have hlen : (l.take (k + 1)).length ≤ 81 := by rw [List.length_take]; omega
  refine (Pass_W hW (hC.tw hW.ok fun n => by have := hc n; omega) (hC.way k x hx) ht).mono ?_
  rintro e w' ⟨rfl, hW', hK⟩
  obtain ⟨h9, h10⟩ := OwnS.keep (S := TS3 g m cap mb wb) h2 h3 h4 hW' hK
  refine ⟨rfl, _, h9, ?_, fun n => ?_, fun n => by have := hw n; omega, h10.row hR (fun b hb => .inl hb), hM.of_block (h10.2 mb (.inr (.inl rfl))), ⟨kw, by omega, hWt.of_block (h10.2 wb (.inr (.inr rfl)))⟩, h7, h8⟩
  · rw [← fold_rev]
    exact hC.pass _ (fun q hq => List.mem_of_mem_take (List.mem_reverse.1 hq)) fun n => by have := hc n; rw [List.length_reverse]; omega
  · have h1 := hc n
    have h2 := fold_le tl c (l.take (k + 1)) n
    omega
end
end Go.Proofs.YtmefjkggibbhoaaGreat
/- Are two light things the same? The calls below world.Same: at equal values they say yes. -/
namespace Go.Proofs.YtmefjkggibbhoaaGreat
open Go.RowKit Go.ChangeMaps Go.MapKept

set_option maxRecDepth 8000 in
theorem cmpI64_W (w : World) (a : Int) : Calls Tryz.prog 128 #[.int .i64 a, .int .i64 a] w fun e w' => e = .returned (.int .i64 0) ∧ w = w' := by
  have h1 : ¬ (a < a) := Int.lt_irrefl a
  have h2 : ¬ (a > a) := Int.lt_irrefl a
  go_enter Tryz.func128, Tryz.ntmps128
  go_wp2
  go_ret
  exact ⟨rfl, rfl⟩
set_option maxRecDepth 8000 in
theorem cmpfVal_nil (w : World) (f : Value) : Calls Tryz.prog 131 #[.slice none 0 0, .slice none 0 0, f] w fun e w' => e = .returned (.int .i64 0) ∧ w = w' := by
  go_enter Tryz.func131, Tryz.ntmps131
  go_wp2_with fail
  go_loopw [13] (fun vi wr => vi = .int .i64 0 ∧ wr = w) (fun _ _ => 0)
  case atStart => exact ⟨rfl, rfl⟩
  case round =>
    obtain ⟨rfl, rfl⟩ := hrel
    go_wp2_with fail
    go_ret
    exact ⟨rfl, rfl⟩
set_option maxRecDepth 8000 in
theorem eqfVal_nil (w : World) (f : Value) : Calls Tryz.prog 77 #[.slice none 0 0, .slice none 0 0, f] w fun e w' => e = .returned (.bool true) ∧ w = w' := by
  go_enter Tryz.func77, Tryz.ntmps77
  go_wp2_with fail
  go_loopw [17] (fun vi wr => vi = .int .i64 0 ∧ wr = w) (fun _ _ => 0)
  case atStart => exact ⟨rfl, rfl⟩
  case round =>
    obtain ⟨rfl, rfl⟩ := hrel
    go_wp2_with fail
    go_ret
    exact ⟨rfl, rfl⟩
set_option maxRecDepth 8000 in
theorem eqfName_nil (w : World) (f : Value) : Calls Tryz.prog 79 #[.slice none 0 0, .slice none 0 0, f] w fun e w' => e = .returned (.bool true) ∧ w = w' := by
  go_enter Tryz.func79, Tryz.ntmps79
  go_wp2_with fail
  go_loopw [17] (fun vi wr => vi = .int .i64 0 ∧ wr = w) (fun _ _ => 0)
  case atStart => exact ⟨rfl, rfl⟩
  case round =>
    obtain ⟨rfl, rfl⟩ := hrel
    go_wp2_with fail
    go_ret
    exact ⟨rfl, rfl⟩
set_option maxRecDepth 8000 in
theorem eqfStmt_nil (w : World) (f : Value) : Calls Tryz.prog 103 #[.slice none 0 0, .slice none 0 0, f] w fun e w' => e = .returned (.bool true) ∧ w = w' := by
  go_enter Tryz.func103, Tryz.ntmps103
  go_wp2_with fail
  go_loopw [17] (fun vi wr => vi = .int .i64 0 ∧ wr = w) (fun _ _ => 0)
  case atStart => exact ⟨rfl, rfl⟩
  case round =>
    obtain ⟨rfl, rfl⟩ := hrel
    go_wp2_with fail
    go_ret
    exact ⟨rfl, rfl⟩
set_option maxRecDepth 8000 in
theorem sameCode_nil (w : World) : Calls Tryz.prog 78 #[.slice none 0 0, .slice none 0 0] w fun e w' => e = .returned (.bool true) ∧ w = w' := by
  go_enter Tryz.func78, Tryz.ntmps78
  go_wp2_with fail
  refine (eqfStmt_nil w _).mono ?_
  rintro e _ ⟨rfl, rfl⟩
  go_wp2_with fail
  go_ret
  exact ⟨rfl, rfl⟩

set_option maxRecDepth 8000 in
theorem vorder_W (w : World) (k n : Int) (h : Plain k n) : Calls Tryz.prog 102 #[.agg #[.int .u8 k, .int .i64 n, .string ⟨#[]⟩, .slice none 0 0, .int .i64 0], .agg #[.int .u8 k, .int .i64 n, .string ⟨#[]⟩, .slice none 0 0, .int .i64 0]] w fun e w' => e = .returned (.int .i64 0) ∧ Below w.heap.size w w' := by
  have HB : Hid (Below w.heap.size w ((w.alloc (.cells #[.int .u8 k, .int .i64 n, .string ⟨#[]⟩, .slice none 0 0, .int .i64 0] 48)).alloc (.cells #[.int .u8 k, .int .i64 n, .string ⟨#[]⟩, .slice none 0 0, .int .i64 0] 48))) := ((Below.refl _ _).alloc (Nat.le_refl _) _).alloc (by simp) _
  rcases h with ⟨rfl, rfl⟩ | rfl
  · go_enter Tryz.func102, Tryz.ntmps102
    go_wp2_with fail
    refine (cmpfVal_nil _ _).mono ?_
    rintro e _ ⟨rfl, rfl⟩
    go_wp2_with fail
    go_ret
    exact ⟨rfl, HB.out⟩
  · go_enter Tryz.func102, Tryz.ntmps102
    go_wp2_with fail
    refine (cmpI64_W _ n).mono ?_
    rintro e _ ⟨rfl, rfl⟩
    go_wp2_with fail
    go_ret
    exact ⟨rfl, HB.out⟩

set_option maxRecDepth 8000 in
theorem vSame_W (w : World) (k n : Int) (h : Plain k n) : Calls Tryz.prog 76 #[.agg #[.int .u8 k, .int .i64 n, .string ⟨#[]⟩, .slice none 0 0, .int .i64 0], .agg #[.int .u8 k, .int .i64 n, .string ⟨#[]⟩, .slice none 0 0, .int .i64 0]] w fun e w' => e = .returned (.bool true) ∧ Below w.heap.size w w' := by
  go_enter Tryz.func76, Tryz.ntmps76
  go_wp2_with fail
  refine (vMay_W _ k n h).mono ?_
  rintro e w1 ⟨rfl, hb1⟩
  have HB1 : Hid (Below w.heap.size w w1) := (((Below.refl _ w).alloc (Nat.le_refl _) _).alloc (by simp) _).trans (hb1.mono (by simp; omega))
  obtain ⟨⟨a0, a1, a2, a3, a4⟩, -⟩ := cells5 (below_blk hb1 (blk2_old w _ _))
  obtain ⟨⟨b0, b1, b2, b3, b4⟩, -⟩ := cells5 (below_blk hb1 (blk2_new w _ _))
  have HA := (show Hid _ from below_blk hb1 (blk2_old w _ _))
  have HC := (show Hid _ from below_blk hb1 (blk2_new w _ _))
  clear hb1
  go_wp2_with fail
  refine (vMay_W _ k n h).mono ?_
  rintro e w2 ⟨rfl, hb2⟩
  have HB2 : Hid (Below w.heap.size w w2) := HB1.out.trans (hb2.mono HB1.out.size)
  have hA2 := below_blk hb2 HA.out
  have hC2 := below_blk hb2 HC.out
  clear a0 a1 a2 a3 a4 b0 b1 b2 b3 b4
  obtain ⟨⟨a0, a1, a2, a3, a4⟩, -⟩ := cells5 hA2
  obtain ⟨⟨b0, b1, b2, b3, b4⟩, -⟩ := cells5 hC2
  clear hb2 hA2 hC2 HA HC HB1
  go_wp2_with fail
  refine (vorder_W _ k n h).mono ?_
  rintro e w3 ⟨rfl, hb3⟩
  have HB3 : Hid (Below w.heap.size w w3) := HB2.out.trans (hb3.mono HB2.out.size)
  clear hb3 a0 a1 a2 a3 a4 b0 b1 b2 b3 b4
  go_wp2_with fail
  go_ret
  exact ⟨rfl, HB3.out⟩
end Go.Proofs.YtmefjkggibbhoaaGreat
/- Are two light things the same? sameWhat, and the function that world.Same hands on. -/
namespace Go.Proofs.YtmefjkggibbhoaaGreat
open Go.RowKit Go.ChangeMaps Go.MapKept

set_option maxHeartbeats 4000000 in
set_option maxRecDepth 100000 in
theorem sameWhat_W (w : World) (k h vk vn n l tg bi s : Int) (fu : Bool) (hp : Plain vk vn) :
    Calls Tryz.prog 58 #[.agg #[.int .u8 k, .int .i64 h, .int .u8 vk, .int .i64 vn, .string ⟨#[]⟩, .slice none 0 0, .int .i64 0, .slice none 0 0, .int .i64 n, .int .i64 l, .int .i64 tg, .int .i64 bi, .int .u8 s, .bool fu, .slice none 0 0, .slice none 0 0], .agg #[.int .u8 k, .int .i64 h, .int .u8 vk, .int .i64 vn, .string ⟨#[]⟩, .slice none 0 0, .int .i64 0, .slice none 0 0, .int .i64 n, .int .i64 l, .int .i64 tg, .int .i64 bi, .int .u8 s, .bool fu, .slice none 0 0, .slice none 0 0]] w fun e w' => e = .returned (.bool true) ∧ Below w.heap.size w w' := by
  go_enter Tryz.func58, Tryz.ntmps58
  go_wp2_with fail
  refine (vSame_W _ vk vn hp).mono ?_
  rintro e w1 ⟨rfl, hb1⟩
  have HB1 : Hid (Below w.heap.size w w1) := (((Below.refl _ w).alloc (Nat.le_refl _) _).alloc (by simp) _).trans (hb1.mono (by simp; omega))
  have hA := below_blk hb1 (blk2_old w _ _)
  have hC := below_blk hb1 (blk2_new w _ _)
  have a7 : w1.cell? ⟨w.heap.size, 7, none⟩ = some (.slice none 0 0) := by rw [cell_blk hA]; rfl
  have a14 : w1.cell? ⟨w.heap.size, 14, none⟩ = some (.slice none 0 0) := by rw [cell_blk hA]; rfl
  have a15 : w1.cell? ⟨w.heap.size, 15, none⟩ = some (.slice none 0 0) := by rw [cell_blk hA]; rfl
  have b7 : w1.cell? ⟨w.heap.size + 1, 7, none⟩ = some (.slice none 0 0) := by rw [cell_blk hC]; rfl
  have b14 : w1.cell? ⟨w.heap.size + 1, 14, none⟩ = some (.slice none 0 0) := by rw [cell_blk hC]; rfl
  have b15 : w1.cell? ⟨w.heap.size + 1, 15, none⟩ = some (.slice none 0 0) := by rw [cell_blk hC]; rfl
  clear hb1 hA hC
  go_wp2_with fail
  refine (eqfVal_nil _ _).mono ?_
  rintro e _ ⟨rfl, rfl⟩
  go_wp2_with fail
  refine (sameCode_nil _).mono ?_
  rintro e _ ⟨rfl, rfl⟩
  go_wp2_with fail
  refine (eqfName_nil _ _).mono ?_
  rintro e _ ⟨rfl, rfl⟩
  go_wp2_with fail
  go_ret
  exact ⟨rfl, HB1.out⟩

theorem rangeAt_blk {w : World} {b o : Nat} {cur : Array Value} {e : TypeId} {fr : Nat × Nat} {cs : List Value} (hg : w.heap[b]? = some (.cells cur e fr)) (h : (cur.toList.drop o).take cs.length = cs) : w.rangeAt b o cs := fun j v hv => by
  rw [cell_blk hg]
  have hj := (List.getElem?_eq_some_iff.1 hv).1
  rw [← h, List.getElem?_take, if_pos hj, List.getElem?_drop] at hv
  simpa using hv
theorem loadWhat_mid {w : World} {b o : Nat} {cs : List Value} (hc : w.rangeAt b o cs) (hs : cs.length = 16) : (ldW (.pointer (some ⟨b, o, none⟩))).run Tryz.prog w = .ok (.value (.agg cs.toArray)) w := by
  have := run_loadAt_mid w b o 53 cs _ hc Tryz.underlying53 rfl (by rw [hs]; exact sizeWhat)
  simp only [ldW, Sem.run_bind, this, Result.andThen, Sem.run_pure]
theorem sizeEntry : (Tryz.prog.info? 118).map (·.size) = some 17 := by kernel_rfl
/-- A whole Entry read, written: closed to the walk's simp. -/
def ldE (a : Value) : Sem Next := do pure (.value (← Instr.loadAt 118 a))
@[go_sem ↓] theorem execOp_ldE (ρ : Operand → Value) (d : Option Tmp) (a : Operand) (ty : TypeId) (pos : String) (af : Array Edge) (g : Option (Nat × Bool)) :
    execOp ρ { dst := d, op := .load 118 a, type := ty, pos := pos, after := af, guard := g } = ldE (ρ a) := rfl
theorem loadEntry_mid {w : World} {b o : Nat} {cs : List Value} (hc : w.rangeAt b o cs) (hs : cs.length = 17) : (ldE (.pointer (some ⟨b, o, none⟩))).run Tryz.prog w = .ok (.value (.agg cs.toArray)) w := by
  have := run_loadAt_mid w b o 118 cs _ hc Tryz.underlying118 rfl (by rw [hs]; exact sizeEntry)
  simp only [ldE, Sem.run_bind, this, Result.andThen, Sem.run_pure]

set_option maxHeartbeats 4000000 in
set_option maxRecDepth 100000 in
theorem WSame1_W (w : World) (r k h vk vn n l tg bi s : Int) (fu : Bool) (hp : Plain vk vn) :
    Calls Tryz.prog 57 #[.agg #[.int .i64 r, .int .u8 k, .int .i64 h, .int .u8 vk, .int .i64 vn, .string ⟨#[]⟩, .slice none 0 0, .int .i64 0, .slice none 0 0, .int .i64 n, .int .i64 l, .int .i64 tg, .int .i64 bi, .int .u8 s, .bool fu, .slice none 0 0, .slice none 0 0],
      .agg #[.int .i64 r, .int .u8 k, .int .i64 h, .int .u8 vk, .int .i64 vn, .string ⟨#[]⟩, .slice none 0 0, .int .i64 0, .slice none 0 0, .int .i64 n, .int .i64 l, .int .i64 tg, .int .i64 bi, .int .u8 s, .bool fu, .slice none 0 0, .slice none 0 0]] w fun e w' => e = .returned (.bool true) ∧ Below w.heap.size w w' := by
  have hA := blk2_old w (.cells #[.int .i64 r, .int .u8 k, .int .i64 h, .int .u8 vk, .int .i64 vn, .string ⟨#[]⟩, .slice none 0 0, .int .i64 0, .slice none 0 0, .int .i64 n, .int .i64 l, .int .i64 tg, .int .i64 bi, .int .u8 s, .bool fu, .slice none 0 0, .slice none 0 0] 118) (.cells #[.int .i64 r, .int .u8 k, .int .i64 h, .int .u8 vk, .int .i64 vn, .string ⟨#[]⟩, .slice none 0 0, .int .i64 0, .slice none 0 0, .int .i64 n, .int .i64 l, .int .i64 tg, .int .i64 bi, .int .u8 s, .bool fu, .slice none 0 0, .slice none 0 0] 118)
  have hC := blk2_new w (.cells #[.int .i64 r, .int .u8 k, .int .i64 h, .int .u8 vk, .int .i64 vn, .string ⟨#[]⟩, .slice none 0 0, .int .i64 0, .slice none 0 0, .int .i64 n, .int .i64 l, .int .i64 tg, .int .i64 bi, .int .u8 s, .bool fu, .slice none 0 0, .slice none 0 0] 118) (.cells #[.int .i64 r, .int .u8 k, .int .i64 h, .int .u8 vk, .int .i64 vn, .string ⟨#[]⟩, .slice none 0 0, .int .i64 0, .slice none 0 0, .int .i64 n, .int .i64 l, .int .i64 tg, .int .i64 bi, .int .u8 s, .bool fu, .slice none 0 0, .slice none 0 0] 118)
  have hla := loadWhat_mid (rangeAt_blk (o := 1) (cs := [.int .u8 k, .int .i64 h, .int .u8 vk, .int .i64 vn, .string ⟨#[]⟩, .slice none 0 0, .int .i64 0, .slice none 0 0, .int .i64 n, .int .i64 l, .int .i64 tg, .int .i64 bi, .int .u8 s, .bool fu, .slice none 0 0, .slice none 0 0]) hA rfl) rfl
  have hlc := loadWhat_mid (rangeAt_blk (o := 1) (cs := [.int .u8 k, .int .i64 h, .int .u8 vk, .int .i64 vn, .string ⟨#[]⟩, .slice none 0 0, .int .i64 0, .slice none 0 0, .int .i64 n, .int .i64 l, .int .i64 tg, .int .i64 bi, .int .u8 s, .bool fu, .slice none 0 0, .slice none 0 0]) hC rfl) rfl
  have HB : Hid (Below w.heap.size w ((w.alloc (.cells #[.int .i64 r, .int .u8 k, .int .i64 h, .int .u8 vk, .int .i64 vn, .string ⟨#[]⟩, .slice none 0 0, .int .i64 0, .slice none 0 0, .int .i64 n, .int .i64 l, .int .i64 tg, .int .i64 bi, .int .u8 s, .bool fu, .slice none 0 0, .slice none 0 0] 118)).alloc (.cells #[.int .i64 r, .int .u8 k, .int .i64 h, .int .u8 vk, .int .i64 vn, .string ⟨#[]⟩, .slice none 0 0, .int .i64 0, .slice none 0 0, .int .i64 n, .int .i64 l, .int .i64 tg, .int .i64 bi, .int .u8 s, .bool fu, .slice none 0 0, .slice none 0 0] 118))) := ((Below.refl _ _).alloc (Nat.le_refl _) _).alloc (by simp) _
  clear hA hC
  go_enter Tryz.func57, Tryz.ntmps57
  go_wp2_with fail
  refine (sameWhat_W _ k h vk vn n l tg bi s fu hp).mono ?_
  rintro e w1 ⟨rfl, hb1⟩
  have HB1 : Hid (Below w.heap.size w w1) := HB.out.trans (hb1.mono HB.out.size)
  clear hb1 HB hla hlc
  go_wp2_with fail
  go_ret
  exact ⟨rfl, HB1.out⟩
end Go.Proofs.YtmefjkggibbhoaaGreat
/- slices.Equal of two lists of numbers that are the same. -/
namespace Go.Proofs.YtmefjkggibbhoaaGreat
open Go.RowKit Go.ChangeMaps Go.MapKept

theorem IntArg.at {k : IntKind} {w : World} {pa : Option Addr} {xs : List Int} (h : IntArg k w pa xs) {j : Nat} {x : Int} (hx : xs[j]? = some x) : ∃ b o, pa = some ⟨b, o, none⟩ ∧ ∀ w', Below w.heap.size w w' → w'.cell? ⟨b, o + j, none⟩ = some (.int k x) := by
  rcases h with rfl | ⟨b, o, h1, h2, h3⟩
  · cases hx
  · exact ⟨b, o, h1, fun w' hb => (hb.cell (p := ⟨b, o + j, none⟩) h2).trans (h3 j x hx)⟩

set_option maxHeartbeats 4000000 in
set_option maxRecDepth 8000 in
theorem equalSide_W (w : World) (pa pb : Option Addr) (n c1 c2 : Nat) (xs : List Int) (ha : IntArg .i64 w pa xs) (hb : IntArg .i64 w pb xs) (hn : n = xs.length) (hmax : n ≤ 1000000) :
    Calls Tryz.prog 54 #[.slice pa n c1, .slice pb n c2] w fun e w' => e = .returned (.bool true) ∧ Below w.heap.size w w' := by
  have HA := (show Hid (IntArg .i64 w pa xs) from ha)
  have HB := (show Hid (IntArg .i64 w pb xs) from hb)
  have HN := (show Hid (n = xs.length) from hn)
  clear ha hb hn
  go_enter Tryz.func54, Tryz.ntmps54
  go_wp2_with fail
  go_loopw [13] (fun vi wr => ∃ k : Nat, vi = .int .i64 k ∧ k ≤ n ∧ Hid (Below w.heap.size w wr)) (fun vi _ => n - (intOf vi).toNat)
  case atStart => exact ⟨0, rfl, by omega, Below.refl _ _⟩
  case round =>
    obtain ⟨k, rfl, hk, HW⟩ := hrel
    by_cases hkn : k < n
    · have hkz : (k : Int) < (n : Int) := by omega
      obtain ⟨x, hx⟩ : ∃ x, xs[k]? = some x := ⟨_, List.getElem?_eq_getElem (by have := HN.out; omega)⟩
      obtain ⟨b1, o1, rfl, h1⟩ := HA.out.at hx
      obtain ⟨b2, o2, rfl, h2⟩ := HB.out.at hx
      have c1 := h1 wr HW.out
      have c2 := h2 wr HW.out
      clear hx h1 h2
      go_wp2_with fail
      go_quiet (fail)
      have HW2 := (show Hid (Below w.heap.size w _) from HW.out.trans ((below_drewN nq).mono HW.out.size))
      clear HW c1 c2
      go_wp2_with fail
      go_roundw
      case rel => exact ⟨k + 1, by go_num, by omega, HW2⟩
      case measure =>
        simp [intOf]
        omega
    · have hkz : ¬ (k : Int) < (n : Int) := by omega
      go_wp2_with fail
      go_ret
      exact ⟨rfl, HW.out⟩
set_option maxHeartbeats 4000000 in
set_option maxRecDepth 8000 in
theorem equalInt_W (w : World) (pa pb : Option Addr) (n c1 c2 : Nat) (xs : List Int) (ha : IntArg .i64 w pa xs) (hb : IntArg .i64 w pb xs) (hn : n = xs.length) (hmax : n ≤ 1000000) :
    Calls Tryz.prog 55 #[.slice pa n c1, .slice pb n c2] w fun e w' => e = .returned (.bool true) ∧ Below w.heap.size w w' := by
  have HA := (show Hid (IntArg .i64 w pa xs) from ha)
  have HB := (show Hid (IntArg .i64 w pb xs) from hb)
  have HN := (show Hid (n = xs.length) from hn)
  clear ha hb hn
  go_enter Tryz.func55, Tryz.ntmps55
  go_wp2_with fail
  go_loopw [13] (fun vi wr => ∃ k : Nat, vi = .int .i64 k ∧ k ≤ n ∧ Hid (Below w.heap.size w wr)) (fun vi _ => n - (intOf vi).toNat)
  case atStart => exact ⟨0, rfl, by omega, Below.refl _ _⟩
  case round =>
    obtain ⟨k, rfl, hk, HW⟩ := hrel
    by_cases hkn : k < n
    · have hkz : (k : Int) < (n : Int) := by omega
      obtain ⟨x, hx⟩ : ∃ x, xs[k]? = some x := ⟨_, List.getElem?_eq_getElem (by have := HN.out; omega)⟩
      obtain ⟨b1, o1, rfl, h1⟩ := HA.out.at hx
      obtain ⟨b2, o2, rfl, h2⟩ := HB.out.at hx
      have c1 := h1 wr HW.out
      have c2 := h2 wr HW.out
      clear hx h1 h2
      go_wp2_with fail
      go_quiet (fail)
      have HW2 := (show Hid (Below w.heap.size w _) from HW.out.trans ((below_drewN nq).mono HW.out.size))
      clear HW c1 c2
      go_wp2_with fail
      go_roundw
      case rel => exact ⟨k + 1, by go_num, by omega, HW2⟩
      case measure =>
        simp [intOf]
        omega
    · have hkz : ¬ (k : Int) < (n : Int) := by omega
      go_wp2_with fail
      go_ret
      exact ⟨rfl, HW.out⟩
end Go.Proofs.YtmefjkggibbhoaaGreat
/- slices.EqualFunc of two lists of entries that are the same. -/
namespace Go.Proofs.YtmefjkggibbhoaaGreat
open Go.RowKit Go.ChangeMaps Go.MapKept

/-- An entry's cells. -/
def ent (x : Int × Th) : List Value := .int .i64 x.1 :: (thc x.2).toList
theorem ent_len (x : Int × Th) : (ent x).length = 17 := rfl
/-- The entries lie at a. -/
def EntAt (w : World) (a : Option Addr) (xs : List (Int × Th)) : Prop := ∀ (k : Nat) (x : Int × Th), xs[k]? = some x → ∃ g, a = some ⟨g, 0, none⟩ ∧ ∀ w', Below w.heap.size w w' → w'.rangeAt g (k * 17) (ent x)
def stE (a x : Value) : Sem Next := do Instr.storeAt 118 a x; pure .skip
@[go_sem ↓] theorem execOp_stE (ρ : Operand → Value) (d : Option Tmp) (a x : Operand) (ty : TypeId) (pos : String) (af : Array Edge) (g : Option (Nat × Bool)) :
    execOp ρ { dst := d, op := .store 118 a x, type := ty, pos := pos, after := af, guard := g } = stE (ρ a) (ρ x) := rfl
theorem storeEntry_blk {w : World} {b : Nat} {c c' : Array Value} (hg : w.heap[b]? = some (.cells c 118 (0, 0))) (hs : c.size = 17) (hs' : c'.size = 17) (h1 : c'.all (·.oneCell') = true) :
    (stE (.pointer (some ⟨b, 0, none⟩)) (.agg c')).run Tryz.prog w = .ok .skip (w.setRow b c') := by
  have := run_storeAt_blk (P := Tryz.prog) hg (by rw [hs']; exact sizeEntry) (by rw [hs, hs']) h1
  simp only [stE, Sem.run_bind, this, Result.andThen, Sem.run_pure]
def zeroE : Array Value := #[.int .i64 0, .int .u8 0, .int .i64 0, .int .u8 0, .int .i64 0, .string ⟨#[]⟩, .slice none 0 0, .int .i64 0, .slice none 0 0, .int .i64 0, .int .i64 0, .int .i64 0, .int .i64 0, .int .u8 0, .bool false, .slice none 0 0, .slice none 0 0]
theorem boxed_entry (w1 : World) (xs : Array Value) (hs : xs.size = 17) (h1 : xs.all (·.oneCell') = true) :
    ∃ w2, (stE (.pointer (some ⟨w1.heap.size, 0, none⟩)) (.agg xs)).run Tryz.prog (w1.alloc (.cells #[.int .i64 0, .int .u8 0, .int .i64 0, .int .u8 0, .int .i64 0, .string ⟨#[]⟩, .slice none 0 0, .int .i64 0, .slice none 0 0, .int .i64 0, .int .i64 0, .int .i64 0, .int .i64 0, .int .u8 0, .bool false, .slice none 0 0, .slice none 0 0] 118)) = .ok .skip w2 ∧
      Below w1.heap.size w1 w2 ∧ w2.heap[w1.heap.size]? = some (.cells xs 118 (0, 0)) ∧ w2.heap.size = w1.heap.size + 1 :=
  ⟨_, storeEntry_blk (blk_new w1 _) rfl hs h1, Below.setRow ((Below.refl _ _).alloc (Nat.le_refl _) _) (Nat.le_refl _) _, heap_setRow_at (blk_new w1 _), by simp⟩

set_option maxHeartbeats 4000000 in
set_option maxRecDepth 100000 in
theorem eqfEntry_W (w : World) (pa pb : Option Addr) (n c1 c2 : Nat) (xs : List (Int × Th)) (ha : EntAt w pa xs) (hb : EntAt w pb xs) (hl : ∀ x ∈ xs, Lite x.2) (hn : n = xs.length) (hmax : (n : Int) ≤ 1099511627776) :
    Calls Tryz.prog 56 #[.slice pa n c1, .slice pb n c2, .func (.func 57) #[] #[]] w fun e w' => e = .returned (.bool true) ∧ Below w.heap.size w w' := by
  have HA := (show Hid (EntAt w pa xs) from ha)
  have HB := (show Hid (EntAt w pb xs) from hb)
  have HL := (show Hid (∀ x ∈ xs, Lite x.2) from hl)
  have HN := (show Hid (n = xs.length) from hn)
  clear ha hb hn hl
  go_enter Tryz.func56, Tryz.ntmps56
  go_wp2_with fail
  go_loopw [17] (fun vi wr => ∃ k : Nat, vi = .int .i64 k ∧ k ≤ n ∧ Hid (Below w.heap.size w wr)) (fun vi _ => n - (intOf vi).toNat)
  case atStart => exact ⟨0, rfl, by omega, Below.refl _ _⟩
  case round =>
    obtain ⟨k, rfl, hk, HW⟩ := hrel
    by_cases hkn : k < n
    · have hkz : (k : Int) < (n : Int) := by omega
      obtain ⟨⟨r, t⟩, hx⟩ : ∃ x, xs[k]? = some x := ⟨_, List.getElem?_eq_getElem (by have := HN.out; omega)⟩
      obtain ⟨k', h', vk, vn, n', l', tg, bi, s, fu, rfl, hp⟩ := HL.out _ (List.mem_of_getElem? hx)
      obtain ⟨g1, rfl, h1⟩ := HA.out k _ hx
      obtain ⟨g2, rfl, h2⟩ := HB.out k _ hx
      have l1 := loadEntry_mid (h1 wr HW.out) rfl
      obtain ⟨w2, hs2, hb2, hg2, -⟩ := boxed_entry wr (ent (r, lt k' h' vk vn n' l' tg bi s fu)).toArray rfl (by simp [ent, thc, lt, go_sem])
      have HW2 : Hid (Below w.heap.size w w2) := HW.out.trans (hb2.mono HW.out.size)
      have l2 := loadEntry_mid (h2 w2 HW2.out) rfl
      obtain ⟨w3, hs3, hb3, hg3, -⟩ := boxed_entry w2 (ent (r, lt k' h' vk vn n' l' tg bi s fu)).toArray rfl (by simp [ent, thc, lt, go_sem])
      have HW3 : Hid (Below w.heap.size w w3) := HW2.out.trans (hb3.mono HW2.out.size)
      have l3 := loadEntry_mid (rangeAt_blk (o := 0) (cs := ent (r, lt k' h' vk vn n' l' tg bi s fu)) (below_blk hb3 hg2) rfl) rfl
      have l4 := loadEntry_mid (rangeAt_blk (o := 0) (cs := ent (r, lt k' h' vk vn n' l' tg bi s fu)) hg3 rfl) rfl
      have Hp := (show Hid _ from hp)
      clear hx h1 h2 hp hb2 hg2 hb3 hg3
      go_wp2_with fail
      refine (WSame1_W w3 r k' h' vk vn n' l' tg bi s fu Hp.out).mono ?_
      rintro e w4 ⟨rfl, hb4⟩
      have HW4 : Hid (Below w.heap.size w w4) := HW3.out.trans (hb4.mono HW3.out.size)
      clear hb4 HW HW2 HW3 l1 l2 l3 l4 hs2 hs3
      go_wp2_with fail
      go_roundw
      case rel => exact ⟨k + 1, by go_num, by omega, HW4⟩
      case measure =>
        simp [intOf]
        omega
    · have hkz : ¬ (k : Int) < (n : Int) := by omega
      go_wp2_with fail
      go_ret
      exact ⟨rfl, HW.out⟩
end Go.Proofs.YtmefjkggibbhoaaGreat
