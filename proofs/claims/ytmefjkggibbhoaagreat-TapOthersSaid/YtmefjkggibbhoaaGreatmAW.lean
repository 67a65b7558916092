/- A part of the proof, several texts in one: CntB, OthB, Lives13. -/
import Derived.Test.YtmefjkggibbhoaaGreatmAQ
import Derived.Test.YtmefjkggibbhoaaGreatmAV
import Derived.Test.YtmefjkggibbhoaaGreatmAE
import Derived.Test.YtmefjkggibbhoaaGreatmAR
/- TapCounts: a tower that counts, in memory. -/
namespace Go.Proofs.YtmefjkggibbhoaaGreat
open Go.RowKit Go.ChangeMaps Go.MapKept

/-- The tower's list and map, and the map of what is wanted, beside the world. -/
abbrev TS3 (g m cap mb wb : Nat) (b : Nat) : Prop := (Value.slice (some ⟨g, 0, none⟩) m cap).ownBlock = some b ∨ b = mb ∨ b = wb
def CntM (w0 w : World) (p : Nat) (M : WM) (l : List Int) (tl c want : Int → Int) (B g m cap mb wb : Nat) : Prop :=
  OwnS w0 w p M (TS3 g m cap mb wb) ∧ Cw M l tl c ∧ (∀ n, 0 ≤ c n ∧ c n ≤ B) ∧ (∀ n, 0 ≤ want n ∧ want n ≤ B) ∧ w.ownsRow w0.heap.size 35 1 (.slice (some ⟨g, 0, none⟩) m cap) m (l.map (Value.int .i64)) ∧
    MapLe Tryz.prog 35 w mb (tlf tl) 80 ∧ MapLe Tryz.prog 35 w wb (tlf want) B ∧ w0.heap.size ≤ wb ∧ mb ≠ wb
def CntAt (w0 w : World) (p : Nat) (l : List Int) (tl c want : Int → Int) (B g m cap mb wb : Nat) : Prop := ∃ M, CntM w0 w p M l tl c want B g m cap mb wb
section
variable {w0 w w' : World} {p : Nat} {M : WM} {l : List Int} {tl c want : Int → Int} {B g m cap mb wb : Nat}
theorem CntM.below (h : CntM w0 w p M l tl c want B g m cap mb wb) (hb : Below w.heap.size w w') : CntM w0 w' p M l tl c want B g m cap mb wb := by
  obtain ⟨h1, h2, h3, h3', h4, h5, h6, h7, h8⟩ := h
  obtain ⟨h9, h10⟩ := h1.below hb
  exact ⟨h9, h2, h3, h3', h10.row h4 (fun b hb => .inl hb), h5.of_block (h10.2 mb (.inr (.inl rfl))), h6.of_block (h10.2 wb (.inr (.inr rfl))), h7, h8⟩
theorem CntAt.start {ws : World} {first : Int} (h : TowAt NoB ws w0 w p l tl first 80 g m cap mb) : CntAt w0 (w.alloc (.map #[] 0)) p l tl (fun _ => 0) (fun _ => 0) 0 g m cap mb w.heap.size := by
  obtain ⟨M, ⟨F, hW, h2, h3, h4⟩, hTw, hR, hM, -⟩ := h
  have hb : Below w.heap.size w (w.alloc (.map #[] 0)) := (Below.refl _ w).alloc (Nat.le_refl _) _
  obtain ⟨es, clk, hes⟩ := hM.is
  have hml := blk_lt hes
  obtain ⟨-, hk⟩ := OwnS.below (S := TS NoB g m cap mb) ⟨F, hW, h2, h3, h4⟩ hb
  refine ⟨M, ⟨F, hW.below hb, h2, h3.trans (hb.mono h3.size), fun b hb => ?_⟩, hTw.cw, fun n => by simp, fun n => by simp, hk.row hR (fun b hb => .inl hb), hM.of_block (hk.2 mb (.inr (.inl rfl))), ⟨0, Nat.le_refl _, ?_⟩, h3.size, by omega⟩
  · rcases hb with hb | rfl | rfl
    · have := h4 b (.inl hb)
      exact ⟨this.1, by simp; omega⟩
    · have := h4 b (.inr (.inl rfl))
      exact ⟨this.1, by simp; omega⟩
    · exact ⟨fun h => by have := hW.lt _ h; omega, by simp⟩
  · exact (HasMap.made w Tryz.prog 35).congr (fun key kl _ => by unfold tlf; split <;> simp)
theorem CntM.cell (h : CntM w0 w p M l tl c want B g m cap mb wb) {k : Nat} {x : Int} (hm : m = l.length) (hx : l[k]? = some x) : w.cell? ⟨g, k, none⟩ = some (.int .i64 x) := by
  obtain ⟨a, cap', e, hc⟩ := way_cells h.2.2.2.2.1
  cases e
  have hk := (List.getElem?_eq_some_iff.1 hx).1
  obtain ⟨g', e, -, -, hc⟩ := hc k (by omega)
  cases e
  rw [hc, List.getElem?_map, hx]
  rfl
theorem CntM.tly (h : CntM w0 w p M l tl c want B g m cap mb wb) {q : Int} (hq : (Lit.int .i64 q).wf = true) : (Instr.lookup 32 (.map (some mb)) (.int .i64 q) true).run Tryz.prog w = .ok (.tuple #[.int .i64 (tl q), .bool (tl q != 0)]) w := by
  obtain ⟨-, -, -, -, -, ⟨n, -, h6⟩, -⟩ := h
  rw [h6.look_ok keyedRef Tryz.underlying32 (zeroRef w) (key_ref hq)]
  by_cases e : tl q = 0 <;> simp [tlf, e]
theorem CntM.wanted (h : CntM w0 w p M l tl c want B g m cap mb wb) {q : Int} (hq : (Lit.int .i64 q).wf = true) : (Instr.lookup 77 (.map (some wb)) (.int .i64 q) false).run Tryz.prog w = .ok (.int .i64 (want q)) w := by
  obtain ⟨-, -, -, -, -, -, ⟨n, -, h6⟩, -⟩ := h
  rw [h6.look keyedRef Tryz.underlying77 (z := .int .i64 0) (by kernel_rfl) (key_ref hq)]
  by_cases e : want q = 0 <;> simp [tlf, e]
theorem CntM.ok (h : CntM w0 w p M l tl c want B g m cap mb wb) : M.ok := by
  obtain ⟨⟨F, hW, -⟩, -⟩ := h
  exact hW.ok
theorem CntM.wf (h : CntM w0 w p M l tl c want B g m cap mb wb) {k : Nat} {x : Int} (hx : l[k]? = some x) : (Lit.int .i64 x).wf = true := by
  obtain ⟨t, ht⟩ := h.2.1.at hx
  exact h.ok.at_wf ht
theorem CntM.tlwf (h : CntM w0 w p M l tl c want B g m cap mb wb) {k : Nat} {x : Int} (hx : l[k]? = some x) : (Lit.int .i64 (tl x)).wf = true := by
  match k with
  | 0 =>
    rw [h.2.1.head] at hx
    cases hx
    rw [h.2.1.tl1]
    rfl
  | k + 1 =>
    have hlt := (List.getElem?_eq_some_iff.1 hx).1
    rcases h.2.1.one (List.getElem?_eq_getElem (show k < l.length by omega)) hx with ⟨-, -, -, h', -, hn⟩ | ⟨h0, -⟩
    · exact h.ok.at_wf hn
    · rw [h0]
      rfl
/-- A level that a pass went through is wanted. -/
theorem CntAt.store (h : CntAt w0 w p l tl c want B g m cap mb wb) {k : Nat} {q : Int} (hq : l[k]? = some q) (hn : tl q ≠ 0) (hB : (B : Int) ≤ 1099511627776) :
    ∃ w1, (Instr.mapUpdate 77 (.map (some wb)) (.int .i64 (tl q)) (.int .i64 (want (tl q) + 1))).run Tryz.prog w = .ok () w1 ∧ CntAt w0 w1 p l tl c (bump tl want q) (B + 1) g m cap mb wb := by
  obtain ⟨M, h⟩ := h
  have hwf := h.tlwf hq
  obtain ⟨h1, h2, h3, h3', h4, h5, ⟨k, hk, h6⟩, h7, h8⟩ := h
  have hp := tlf_put (tl := want) (r := tl q) (n := want (tl q) + 1) (by have := h3' (tl q); omega)
  obtain ⟨w1, hrun, hm, ht⟩ := h6.store keyedRef Tryz.underlying77 (by unfold maxLen; omega) (key_ref hwf) (.int .i64 (want (tl q) + 1)) hp.1 hp.2
  have hT := Turned.of ht
  obtain ⟨cur, hcur⟩ := row_is h4
  obtain ⟨es, clk, hes⟩ := h6.is
  have hgm : g ≠ wb := fun e => by rw [e, hes] at hcur; cases hcur
  have hbm : bump tl want q = fun r => if r = tl q then want (tl q) + 1 else want r := by
    funext r
    unfold bump
    by_cases e : r = tl q
    · subst e; simp [hn]
    · simp [e]
  refine ⟨w1, hrun, M, h1.turned hT.2 (fun b hb => .inr (.inr hb)) (fun b hb => by rw [hb]; exact h7), h2, fun n => by have := h3 n; omega, fun n => ?_, ?_, h5.of_block (hT.block h8), ⟨_, ?_, by rw [hbm]; exact hm⟩, h7, h8⟩
  · have a1 := h3' n
    have a2 := h3' (tl q)
    rw [hbm]
    show 0 ≤ (if n = tl q then want (tl q) + 1 else want n) ∧ (if n = tl q then want (tl q) + 1 else want n) ≤ _
    split <;> omega
  · refine ⟨h4.1, ?_⟩
    rcases h4.2 with ⟨h, -⟩ | ⟨g', cap', cur', e1, e2, e3, e4⟩
    · cases h
    · cases e1
      exact .inr ⟨g, cap, cur', rfl, e2, (hT.block hgm).trans e3, e4⟩
  · split <;> omega
/-- A pass. -/
theorem CntAt.pass (h : CntAt w0 w p l tl c want B g m cap mb wb) {k : Nat} {x : Int} (hx : l[k]? = some x) (hl : l.length ≤ 81) (hB : B ≤ 1000000) :
    Calls Tryz.prog 12 #[.pointer (some ⟨p, 0, none⟩), .int .i64 x] w fun e w' => e = .returned (.int .i64 0) ∧ CntAt w0 w' p l tl ((l.take (k + 1)).foldl (bump tl) c) want (B + 81) g m cap mb wb := by
  obtain ⟨M, ⟨F, hW, h2, h3, h4⟩, hC, hc, hw, hR, hM, ⟨kw, hkw, hWt⟩, h7, h8⟩ := h
  obtain ⟨t, ht⟩ := hC.at hx
  have hlen : (l.take (k + 1)).length ≤ 81 := by rw [List.length_take]; omega
  refine (Pass_W hW (hC.tw hW.ok fun n => by have := hc n; omega) (hC.way k x hx) ht).mono ?_
  rintro e w' ⟨rfl, hW', hK⟩
  obtain ⟨h9, h10⟩ := OwnS.keep (S := TS3 g m cap mb wb) h2 h3 h4 hW' hK
  refine ⟨rfl, _, h9, ?_, fun n => ?_, fun n => by have := hw n; omega, h10.row hR (fun b hb => .inl hb), hM.of_block (h10.2 mb (.inr (.inl rfl))), ⟨kw, by omega, hWt.of_block (h10.2 wb (.inr (.inr rfl)))⟩, h7, h8⟩
  · rw [← fold_rev]
    exact hC.pass _ (fun q hq => List.mem_of_mem_take (List.mem_reverse.1 hq)) fun n => by have := hc n; rw [List.length_reverse]; omega
  · have h1 := hc n
    have h2 := fold_le tl c (l.take (k + 1)) n
    omega
end
end Go.Proofs.YtmefjkggibbhoaaGreat
/- TapOthers: in memory. -/
namespace Go.Proofs.YtmefjkggibbhoaaGreat
open Go.RowKit Go.ChangeMaps Go.MapKept

/-- What turns, by its number. -/
def tnf (xs : List Int) (key : Value) : Option Value :=
  match key with
  | .int .i64 r => if r ∈ xs then some (.bool true) else none
  | _ => none
theorem tnf_put (xs : List Int) (r : Int) : tnf (xs ++ [r]) (.int .i64 r) = some (.bool true) ∧ ∀ k, k ≠ .int .i64 r → tnf (xs ++ [r]) k = tnf xs k := by
  refine ⟨by simp [tnf], fun k hk => ?_⟩
  unfold tnf
  split
  · rename_i q
    have : q ≠ r := fun e => hk (by rw [e])
    simp [this]
  · rfl
/-- The list, the maps of the tallies and of what turns, and the blocks Z, beside the world. -/
abbrev TS4 (Z : Nat → Prop) (g m cap mb tb : Nat) (b : Nat) : Prop := (Value.slice (some ⟨g, 0, none⟩) m cap).ownBlock = some b ∨ b = mb ∨ b = tb ∨ Z b
def OthM (Z : Nat → Prop) (w0 w : World) (p : Nat) (M : WM) (l : List Int) (tl : Int → Int) (tn : List Int) (g m cap mb tb : Nat) : Prop :=
  OwnS w0 w p M (TS4 Z g m cap mb tb) ∧ Cw M l tl (fun _ => 0) ∧ w.ownsRow w0.heap.size 35 1 (.slice (some ⟨g, 0, none⟩) m cap) m (l.map (Value.int .i64)) ∧
    MapLe Tryz.prog 35 w mb (tlf tl) 80 ∧ MapLe Tryz.prog 35 w tb (tnf tn) tn.length ∧ w0.heap.size ≤ tb ∧ mb ≠ tb
/-- Behind the pass. -/
def OthZ (w : World) (p q : Nat) (M M' : WM) (tn : List Int) (tb : Nat) : Prop := (∃ F, IsW w p M' F) ∧ (∃ F, IsW w q M F) ∧ MapLe Tryz.prog 35 w tb (tnf tn) tn.length
theorem OthZ.below {w w' : World} {p q : Nat} {M M' : WM} {tn : List Int} {tb : Nat} (h : OthZ w p q M M' tn tb) (hb : Below w.heap.size w w') : OthZ w' p q M M' tn tb := by
  obtain ⟨⟨F, h1⟩, ⟨G, h2⟩, h3⟩ := h
  obtain ⟨es, c, hes⟩ := h3.is
  exact ⟨⟨F, h1.below hb⟩, ⟨G, h2.below hb⟩, h3.of_block (hb.block tb (blk_lt hes))⟩
theorem OthZ.turned {w : World} {p q : Nat} {M M' : WM} {tn : List Int} {tb : Nat} (h : OthZ w p q M M' tn tb) {r : Int} (hr : (Lit.int .i64 r).wf = true) : (Instr.lookup 36 (.map (some tb)) (.int .i64 r) false).run Tryz.prog w = .ok (.bool (decide (r ∈ tn))) w := by
  obtain ⟨-, -, ⟨n, -, h6⟩⟩ := h
  rw [h6.look keyedRef Tryz.underlying36 (z := .bool false) (by kernel_rfl) (key_ref hr)]
  by_cases e : r ∈ tn <;> simp [tnf, e]
section
variable {Z : Nat → Prop} {w0 w w' : World} {p : Nat} {M : WM} {l : List Int} {tl : Int → Int} {tn : List Int} {g m cap mb tb : Nat}
theorem OthM.below (h : OthM Z w0 w p M l tl tn g m cap mb tb) (hb : Below w.heap.size w w') : OthM Z w0 w' p M l tl tn g m cap mb tb := by
  obtain ⟨h1, h2, h4, h5, h6, h7, h8⟩ := h
  obtain ⟨h9, h10⟩ := h1.below hb
  exact ⟨h9, h2, h10.row h4 (fun b hb => .inl hb), h5.of_block (h10.2 mb (.inr (.inl rfl))), h6.of_block (h10.2 tb (.inr (.inr (.inl rfl)))), h7, h8⟩
theorem OthM.start {ws : World} {first : Int} (h : TowAt Z ws w0 w p l tl first 80 g m cap mb) : ∃ M, OthM (fun b => Z b ∨ b = w.heap.size + 1) w0 ((w.alloc (.map #[] 0)).alloc (.cells #[.map (some w.heap.size)] 36)) p M l tl [] g m cap mb w.heap.size := by
  obtain ⟨M, ⟨F, hW, h2, h3, h4⟩, hTw, hR, hM, -⟩ := h
  have hb : Below w.heap.size w ((w.alloc (.map #[] 0)).alloc (.cells #[.map (some w.heap.size)] 36)) := ((Below.refl _ w).alloc (Nat.le_refl _) _).alloc (by simp) _
  obtain ⟨es, clk, hes⟩ := hM.is
  have hml := blk_lt hes
  have hmade := (HasMap.made w Tryz.prog 35).of_block (Below.heap_alloc (w.alloc (.map #[] 0)) (.cells #[.map (some w.heap.size)] 36) w.heap.size (by simp))
  obtain ⟨-, hk⟩ := OwnS.below (S := TS Z g m cap mb) ⟨F, hW, h2, h3, h4⟩ hb
  refine ⟨M, ⟨F, hW.below hb, h2, h3.trans (hb.mono h3.size), fun b hb => ?_⟩, hTw.cw, hk.row hR (fun b hb => .inl hb), hM.of_block (hk.2 mb (.inr (.inl rfl))), ⟨0, Nat.le_refl _, ?_⟩, h3.size, by omega⟩
  · rcases hb with hb | rfl | rfl | hb | rfl
    · have := h4 b (.inl hb)
      exact ⟨this.1, by simp; omega⟩
    · have := h4 b (.inr (.inl rfl))
      exact ⟨this.1, by simp; omega⟩
    · exact ⟨fun h => by have := hW.lt _ h; omega, by simp; omega⟩
    · have := h4 b (.inr (.inr hb))
      exact ⟨this.1, by simp; omega⟩
    · exact ⟨fun h => by have := hW.lt _ h; omega, by simp⟩
  · exact hmade.congr (fun key kl _ => by unfold tnf; split <;> simp)
theorem OthM.ok (h : OthM Z w0 w p M l tl tn g m cap mb tb) : M.ok := by
  obtain ⟨⟨F, hW, -⟩, -⟩ := h
  exact hW.ok
theorem OthM.base (h : OthM Z w0 w p M l tl tn g m cap mb tb) : Below w0.heap.size w0 w := h.1.base
theorem OthM.cell (h : OthM Z w0 w p M l tl tn g m cap mb tb) {k : Nat} {x : Int} (hm : m = l.length) (hx : l[k]? = some x) : w.cell? ⟨g, k, none⟩ = some (.int .i64 x) := by
  obtain ⟨a, cap', e, hc⟩ := way_cells h.2.2.1
  cases e
  have hk := (List.getElem?_eq_some_iff.1 hx).1
  obtain ⟨g', e, -, -, hc⟩ := hc k (by omega)
  cases e
  rw [hc, List.getElem?_map, hx]
  rfl
theorem OthM.tly (h : OthM Z w0 w p M l tl tn g m cap mb tb) {q : Int} (hq : (Lit.int .i64 q).wf = true) : (Instr.lookup 32 (.map (some mb)) (.int .i64 q) false).run Tryz.prog w = .ok (.int .i64 (tl q)) w := by
  obtain ⟨-, -, -, ⟨n, -, h6⟩, -⟩ := h
  rw [h6.look keyedRef Tryz.underlying32 (zeroRef w) (key_ref hq)]
  by_cases e : tl q = 0 <;> simp [tlf, e]
theorem OthM.wf (h : OthM Z w0 w p M l tl tn g m cap mb tb) {x : Int} (hx : x ∈ l) : (Lit.int .i64 x).wf = true := by
  obtain ⟨k, hk⟩ := List.mem_iff_getElem?.1 hx
  obtain ⟨t, ht⟩ := h.2.1.at hk
  exact h.ok.at_wf ht
theorem OthM.tlwf (h : OthM Z w0 w p M l tl tn g m cap mb tb) {x : Int} (hx : x ∈ l) : (Lit.int .i64 (tl x)).wf = true := by
  obtain ⟨k, hx⟩ := List.mem_iff_getElem?.1 hx
  match k with
  | 0 =>
    rw [h.2.1.head] at hx
    cases hx
    rw [h.2.1.tl1]
    rfl
  | k + 1 =>
    have hlt := (List.getElem?_eq_some_iff.1 hx).1
    rcases h.2.1.one (List.getElem?_eq_getElem (show k < l.length by omega)) hx with ⟨-, -, -, h', -, hn⟩ | ⟨h0, -⟩
    · exact h.ok.at_wf hn
    · rw [h0]
      rfl
theorem OthM.taps (h : OthM Z w0 w p M l tl tn g m cap mb tb) {k : Nat} {x : Int} (hx : l[k]? = some x) :
    Calls Tryz.prog 10 #[.pointer (some ⟨p, 0, none⟩), .int .i64 x] w fun e w' => ∃ v, e = .returned (.tuple #[v, .int .i64 0]) ∧ w'.ownsRow w.heap.size 35 1 v (M.tapsL (l.take (k + 1)).reverse).length ((M.tapsL (l.take (k + 1)).reverse).map (Value.int .i64)) ∧ Below w.heap.size w w' := by
  obtain ⟨⟨F, hW, -⟩, hC, -⟩ := h
  obtain ⟨t, ht⟩ := hC.at hx
  exact Taps_W hW (hC.way k x hx) ht
theorem OthM.store (h : OthM Z w0 w p M l tl tn g m cap mb tb) {n : Int} (hn : (Lit.int .i64 n).wf = true) (hl : (tn.length : Int) ≤ 1099511627776) :
    ∃ w1, (Instr.mapUpdate 36 (.map (some tb)) (.int .i64 n) (.bool true)).run Tryz.prog w = .ok () w1 ∧ Keeps (fun b => b = tb) w w1 ∧ OthM Z w0 w1 p M l tl (tn ++ [n]) g m cap mb tb := by
  obtain ⟨h1, h2, h4, h5, ⟨k, hk, h6⟩, h7, h8⟩ := h
  have hp := tnf_put tn n
  obtain ⟨w1, hrun, hm, ht⟩ := h6.store keyedRef Tryz.underlying36 (by unfold maxLen; omega) (key_ref hn) (.bool true) hp.1 hp.2
  have hT := Turned.of ht
  obtain ⟨cur, hcur⟩ := row_is h4
  obtain ⟨es, clk, hes⟩ := h6.is
  have hgm : g ≠ tb := fun e => by rw [e, hes] at hcur; cases hcur
  refine ⟨w1, hrun, hT.2, h1.turned hT.2 (fun b hb => .inr (.inr (.inl hb))) (fun b hb => by rw [hb]; exact h7), h2, ?_, h5.of_block (hT.block h8), ⟨_, ?_, hm⟩, h7, h8⟩
  · refine ⟨h4.1, ?_⟩
    rcases h4.2 with ⟨h, -⟩ | ⟨g', cap', cur', e1, e2, e3, e4⟩
    · cases h
    · cases e1
      exact .inr ⟨g, cap, cur', rfl, e2, (hT.block hgm).trans e3, e4⟩
  · rw [List.length_append]
    split <;> simp <;> omega
/-- The pass, with a copy of the world beside it. -/
theorem OthM.pass {w5 : World} {q : Nat} {F2 : Nat → Prop} (h : OthM Z w0 w p M l tl tn g m cap mb tb) (hb : Below w.heap.size w w5) (hq : IsW w5 q M F2) (hF2 : ∀ b, F2 b → w.heap.size ≤ b) {k : Nat} {x : Int} (hx : l[k]? = some x) :
    Calls Tryz.prog 12 #[.pointer (some ⟨p, 0, none⟩), .int .i64 x] w5 fun e w6 => e = .returned (.int .i64 0) ∧ OthZ w6 p q M (M.pass (l.take (k + 1)).reverse) tn tb ∧ Below w0.heap.size w0 w6 ∧ w5.heap.size ≤ w6.heap.size ∧ ∀ b o, (Z b ∨ w.heap.size ≤ b) → w5.heap[b]? = some o → w6.heap[b]? = some o := by
  obtain ⟨⟨F, hW, h2, h3, h4⟩, hC, hR, hM, hT, h7, h8⟩ := h
  obtain ⟨t, ht⟩ := hC.at hx
  refine (Pass_W (hW.below hb) (hC.tw hW.ok fun n => by simp) (hC.way k x hx) ht).mono ?_
  rintro e w6 ⟨rfl, hW', hK⟩
  obtain ⟨es, c, hes⟩ := hT.is
  refine ⟨rfl, ⟨⟨F, hW'⟩, ⟨F2, hq.keeps hK fun b hb => fun e => ?_⟩, (hT.of_block (hb.block tb (blk_lt hes))).of_block (hK.block tb ?_ ?_)⟩, ?_⟩
  · have := hF2 b hb
    have := hW.lt b e
    omega
  · have := blk_lt hes
    have := hb.size
    omega
  · exact (h4 tb (.inr (.inr (.inl rfl)))).1
  · refine ⟨(h3.trans (hb.mono h3.size)).trans (hK.below (Nat.le_trans h3.size hb.size) h2), hK.size, fun b o hz ho => (hK.block b (blk_lt ho) fun e => ?_).trans ho⟩
    rcases hz with hz | hz
    · exact (h4 b (.inr (.inr (.inr hz)))).1 e
    · have := hW.lt b e
      omega
theorem OthM.lite (h : OthM Z w0 w p M l tl tn g m cap mb tb) : ∀ r t, M.at r = some t → Lite t := h.2.1.lite
end
end Go.Proofs.YtmefjkggibbhoaaGreat
/- lives of posternlaw13: it is true. -/
namespace Go.Proofs.YtmefjkggibbhoaaGreat
open Go.RowKit Go.ChangeMaps Go.MapKept

def TM1 : WM := (WM.new []).add (lt 1 0 0 0 0 0 0 0 0 false)
def TM2 : WM := (TM1.add (tallyT 0 0)).add (tapT 0 1 (TM1.last + 1))
def TM3 : WM := TM2.set 2 (tallyT 0 1)
theorem ttree : TreeOk [] := ⟨by decide, fun i p h => by simp at h⟩
theorem tths2 : TM2.things = [(1, lt 1 0 0 0 0 0 0 0 0 false), (2, tallyT 0 0), (3, tapT 0 1 2)] := rfl
theorem tths3 : TM3.things = [(1, lt 1 0 0 0 0 0 0 0 0 false), (2, tallyT 0 1), (3, tapT 0 1 2)] := rfl
theorem tlight1 : ∀ r t, TM1.at r = some t → Lite t := fun r t h => by
  have := at_mem h
  rw [show TM1.things = [(1, lt 1 0 0 0 0 0 0 0 0 false)] from rfl] at this
  simp only [List.mem_cons, List.not_mem_nil, or_false, Prod.mk.injEq] at this
  obtain ⟨-, rfl⟩ := this
  exact ⟨_, _, _, _, _, _, _, _, _, _, rfl, plain0⟩
theorem ttw {M : WM} {c : Int} (hths : M.things = [(1, lt 1 0 0 0 0 0 0 0 0 false), (2, tallyT 0 c), (3, tapT 0 1 2)]) (hm : M.made.length = 1) (hc : 0 ≤ c ∧ c ≤ 9007199254740992) : TW M := fun r t h hk => by
  have := at_mem h
  rw [hths] at this
  simp only [List.mem_cons, List.not_mem_nil, or_false, Prod.mk.injEq] at this
  rcases this with ⟨-, rfl⟩ | ⟨-, rfl⟩ | ⟨-, rfl⟩
  · cases hk
  · cases hk
  · refine ⟨0, 1, 2, 0, c, rfl, ?_, by rw [hm]; decide, hc⟩
    show M.things.lookup 2 = _
    rw [hths]
    rfl
theorem tway3 (M : WM) {c : Int} (hths : M.things = [(1, lt 1 0 0 0 0 0 0 0 0 false), (2, tallyT 0 c), (3, tapT 0 1 2)]) : WayIs M 3 [3, 1] ∧ WayIs M 1 [1] := by
  have h1 : M.at 1 = some (lt 1 0 0 0 0 0 0 0 0 false) := by
    show M.things.lookup 1 = _
    rw [hths]
    rfl
  have h3 : M.at 3 = some (tapT 0 1 2) := by
    show M.things.lookup 3 = _
    rw [hths]
    rfl
  have hw1 : WayIs M 1 [1] := WayIs.mk_base h1 rfl
  exact ⟨WayIs.mk_wrap h3 rfl hw1, hw1⟩
theorem tpass2 : TM2.pass [3, 1] = TM3 := by
  have h3 : TM2.at 3 = some (tapT 0 1 2) := rfl
  have h2 : TM2.at 2 = some (tallyT 0 0) := rfl
  show (TM2.cnt 3).cnt 1 = _
  rw [cnt_tap h3 h2]
  exact cnt_not (t := lt 1 0 0 0 0 0 0 0 0 false) rfl (by decide)
theorem tpass3 : TM3.pass [1] = TM3 := show TM3.cnt 1 = TM3 from cnt_not (t := lt 1 0 0 0 0 0 0 0 0 false) rfl (by decide)
theorem ttaps : TM3.tapsL [3, 1] = [3] := rfl

set_option maxHeartbeats 4000000 in
set_option maxRecDepth 8000 in
theorem lives13_W (w : World) : Calls Tryz.prog 7 #[] w fun e w' => e = .returned (.bool true) ∧ Below w.heap.size w w' := by
  go_enter Tryz.func7, Tryz.ntmps7
  go_wp2_with fail
  refine (New_W w none 0 [] (.inl rfl)).mono ?_
  rintro e w1 hpost
  obtain ⟨p, F, rfl, hW, hF, hb⟩ := (Or.resolve_right hpost (fun h => h.1 ttree)).2
  clear hpost
  have HO : Hid (Own w w1 p (WM.new [])) := ⟨F, hW, fun b h => hF b h, hb⟩
  clear hW hF hb
  go_wp2_with fail
  obtain ⟨F, hW, h2, h3⟩ := HO.out
  refine (Make_1 hW (by decide) (h := 0) (by decide) plain0).mono ?_
  rintro e w2 (⟨-, rfl, F', hW', hg⟩ | ⟨hx, -, -⟩)
  rotate_left
  · exact absurd (by decide) hx
  rw [makeM, if_neg (by simp)] at hW'
  have HO2 : Hid (Own w w2 p TM1) := Own.turn h2 h3 hW' hg
  clear HO hW h2 h3 hW' hg
  simp only [show (WM.new []).last + 1 = 1 from rfl]
  go_wp2_with fail
  obtain ⟨F2, hW, h2, h3⟩ := HO2.out
  refine (tMake_W hW tlight1 (by decide) (h := 0) (r := 1) (by decide) (by decide) (v := lt 1 0 0 0 0 0 0 0 0 false) rfl).mono ?_
  rintro e w3 ⟨rfl, F', hW', hg⟩
  have HO3 : Hid (Own w w3 p TM2) := Own.turn h2 h3 hW' hg
  clear HO2 hW h2 h3 hW' hg
  simp only [show TM1.last + 2 = 3 from rfl, show TM1.last + 1 = 2 from rfl]
  go_wp2_with fail
  obtain ⟨F3, hW, h2, h3⟩ := HO3.out
  refine (Pass_W hW (ttw tths2 rfl (by decide)) (tway3 TM2 tths2).1 (t0 := tapT 0 1 2) rfl).mono ?_
  rintro e w4 ⟨rfl, hW', hk⟩
  rw [tpass2] at hW'
  have HO4 : Hid (Own w w4 p TM3) := ⟨F3, hW', h2, h3.trans (Keeps.below hk h3.size h2)⟩
  clear HO3 hW h2 h3 hW' hk
  go_wp2_with fail
  obtain ⟨F4, hW, h2, h3⟩ := HO4.out
  refine (Pass_W hW (ttw tths3 rfl (by decide)) (tway3 TM3 tths3).2 (t0 := lt 1 0 0 0 0 0 0 0 0 false) rfl).mono ?_
  rintro e w5 ⟨rfl, hW', hk⟩
  rw [tpass3] at hW'
  have HO5 : Hid (Own w w5 p TM3) := ⟨F4, hW', h2, h3.trans (Keeps.below hk h3.size h2)⟩
  clear HO4 hW h2 h3 hW' hk
  go_wp2_with fail
  obtain ⟨F5, hW, h2, h3⟩ := HO5.out
  refine (Count_tap hW (r := 3) (h := 0) (tg := 1) (n := 2) (h' := 0) (c := 1) rfl rfl).mono ?_
  rintro e w6 ⟨rfl, hb⟩
  have HO6 : Hid (Own w w6 p TM3) := HO5.out.below hb
  clear HO5 hW h2 h3 hb
  go_wp2_with fail
  obtain ⟨F6, hW, h2, h3⟩ := HO6.out
  refine (Count_not hW (r := 1) (k := 1) (h := 0) (vk := 0) (vn := 0) (n := 0) (l := 0) (tg := 0) (bi := 0) (s := 0) (fu := false) rfl plain0 (by decide)).mono ?_
  rintro e w7 ⟨rfl, hb⟩
  have HO7 : Hid (Own w w7 p TM3) := HO6.out.below hb
  clear HO6 hW h2 h3 hb
  go_wp2_with fail
  obtain ⟨F7, hW, h2, h3⟩ := HO7.out
  refine (Taps_W hW (tway3 TM3 tths3).1 (t0 := tapT 0 1 2) rfl).mono ?_
  rw [ttaps]
  rintro e w8 ⟨v, rfl, hrow, hb⟩
  obtain ⟨a, cap, rfl, hcells⟩ := way_cells hrow
  obtain ⟨g, rfl, -, -, hc⟩ := hcells 0 (by decide)
  have hc : w8.cell? ⟨g, 0, none⟩ = some (.int .i64 3) := hc
  have HB8 : Hid (Below w.heap.size w w8) := h3.trans (hb.mono h3.size)
  clear HO7 hW h2 h3 hb hcells hrow
  go_wp2_with fail
  go_ret
  exact ⟨rfl, HB8.out⟩
end Go.Proofs.YtmefjkggibbhoaaGreat
