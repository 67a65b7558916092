/- A part of the proof, several texts in one: OthW. -/
import Derived.Test.YtmefjkggibbhoaaGreatmAW
import Derived.Test.YtmefjkggibbhoaaGreatmAX
import Derived.Test.YtmefjkggibbhoaaGreatmAT
import Derived.Test.YtmefjkggibbhoaaGreatmAI
/- TapOthers: the walk. -/
namespace Go.Proofs.YtmefjkggibbhoaaGreat
open Go.RowKit Go.Shelf Go.ChangeMaps Go.MapKept
attribute [local go_sem] Oper.semAt_some

/-- The boxes of the argument and of the result, in a later world. -/
def BoxR (w w' : World) (v0 v1 : Value) : Prop := Below w.heap.size w w' ∧ w.heap.size + 2 ≤ w'.heap.size ∧ w'.heap[w.heap.size]? = some (.cells #[v0, v1] 24 (0, 0)) ∧ w'.heap[w.heap.size + 1]? = some (.cells #[.bool false] 4 (0, 0))
theorem BoxR.below {w w1 w2 : World} {v0 v1 : Value} (h : BoxR w w1 v0 v1) (hb : Below (w.heap.size + 2) w1 w2) : BoxR w w2 v0 v1 :=
  ⟨h.1.trans (hb.mono (by omega)), Nat.le_trans h.2.1 hb.size, (hb.block _ (by omega)).trans h.2.2.1, (hb.block _ (by omega)).trans h.2.2.2⟩
theorem BoxR.cell0 {w w' : World} {v0 v1 : Value} (h : BoxR w w' v0 v1) : w'.cell? ⟨w.heap.size, 0, none⟩ = some v0 := by rw [cell_blk h.2.2.1]; rfl

/-- .. and of the world and of what turns. -/
structure OB (w w' : World) (v0 v1 : Value) (b5 p tb : Nat) : Prop where
  r : BoxR w w' v0 v1
  bw : w'.heap[b5]? = some (.cells #[.pointer (some ⟨p, 0, none⟩)] 26 (0, 0))
  bt : w'.heap[tb + 1]? = some (.cells #[.map (some tb)] 36 (0, 0))
  lt : w.heap.size + 2 ≤ b5 ∧ b5 < tb
theorem OB.below {w w1 w2 : World} {v0 v1 : Value} {b5 p tb : Nat} (h : OB w w1 v0 v1 b5 p tb) (hb : Below w1.heap.size w1 w2) : OB w w2 v0 v1 b5 p tb :=
  ⟨h.r.below (hb.mono h.r.2.1), below_blk hb h.bw, below_blk hb h.bt, h.lt⟩
theorem OB.turned {w w1 w2 : World} {v0 v1 : Value} {b5 p tb : Nat} (h : OB w w1 v0 v1 b5 p tb) (hk : Keeps (fun b => b = tb) w1 w2) : OB w w2 v0 v1 b5 p tb :=
  ⟨h.r.below (hk.below h.r.2.1 (fun x e => by have := h.lt; omega)), (hk.block _ (blk_lt h.bw) (fun e => by have := h.lt; omega)).trans h.bw, (hk.block _ (blk_lt h.bt) (fun e => by omega)).trans h.bt, h.lt⟩

/-- The list U, in a block that is not tb. -/
def ListAt (a : Option Addr) (U : List Int) (tb : Nat) (w : World) : Prop := ∀ (k : Nat) (x : Int), U[k]? = some x → ∃ g, a = some ⟨g, 0, none⟩ ∧ g ≠ tb ∧ w.cell? ⟨g, k, none⟩ = some (.int .i64 x)
theorem ListAt.turned {a : Option Addr} {U : List Int} {tb : Nat} {w w' : World} (h : ListAt a U tb w) (hk : Keeps (fun b => b = tb) w w') : ListAt a U tb w' := fun k x hx => by
  obtain ⟨g, h1, h2, h3⟩ := h k x hx
  exact ⟨g, h1, h2, (World.cell?_of_block (a := ⟨g, k, none⟩) (hk.block g (World.block_lt_of_cell? _ _ h3) h2)).trans h3⟩
theorem ListAt.of_row {w : World} {base tb cap : Nat} {a : Option Addr} {U : List Int} (h : w.ownsRow base 35 1 (.slice a U.length cap) U.length (U.map (Value.int .i64))) (hb : tb < base) : ListAt a U tb w := fun k x hx => by
  obtain ⟨a', cap', e, hc⟩ := way_cells h
  cases e
  obtain ⟨g, h1, h2, -, h3⟩ := hc k (List.getElem?_eq_some_iff.1 hx).1
  refine ⟨g, h1, by omega, h3.trans ?_⟩
  rw [List.getElem?_map, hx]
  rfl

/-- Behind the pass: the boxes, of the copy too, and both worlds. -/
structure OE (w w' : World) (v0 v1 : Value) (b5 p tb b15 q : Nat) (M M' : WM) (tn : List Int) : Prop where
  b : OB w w' v0 v1 b5 p tb
  bq : w'.heap[b15]? = some (.cells #[.pointer (some ⟨q, 0, none⟩)] 26 (0, 0))
  z : OthZ w' p q M M' tn tb
theorem OE.below {w w1 w2 : World} {v0 v1 : Value} {b5 p tb b15 q : Nat} {M M' : WM} {tn : List Int} (h : OE w w1 v0 v1 b5 p tb b15 q M M' tn) (hb : Below w1.heap.size w1 w2) : OE w w2 v0 v1 b5 p tb b15 q M M' tn :=
  ⟨h.b.below hb, below_blk hb h.bq, h.z.below hb⟩

theorem oth_end {w W W1 : World} {v0 v1 : Value} {D : Nat} (hx : BoxR w W v0 v1) (hb1 : Below W.drew.heap.size W.drew W1) (hK : W.heap[D]? = some (.deferred (some []))) (hD : w.heap.size + 2 ≤ D) :
    (W1.setCell ⟨w.heap.size + 1, 0, none⟩ (.bool true)).heap[D]? = some (.deferred (some [])) ∧ ((W1.setCell ⟨w.heap.size + 1, 0, none⟩ (.bool true)).putObj D (.deferred none)).cell? ⟨w.heap.size + 1, 0, none⟩ = some (.bool true) ∧
      Below w.heap.size w ((W1.setCell ⟨w.heap.size + 1, 0, none⟩ (.bool true)).putObj D (.deferred none)) := by
  have h1 : BoxR w W1 v0 v1 := (hx.below (below_drew.mono hx.2.1)).below (hb1.mono hx.2.1)
  have hne : w.heap.size + 1 ≠ D := by omega
  have hk1 : W1.heap[D]? = some (.deferred (some [])) := below_blk hb1 hK
  refine ⟨(Below.heap_setCell _ _ _ _ (fun e => hne e.symm)).trans hk1, ?_, (h1.1.setCell (p := ⟨w.heap.size + 1, 0, none⟩) (Nat.le_succ _) _).grown (grownBy_putObj' _ D _) ?_ (fun k e => by cases e; omega)⟩
  · have hs := heap_setCell_box (.bool true) h1.2.2.2
    rw [cell_blk ((World.putObj_heap_other hne).trans hs)]
    rfl
  · have := h1.2.1
    simp [World.setCell]
    omega
theorem eqSeq (w : World) (b : Nat) : (binOp .eql 42 (.func (.func 44) #[] #[.pointer (some ⟨b, 0, none⟩)]) .nilFunc).run Tryz.prog w = .ok (.bool false) w := by kernel_rfl

set_option maxHeartbeats 16000000 in
set_option maxRecDepth 100000 in
theorem others_W (w : World) (la qa : Option Addr) (c n c2 n2 : Nat) (kk : Int) (lv : List Int) (hl : IntArg .u8 w la lv) (hv : ∀ x ∈ lv, 0 ≤ x ∧ x ≤ 255) (hn : n = lv.length) (hkk : 0 ≤ kk ∧ kk ≤ 255) :
    Calls Tryz.prog 3 #[.agg #[.slice la n c, .slice qa n2 c2], .int .u8 kk] w fun e w' => e = .returned (.bool true) ∧ Below w.heap.size w w' := by
  have hmm := @run_makeMap Tryz.prog
  have Hl := (show Hid (IntArg .u8 w la lv) from hl)
  have Hv := (show Hid (∀ x ∈ lv, 0 ≤ x ∧ x ≤ 255) from hv)
  have Hn := (show Hid (n = lv.length) from hn)
  have Hkk := (show Hid (0 ≤ kk ∧ kk ≤ 255) from hkk)
  clear hl hv hn hkk
  refine (callsIn_wide (n := 5)).1 ?_
  refine callsIn_of_wp_marks Tryz.func3 rfl trivial ?_ rfl
  simp only [Tryz.ntmps3, List.size_toArray, List.length_cons, List.length_nil, Nat.reduceAdd, Nat.reduceSub, Array.replicate_succ, Array.replicate_zero, List.push_toArray, List.append_toArray, List.nil_append, List.cons_append]
  gi_wp2_with fail
  have hX : BoxR w ((w.alloc (.cells #[.slice la n c, .slice qa n2 c2] 24)).alloc (.cells #[.bool false] 4)) (.slice la n c) (.slice qa n2 c2) :=
    ⟨((Below.refl _ w).alloc (Nat.le_refl _) _).alloc (by simp) _, by simp, blk2_old w _ _, blk2_new w _ _⟩
  have HX := (show Hid _ from hX)
  clear hX
  generalize (w.alloc (.cells #[.slice la n c, .slice qa n2 c2] 24)).alloc (.cells #[.bool false] 4) = w1 at *
  refine ⟨trivial, (callsIn_wide.2 (lives13_W w1)).mono ?_⟩
  rintro e w2 ⟨rfl, hb⟩
  have HX2 : Hid (BoxR w w2 (.slice la n c) (.slice qa n2 c2)) := BoxR.below HX.out (hb.mono HX.out.2.1)
  clear hb HX
  gi_wp2_with fail
  refine ⟨trivial, (callsIn_wide.2 (New_W _ _ 1 [0] (.inr ⟨w2.heap.size, 0, rfl, fun j x hx => ?_⟩))).mono ?_⟩
  · rw [cell_blk (blk_new w2 _)]
    match j, hx with
    | 0, hx => simpa using hx
  rintro e w3 hpost
  obtain ⟨p, F, rfl, hW, hF, hb⟩ := (Or.resolve_right hpost (fun h => h.1 tree0)).2
  clear hpost
  have hb3 : Below w2.heap.size w2 w3 := ((Below.refl _ w2).alloc (Nat.le_refl _) _).trans (hb.mono (by simp))
  have HX3 : Hid (BoxR w w3 (.slice la n c) (.slice qa n2 c2)) := BoxR.below HX2.out (hb3.mono (by have := HX2.out.2.1; omega))
  have HO3 : Hid (∃ F, IsW w3 p (WM.new [0]) F ∧ (∀ b, F b → w2.heap.size ≤ b) ∧ Below w2.heap.size w2 w3) := ⟨F, hW, fun b h => by have := hF b h; simp at this; omega, hb3⟩
  clear hW hF hb hb3
  have c0 : (w3.alloc (.cells #[.pointer (some ⟨p, 0, none⟩)] 26)).cell? ⟨w.heap.size, 0, none⟩ = some (.slice la n c) := by
    rw [cell_blk (blk_old w3 _ HX3.out.2.2.1)]; rfl
  gi_wp2_with fail
  have HO4 : Hid (OwnS w2 (w3.alloc (.cells #[.pointer (some ⟨p, 0, none⟩)] 26)) p (WM.new [0]) (fun b => b = w3.heap.size)) := by
    obtain ⟨F, h1, h2, h3⟩ := HO3.out
    have hb : Below w3.heap.size w3 (w3.alloc (.cells #[.pointer (some ⟨p, 0, none⟩)] 26)) := (Below.refl _ w3).alloc (Nat.le_refl _) _
    exact ⟨F, h1.below hb, h2, h3.trans (hb.mono h3.size), fun b hb => by subst hb; exact ⟨fun h => by have := h1.lt _ h; omega, by simp⟩⟩
  have HX4 : Hid (BoxR w (w3.alloc (.cells #[.pointer (some ⟨p, 0, none⟩)] 26)) (.slice la n c) (.slice qa n2 c2)) := HX3.out.below ((Below.refl _ w3).alloc HX3.out.2.1 _)
  have HB5 : Hid ((w3.alloc (.cells #[.pointer (some ⟨p, 0, none⟩)] 26)).heap[w3.heap.size]? = some (.cells #[.pointer (some ⟨p, 0, none⟩)] 26 (0, 0))) := World.alloc_heap_new w3 _
  have Hlt5 : Hid (w.heap.size + 2 ≤ w3.heap.size) := HX3.out.2.1
  have Hl2 : Hid (IntArg .u8 w2 la lv) := Hl.out.of_below HX2.out.1
  refine ⟨trivial, (callsIn_wide.2 (tower_W HO4.out la c n lv Hl2.out Hv Hn)).mono ?_⟩
  rintro e w5 ⟨g, m, cap, mb, rfl, l, tl, first, hm, hT⟩
  have HX5 : Hid (BoxR w w5 (.slice la n c) (.slice qa n2 c2) ∧ w5.heap[w3.heap.size]? = some (.cells #[.pointer (some ⟨p, 0, none⟩)] 26 (0, 0))) := by
    obtain ⟨M, hS, -, -, -, -, hK, -⟩ := hT
    have h1 := hS.base
    have h2 := HX2.out
    exact ⟨BoxR.below h2 (h1.mono h2.2.1), (hK.2 _ rfl).trans HB5.out⟩
  obtain ⟨hlen, hle⟩ : 1 ≤ m ∧ m ≤ 81 := by
    obtain ⟨M, -, hTw, -⟩ := hT
    have := hTw.ne
    have := hTw.llen
    omega
  have Hm := (show Hid (m = l.length) from hm)
  have HT := (show Hid (TowAt (fun b => b = w3.heap.size) (w3.alloc (.cells #[.pointer (some ⟨p, 0, none⟩)] 26)) w2 w5 p l tl first 80 g m cap mb) from hT)
  obtain ⟨k2, hk2, hke⟩ : ∃ k2 : Nat, k2 < m ∧ kk % (m : Int) = (k2 : Int) := by
    have h1 := Int.emod_nonneg kk (show (m : Int) ≠ 0 by omega)
    have h2 := Int.emod_lt_of_pos kk (show (0 : Int) < m by omega)
    exact ⟨(kk % (m : Int)).toNat, by omega, by omega⟩
  obtain ⟨x, hx⟩ : ∃ x, l[k2]? = some x := ⟨_, List.getElem?_eq_getElem (by have := Hm.out; omega)⟩
  have hcx : w5.cell? ⟨g, k2, none⟩ = some (.int .i64 x) := by
    obtain ⟨M, -, -, hR, -⟩ := hT
    obtain ⟨a, cap', e, hc⟩ := way_cells hR
    cases e
    obtain ⟨g', e, -, -, hc⟩ := hc k2 hk2
    cases e
    rw [hc, List.getElem?_map, hx]
    rfl
  have Hx := (show Hid (l[k2]? = some x) from hx)
  have hkz : (k2 : Int) < (m : Int) := by omega
  have hml : ((m : Int) == 0) = false := by
    have : (m : Int) ≠ 0 := by omega
    simpa using this
  obtain ⟨hk0, hk1⟩ := Hkk.out
  have HB6 : Hid (OB w ((w5.alloc (.map #[] 0)).alloc (.cells #[.map (some w5.heap.size)] 36)) (.slice la n c) (.slice qa n2 c2) w3.heap.size p w5.heap.size) := by
    have h1 : Below w5.heap.size w5 ((w5.alloc (.map #[] 0)).alloc (.cells #[.map (some w5.heap.size)] 36)) := ((Below.refl _ w5).alloc (Nat.le_refl _) _).alloc (by simp) _
    exact ⟨HX5.out.1.below (h1.mono HX5.out.1.2.1), below_blk h1 HX5.out.2, blk2_new w5 _ _, Hlt5.out, blk_lt HX5.out.2⟩
  have c5 : ((w5.alloc (.map #[] 0)).alloc (.cells #[.map (some w5.heap.size)] 36)).cell? ⟨w3.heap.size, 0, none⟩ = some (.pointer (some ⟨p, 0, none⟩)) := by rw [cell_blk HB6.out.bw]; rfl
  have HM6 := OthM.start HT.out
  clear hm hT hx c0 HT HX5 HX4 HB5 HO4 HO3 HX3 Hlt5 Hl2
  gi_wp2_with fail
  clear hcx c5
  revert HM6 HB6
  generalize (w5.alloc _).alloc _ = w6
  generalize w5.heap.size = tb
  generalize w3.heap.size = b5
  rintro HB6 ⟨M, hM⟩
  have HM := (show Hid (OthM (fun b => b = b5 ∨ b = tb + 1) w2 w6 p M l tl [] g m cap mb tb) from hM)
  clear hM w5 w3 w1 hml hk0 hk1 hke hkz
  refine ⟨trivial, (callsIn_wide.2 (HM.out.taps Hx.out)).mono ?_⟩
  rintro e w7 ⟨v, rfl, hr, hb⟩
  obtain ⟨a7, cap7, rfl, -⟩ := list_in hr
  have HM7 := (show Hid (OthM (fun b => b = b5 ∨ b = tb + 1) w2 w7 p M l tl [] g m cap mb tb) from HM.out.below hb)
  have HB7 : Hid (OB w w7 (.slice la n c) (.slice qa n2 c2) b5 p tb) := HB6.out.below hb
  have HL7 : Hid (ListAt a7 (M.tapsL (l.take (k2 + 1)).reverse) tb w7) := ListAt.of_row hr (Nat.lt_of_succ_lt (blk_lt HB6.out.bt))
  have hU : (M.tapsL (l.take (k2 + 1)).reverse).length ≤ 81 := tapsL_le M l (by have := Hm.out; omega) _
  have HUl : Hid (∀ q ∈ M.tapsL (l.take (k2 + 1)).reverse, q ∈ l) := fun q hq => List.mem_of_mem_take (List.mem_reverse.1 ((List.mem_filter.1 hq).1))
  have HUe : Hid (M.tapsL (l.take (k2 + 1)).reverse = M.tapsL (l.take (k2 + 1)).reverse) := rfl
  clear hr hb HB6 HM w6
  revert HL7 hU HUl HUe
  generalize hUU : M.tapsL (l.take (k2 + 1)).reverse = U
  intro HL7 hU HUl _
  have HUU := (show Hid (M.tapsL (l.take (k2 + 1)).reverse = U) from hUU)
  obtain ⟨n7, hn7⟩ : ∃ n7, n7 = U.length := ⟨_, rfl⟩
  have Hn7 := (show Hid (n7 = U.length) from hn7)
  rw [← hn7] at hU ⊢
  clear hUU hn7
  gi_wp2_with fail
  gi_loopw [14] (fun vi wr => ∃ k : Nat, vi = .int .i64 k ∧ k ≤ n7 ∧ Hid (OthM (fun b => b = b5 ∨ b = tb + 1) w2 wr p M l tl ((U.take k).map tl) g m cap mb tb) ∧ Hid (OB w wr (.slice la n c) (.slice qa n2 c2) b5 p tb) ∧ Hid (ListAt a7 U tb wr)) (fun vi _ => n7 - (intOf vi).toNat)
  case atStart => exact ⟨0, rfl, by omega, HM7, HB7, HL7⟩
  case round =>
    clear HM7 HB7 HL7
    obtain ⟨k, rfl, hk, HM7, HB7, HL7⟩ := hrel
    by_cases hkn : k < n7
    · have hkz : (k : Int) < (n7 : Int) := by omega
      obtain ⟨q, hq⟩ : ∃ q, U[k]? = some q := ⟨_, List.getElem?_eq_getElem (by have := Hn7.out; omega)⟩
      obtain ⟨g7, rfl, -, hcq⟩ := HL7.out k q hq
      have hql := HUl.out q (List.mem_of_getElem? hq)
      have hMd := HM7.out.below (below_drew (w := wr))
      have hly := hMd.tly (HM7.out.wf hql)
      obtain ⟨w8, hrun, hK8, hM8⟩ := hMd.store (HM7.out.tlwf hql) (by rw [List.length_map, List.length_take]; omega)
      have HM8 : Hid (OthM (fun b => b = b5 ∨ b = tb + 1) w2 w8 p M l tl ((U.take (k + 1)).map tl) g m cap mb tb) := by
        have : (U.take (k + 1)).map tl = (U.take k).map tl ++ [tl q] := by rw [List.take_add_one, hq]; simp
        show OthM _ _ _ _ _ _ _ _ _ _ _ _ _
        rw [this]
        exact hM8
      have HB8 : Hid (OB w w8 (.slice la n c) (.slice qa n2 c2) b5 p tb) := (HB7.out.below (below_drew (w := wr))).turned hK8
      have HL8 : Hid (ListAt (some ⟨g7, 0, none⟩) U tb w8) := (ListAt.turned HL7.out (Keeps.of_below below_drew)).turned hK8
      have c11 : wr.cell? ⟨tb + 1, 0, none⟩ = some (.map (some tb)) := by rw [cell_blk HB7.out.bt]; rfl
      clear hq hql hMd hK8 hM8 HM7 HB7 HL7
      gi_wp2_with fail
      gi_region
      gi_wp2_with fail
      go_roundw
      case rel => exact ⟨k + 1, by go_num, by omega, HM8, HB8, HL8⟩
      case measure =>
        simp [intOf]
        omega
    · have hkz : ¬ (k : Int) < (n7 : Int) := by omega
      have HM8 : Hid (OthM (fun b => b = b5 ∨ b = tb + 1) w2 wr p M l tl (U.map tl) g m cap mb tb) := by
        have := HM7.out
        rw [List.take_of_length_le (by have := Hn7.out; omega)] at this
        exact this
      have c5 : wr.cell? ⟨b5, 0, none⟩ = some (.pointer (some ⟨p, 0, none⟩)) := by rw [cell_blk HB7.out.bw]; rfl
      clear HM7 HL7
      gi_wp2_with fail
      obtain ⟨⟨F1, hW1, h2, h3, h4⟩, hC, hrest⟩ := HM8.out
      refine ⟨trivial, (callsIn_wide.2 (Copy_W hW1 hC.lite)).mono ?_⟩
      rintro e w9 ⟨q, F2, rfl, hWq, hF2, hb9⟩
      have hb10 : Below wr.heap.size wr (w9.alloc (.cells #[.pointer (some ⟨q, 0, none⟩)] 26)) := hb9.trans (((Below.refl _ w9).alloc (Nat.le_refl _) _).mono hb9.size)
      have HB10 : Hid (OB w (w9.alloc (.cells #[.pointer (some ⟨q, 0, none⟩)] 26)) (.slice la n c) (.slice qa n2 c2) b5 p tb ∧ (w9.alloc (.cells #[.pointer (some ⟨q, 0, none⟩)] 26)).heap[w9.heap.size]? = some (.cells #[.pointer (some ⟨q, 0, none⟩)] 26 (0, 0)) ∧ wr.heap.size ≤ w9.heap.size) :=
        ⟨HB7.out.below hb10, World.alloc_heap_new w9 _, hb9.size⟩
      have hps := HM8.out.pass hb10 (hWq.below ((Below.refl _ w9).alloc (Nat.le_refl _) _)) hF2 Hx.out
      have HPS := (show Hid _ from hps)
      have c5' : (w9.alloc (.cells #[.pointer (some ⟨q, 0, none⟩)] 26)).cell? ⟨b5, 0, none⟩ = some (.pointer (some ⟨p, 0, none⟩)) := by rw [cell_blk HB10.out.1.bw]; rfl
      have HC := (show Hid (Cw M l tl fun _ => 0) from hC)
      have HOK := (show Hid (M.ok) from hW1.ok)
      clear hW1 h2 h3 h4 hC hrest hWq hF2 hb9 hb10 hps c5 HM8 HB7
      gi_wp2_with fail
      refine ⟨trivial, (callsIn_wide.2 HPS.out).mono ?_⟩
      rintro e w11 ⟨rfl, hZ, hB2, hsz, hkeep⟩
      have HE : Hid (OE w w11 (.slice la n c) (.slice qa n2 c2) b5 p tb w9.heap.size q M (M.pass (l.take (k2 + 1)).reverse) (U.map tl)) := by
        obtain ⟨h1, h2, h3⟩ := HB10.out
        have h4 := HX2.out.2.1
        exact ⟨⟨BoxR.below HX2.out (hB2.mono h4), hkeep _ _ (.inl (.inl rfl)) h1.bw, hkeep _ _ (.inl (.inr rfl)) h1.bt, h1.lt⟩, hkeep _ _ (.inr h3) h2, hZ⟩
      have c11 : w11.cell? ⟨b5, 0, none⟩ = some (.pointer (some ⟨p, 0, none⟩)) := by rw [cell_blk HE.out.b.bw]; rfl
      clear hZ hB2 hsz hkeep HPS HB10 c5' hkz
      revert HE
      generalize w9.heap.size = b15
      intro HE
      gi_wp2_with fail
      clear w9 wr
      refine ⟨trivial, (callsIn_wide.2 (Things_W w11 p)).mono ?_⟩
      rintro e w12 ⟨rfl, rfl⟩
      have HE2 : Hid (OE w (w11.alloc (.cells #[.pointer (some ⟨p, 0, none⟩)] 26)) (.slice la n c) (.slice qa n2 c2) b5 p tb b15 q M (M.pass (l.take (k2 + 1)).reverse) (U.map tl)) := HE.out.below ((Below.refl _ w11).alloc (Nat.le_refl _) _)
      have c12 : (w11.alloc (.cells #[.pointer (some ⟨p, 0, none⟩)] 26)).cell? ⟨b5, 0, none⟩ = some (.pointer (some ⟨p, 0, none⟩)) := by rw [cell_blk HE2.out.b.bw]; rfl
      have hq := eqSeq (w11.alloc (.cells #[.pointer (some ⟨p, 0, none⟩)] 26)) w11.heap.size
      clear HE c11
      gi_wp2_with fail
      clear hq
      revert HE2 c12
      generalize w11.alloc _ = w12
      generalize w11.heap.size = bx0
      intro HE2 c12
      clear w11
      refine ⟨trivial, (callsIn_wide.2 (Things_W w12 p)).mono ?_⟩
      rintro e w13 ⟨rfl, rfl⟩
      have hbx : (w12.alloc (.cells #[.pointer (some ⟨p, 0, none⟩)] 26)).cell? ⟨w12.heap.size, 0, none⟩ = some (.pointer (some ⟨p, 0, none⟩)) := by
        rw [cell_blk (World.alloc_heap_new w12 _)]; rfl
      have HE3 : Hid (OE w (w12.alloc (.cells #[.pointer (some ⟨p, 0, none⟩)] 26)) (.slice la n c) (.slice qa n2 c2) b5 p tb b15 q M (M.pass (l.take (k2 + 1)).reverse) (U.map tl)) := HE2.out.below ((Below.refl _ w12).alloc (Nat.le_refl _) _)
      have Hbx := (show Hid _ from hbx)
      clear HE2 c12 hbx
      gi_wp2_with fail
      have hseq := things1_seq (n := 4) (HE3.out.z.1.choose_spec) Hbx.out (fun _ _ => False) (fun _ _ _ h => h.elim) (fun y : {x // x ∈ (M.pass (l.take (k2 + 1)).reverse).things} => y.1) (M.pass (l.take (k2 + 1)).reverse).things.attach (List.attach_map_subtype_val _)
      have HSQ := (show Hid _ from hseq)
      clear hseq Hbx
      revert HE3 HSQ
      generalize w12.alloc _ = w13
      generalize w12.heap.size = bx
      intro HE3 HSQ
      refine wpIn_rangeFunc_ownF rfl (by decide) (gf := 44) (lb := #[.pointer (some ⟨bx, 0, none⟩)]) rfl trivial (enters_of Tryz.func44 (by kernel_rfl) rfl) HSQ.out (fun h k => h.trans k)
        (fun W l o o' hl ho hc _ => ⟨by simp, fun b cs e fr hb _ => (World.putObj_heap_other (fun h => by subst h; rw [hb] at ho; cases ho; cases hc)).trans hb, fun _ h => h.elim⟩) (Below.refl _ _) (fun _ => rfl)
        (fun (_ : List {x // x ∈ (M.pass (l.take (k2 + 1)).reverse).things}) W => Below w13.heap.size w13 W) (fun _ _ _ => False)
        (fun s W W' row hs hg hr => by exact hs.grown hg hs.size (fun k e => (hr k e).1)) (fun _ _ _ _ _ hs _ _ => hs) (Below.refl _ _)
        (fun y => { tmps := #[.agg #[.slice la n c, .slice qa n2 c2], .int .u8 kk, .pointer (some ⟨w.heap.size, 0, none⟩), undef, .pointer (some ⟨w.heap.size + 1, 0, none⟩), .pointer (some ⟨b5, 0, none⟩), .int .i64 0, .slice (some ⟨g, 0, none⟩) m cap, .map (some mb), .bool true, .int .i64 x, .pointer (some ⟨tb + 1, 0, none⟩), .slice a7 n7 cap7, .int .i64 0, .int .i64 (k : Int), .pointer (some ⟨b15, 0, none⟩), .int .i64 y.1.1, undef, undef, undef, undef, .bool true, .bool false, .tuple #[.pointer (some ⟨p, 0, none⟩), .int .i64 0], .slice (some ⟨w2.heap.size, 0, none⟩) 1 1, .tuple #[.pointer (some ⟨p, 0, none⟩), .int .i64 0], .pointer (some ⟨p, 0, none⟩), .int .i64 0, .int .i64 0, .bool false, .tuple #[.slice (some ⟨g, 0, none⟩) m cap, .map (some mb), .bool true], .pointer (some ⟨p, 0, none⟩), .pointer (some ⟨w.heap.size, 0, none⟩), .slice la n c, .tuple #[.slice (some ⟨g, 0, none⟩) m cap, .map (some mb), .bool true], .slice (some ⟨g, 0, none⟩) m cap, .map (some mb), .bool true, .bool true, .bool false, .slice (some ⟨g, 0, none⟩) m cap, .int .u8 kk, .int .i64 kk, .slice (some ⟨g, 0, none⟩) m cap, .int .i64 (m : Int), .int .i64 (kk % (m : Int)), .pointer (some ⟨g, k2, none⟩), .int .i64 x, .map (some tb), .tuple #[.slice a7 n7 cap7, .int .i64 0], .pointer (some ⟨p, 0, none⟩), .int .i64 x, .tuple #[.slice a7 n7 cap7, .int .i64 0], .slice a7 n7 cap7, .int .i64 0, .int .i64 (k : Int), .slice a7 n7 cap7, .int .i64 (n7 : Int), .bool false, u59, u60, u61, u62, u63, u64, u65, u66, u67, .pointer (some ⟨p, 0, none⟩), .pointer (some ⟨q, 0, none⟩), .int .i64 0, .bool false, .bool false, .pointer (some ⟨p, 0, none⟩), .int .i64 x, .int .i64 0, .bool false, .bool false, .pointer (some ⟨p, 0, none⟩), .func (.func 44) #[] #[.pointer (some ⟨bx0, 0, none⟩)], .bool false, .pointer (some ⟨p, 0, none⟩), .func (.func 44) #[] #[.pointer (some ⟨bx, 0, none⟩)], .int .i64 y.1.1, .int .u8 y.1.2.kind, undef, undef, undef, undef, undef, undef, undef, undef, undef, undef, undef, undef, undef, undef, undef, undef, undef, undef, undef, undef, undef, undef, undef, undef, undef, undef, undef, undef, undef, undef, undef, undef, undef, undef, undef, undef, undef, undef, undef, undef, undef, undef, undef, undef, undef, undef, undef, undef, undef, undef, undef], defers := [] }) ?assign ?body ?done ?stop
      case assign =>
        intro l x W K hK
        gi_wp2
        exact hK
      case body =>
        rintro lo pre ⟨⟨i, t⟩, hm⟩ W hI -
        have HI := (show Hid (Below w13.heap.size w13 W) from hI)
        have HE4 : Hid (OE w W (.slice la n c) (.slice qa n2 c2) b5 p tb b15 q M (M.pass (l.take (k2 + 1)).reverse) (U.map tl)) := HE3.out.below hI
        obtain ⟨⟨F1, hW1⟩, ⟨F2, hW2⟩, -⟩ := HE4.out.z
        have hat : (M.pass (l.take (k2 + 1)).reverse).at i = some t := hW1.ok.at_of_mem hm
        obtain ⟨u, hu⟩ := pass_back _ hat
        have hin : ∀ q ∈ (l.take (k2 + 1)).reverse, q ∈ l := fun q hq => List.mem_of_mem_take (List.mem_reverse.1 hq)
        have hpt := HC.out.pass_thing (l.take (k2 + 1)).reverse hin (fun n => by
          have := Hm.out
          rw [List.length_reverse, List.length_take]
          show (0 : Int) ≤ 0 ∧ (0 : Int) + _ ≤ _
          omega) hu
        have htu := HC.out.turned (l.take (k2 + 1)).reverse hin i
        rw [HUU.out] at htu
        have hd0 := hits_nonneg tl (l.take (k2 + 1)).reverse i
        revert hpt htu hd0
        generalize hits tl (l.take (k2 + 1)).reverse i = d
        intro hpt htu hd0
        obtain ⟨k', h', vk, vn, n', l', tg, bi, s, fu, rfl, hp⟩ := HC.out.lite i u hu
        rw [hat] at hpt
        obtain rfl := Option.some.inj hpt
        have hat2 : (M.pass (l.take (k2 + 1)).reverse).at i = some (lt k' h' vk vn (n' + d) l' tg bi s fu) := hat
        have hiw := HOK.out.at_wf hu
        have hwa := What_lt hW2 hiw hu hp
        have hwb := fun W' (hb : Below W.heap.size W W') => What_lt (hW1.below hb) hiw hat2 hp
        have hlk : ∀ W', Below W.heap.size W W' → (Instr.lookup 36 (.map (some tb)) (.int .i64 i) false).run Tryz.prog W' = .ok (.bool (decide (i ∈ U.map tl))) W' := fun W' hb => (HE4.out.z.below hb).turned hiw
        have HWA := (show Hid _ from hwa)
        have HWB := (show Hid _ from hwb)
        have HLK := (show Hid _ from hlk)
        have c15 : W.cell? ⟨b15, 0, none⟩ = some (.pointer (some ⟨q, 0, none⟩)) := by rw [cell_blk HE4.out.bq]; rfl
        clear hI hW1 hW2 hat hu hin hpt hat2 hiw hwa hwb hlk hp
        gi_wp2_with fail
        refine ⟨trivial, (CallsIn.inRound lo (callsIn_wide.2 HWA.out)).mono ?_⟩
        rintro e W1 ⟨rfl, hb1⟩
        obtain ⟨W2, hst, hb2, hg2, hs2⟩ := boxed_what' W1 #[.int .u8 k', .int .i64 h', .int .u8 vk, .int .i64 vn, .string ⟨#[]⟩, .slice none 0 0, .int .i64 0, .slice none 0 0, .int .i64 n', .int .i64 l', .int .i64 tg, .int .i64 bi, .int .u8 s, .bool fu, .slice none 0 0, .slice none 0 0] rfl (by simp [go_sem])
        have HB2 : Hid (Below W.heap.size W W2) := hb1.trans (hb2.mono hb1.size)
        have HG2 := (show Hid _ from hg2)
        have c5 : W2.cell? ⟨b5, 0, none⟩ = some (.pointer (some ⟨p, 0, none⟩)) := by rw [cell_blk (below_blk HB2.out HE4.out.b.bw)]; rfl
        clear hb1 hb2 hg2 c15 HWA
        gi_wp2_with fail
        clear hst
        refine ⟨trivial, (CallsIn.inRound lo (callsIn_wide.2 (HWB.out _ HB2.out))).mono ?_⟩
        rintro e W3 ⟨rfl, hb3⟩
        obtain ⟨W4, hst, hb4, hg4, hs4⟩ := boxed_what' W3 #[.int .u8 k', .int .i64 h', .int .u8 vk, .int .i64 vn, .string ⟨#[]⟩, .slice none 0 0, .int .i64 0, .slice none 0 0, .int .i64 (n' + d), .int .i64 l', .int .i64 tg, .int .i64 bi, .int .u8 s, .bool fu, .slice none 0 0, .slice none 0 0] rfl (by simp [go_sem])
        have hb24 : Below W2.heap.size W2 W4 := hb3.trans (hb4.mono hb3.size)
        have HB4 : Hid (Below W.heap.size W W4) := HB2.out.trans (hb24.mono HB2.out.size)
        have cA := below_blk hb24 HG2.out
        have a0 : W4.cell? ⟨W1.heap.size, 0, none⟩ = some (.int .u8 k') := by rw [cell_blk cA]; rfl
        have a8 : W4.cell? ⟨W1.heap.size, 8, none⟩ = some (.int .i64 n') := by rw [cell_blk cA]; rfl
        have b0 : W4.cell? ⟨W3.heap.size, 0, none⟩ = some (.int .u8 k') := by rw [cell_blk hg4]; rfl
        have b8 : W4.cell? ⟨W3.heap.size, 8, none⟩ = some (.int .i64 (n' + d)) := by rw [cell_blk hg4]; rfl
        have c11 : W4.cell? ⟨tb + 1, 0, none⟩ = some (.map (some tb)) := by rw [cell_blk (below_blk HB4.out HE4.out.b.bt)]; rfl
        have hlk := HLK.out W4 HB4.out
        have hlt : decide (n' + d < n') = false := decide_eq_false (by omega)
        clear hb3 hb4 hg4 hb24 cA c5 HWB HLK HG2
        by_cases hd : d = 0
        · subst hd
          have hnt : decide (i ∈ U.map tl) = false := decide_eq_false (fun h => htu.1 h rfl)
          rw [hnt] at hlk
          rw [Int.add_zero] at b8 hlt hst
          have hne : (n' != n') = false := by simp
          clear htu hnt
          gi_wp2_with fail
          exact ⟨keepsOthers_of_below HB4.out, ⟨HB4.out.size, fun b cs e fr hb _ => (HB4.out.block b (blk_lt hb)).trans hb, fun _ h => h.elim⟩, HI.out.trans (HB4.out.mono HI.out.size)⟩
        · have hnt : decide (i ∈ U.map tl) = true := decide_eq_true (htu.2 hd)
          rw [hnt] at hlk
          have hne : (n' != n' + d) = true := by
            have : n' ≠ n' + d := by omega
            simpa using this
          clear htu hnt
          gi_wp2_with fail
          exact ⟨keepsOthers_of_below HB4.out, ⟨HB4.out.size, fun b cs e fr hb _ => (HB4.out.block b (blk_lt hb)).trans hb, fun _ h => h.elim⟩, HI.out.trans (HB4.out.mono HI.out.size)⟩
      case done =>
        rintro D ys W hD rfl hI hK
        have HE4 : Hid (OE w W (.slice la n c) (.slice qa n2 c2) b5 p tb b15 q M (M.pass (l.take (k2 + 1)).reverse) (U.map tl)) := HE3.out.below hI
        have HI := (show Hid (Below w13.heap.size w13 W) from hI)
        have hlp : Calls Tryz.prog 15 #[.pointer (some ⟨p, 0, none⟩)] W.drew fun e w' => e = .returned (.int .i64 M.things.length) ∧ W.drew = w' := by
          obtain ⟨⟨F1, hW1⟩, -, -⟩ := (HE4.out.below below_drew).z
          have := Len_W hW1
          rw [pass_len] at this
          exact this
        have hlq : Calls Tryz.prog 15 #[.pointer (some ⟨q, 0, none⟩)] W.drew fun e w' => e = .returned (.int .i64 M.things.length) ∧ W.drew = w' := by
          obtain ⟨-, ⟨F1, hW1⟩, -⟩ := (HE4.out.below below_drew).z
          exact Len_W hW1
        have HLP := (show Hid _ from hlp)
        have HLQ := (show Hid _ from hlq)
        have c5 : W.cell? ⟨b5, 0, none⟩ = some (.pointer (some ⟨p, 0, none⟩)) := by rw [cell_blk HE4.out.b.bw]; rfl
        have c15 : W.cell? ⟨b15, 0, none⟩ = some (.pointer (some ⟨q, 0, none⟩)) := by rw [cell_blk HE4.out.bq]; rfl
        have HX9 : Hid (∀ W', Below W.drew.heap.size W.drew W' → W'.cell? ⟨w.heap.size + 1, 0, none⟩ = some (.bool false) ∧ W'.frozen? ⟨w.heap.size + 1, 0, none⟩ = false) := fun W' hb => box_facts (below_blk hb (HE4.out.below below_drew).b.r.2.2.2)
        have HD : Hid (w.heap.size + 2 ≤ D) := Nat.le_trans HE3.out.b.r.2.1 hD
        clear hI hlp hlq hD HI HSQ HC HOK HUl HUU
        gi_wp2_with fail
        first | gi_region_with (first
          | (refine ⟨trivial, ?_⟩; gi_at_call 15; first
              | (refine (callsIn_wide.2 HLP.out).mono ?_; rintro e w' ⟨rfl, rfl⟩)
              | (refine (callsIn_wide.2 HLQ.out).mono ?_; rintro e w' ⟨rfl, rfl⟩))
          | (refine ⟨trivial, ?_⟩; gi_at_call 7; refine (callsIn_wide.2 (lives13_W _)).mono ?_; rintro e W1 ⟨rfl, hb1⟩; obtain ⟨x1, x2⟩ := HX9.out W1 hb1)) | fail
        all_goals
          obtain ⟨k1, k2, k3⟩ := oth_end HE4.out.b.r hb1 hK HD.out
          have K1 := (show Hid _ from k1)
          have K2 := (show Hid _ from k2)
          have K3 := (show Hid _ from k3)
          clear k1 k2 k3 hb1 hK x1 x2
          gi_wp2_with fail
          refine ⟨by simp, .inl ⟨_, _, rfl, run_takeDeferred K1.out, ?_⟩⟩
          have k2 := K2.out
          refine ⟨.bool true, ?_, rfl, K3.out⟩
          simp [results, Tryz.f3, go_sem, k2]
      case stop =>
        rintro D c pre W _ _ h _
        exact h.elim
end Go.Proofs.YtmefjkggibbhoaaGreat
