/- A part of the proof, several texts in one: CntW. -/
import Derived.Test.YtmefjkggibbhoaamAW
import Derived.Test.YtmefjkggibbhoaamAF
/- TapCounts: the walk. -/
namespace Go.Proofs.Ytmefjkggibbhoaa
open Go.RowKit Go.ChangeMaps Go.MapKept

theorem tree0 : TreeOk [0] := ⟨by decide, fun i p h => by
  match i, h with
  | 0, h => simp at h; subst h; decide⟩
theorem IntArg.of_below {k : IntKind} {w w' : World} {pa : Option Addr} {xs : List Int} (h : IntArg k w pa xs) (hb : Below w.heap.size w w') : IntArg k w' pa xs := by
  rcases h with h | ⟨b, o, h1, h2, h3⟩
  · exact .inl h
  · exact .inr ⟨b, o, h1, Nat.lt_of_lt_of_le h2 hb.size, fun j x hx => (hb.cell (p := ⟨b, o + j, none⟩) h2).trans (h3 j x hx)⟩
/-- The box of the argument, in a later world. -/
def BoxAt (w w' : World) (v0 v1 : Value) : Prop := Below w.heap.size w w' ∧ w'.heap[w.heap.size]? = some (.cells #[v0, v1] 65 (0, 0))
theorem BoxAt.below {w w1 w2 : World} {v0 v1 : Value} (h : BoxAt w w1 v0 v1) (hb : Below w1.heap.size w1 w2) : BoxAt w w2 v0 v1 := ⟨h.1.trans (hb.mono h.1.size), below_blk hb h.2⟩
theorem BoxAt.cell0 {w w' : World} {v0 v1 : Value} (h : BoxAt w w' v0 v1) : w'.cell? ⟨w.heap.size, 0, none⟩ = some v0 := by rw [cell_blk h.2]; rfl
theorem BoxAt.cell1 {w w' : World} {v0 v1 : Value} (h : BoxAt w w' v0 v1) : w'.cell? ⟨w.heap.size, 1, none⟩ = some v1 := by rw [cell_blk h.2]; rfl
theorem CntAt.base {w0 w : World} {p : Nat} {l : List Int} {tl c want : Int → Int} {B g m cap mb wb : Nat} (h : CntAt w0 w p l tl c want B g m cap mb wb) : Below w0.heap.size w0 w := by
  obtain ⟨M, h, -⟩ := h
  exact h.base

theorem CntAt.more {w0 w : World} {p : Nat} {l : List Int} {tl c want : Int → Int} {B B' g m cap mb wb : Nat} (h : CntAt w0 w p l tl c want B g m cap mb wb) (hB : B ≤ B') : CntAt w0 w p l tl c want B' g m cap mb wb := by
  obtain ⟨M, h1, h2, h3, h3', h4, h5, ⟨k, hk, h6⟩, h7⟩ := h
  exact ⟨M, h1, h2, fun n => by have := h3 n; omega, fun n => by have := h3' n; omega, h4, h5, ⟨k, by omega, h6⟩, h7⟩
theorem CntAt.fold1 {w0 w : World} {p : Nat} {l : List Int} {tl c want : Int → Int} {B g m cap mb wb : Nat} (h : CntAt w0 w p l tl c want B g m cap mb wb) (f : Int → Int) : (l.take 1).foldl (bump tl) f = f := by
  obtain ⟨M, -, h2, -⟩ := h
  rw [List.take_add_one, h2.head]
  show bump tl f 1 = f
  exact bump_no h2.tl1
theorem fold_succ {l : List Int} {tl c : Int → Int} {j : Nat} {q : Int} (hq : l[j]? = some q) : (l.take (j + 1)).foldl (bump tl) c = bump tl ((l.take j).foldl (bump tl) c) q := by
  rw [List.take_add_one, hq]
  simp

section
variable {w0 w : World} {p : Nat} {M : WM} {l : List Int} {tl c want : Int → Int} {B g m cap mb wb : Nat}
theorem CntM.taps (h : CntM w0 w p M l tl c want B g m cap mb wb) {k : Nat} {x : Int} (hx : l[k]? = some x) :
    Calls Try.prog 33 #[.pointer (some ⟨p, 0, none⟩), .int .i64 x] w fun e w' => ∃ v, e = .returned (.tuple #[v, .int .i64 0]) ∧ w'.ownsRow w.heap.size 30 1 v (M.tapsL (l.take (k + 1)).reverse).length ((M.tapsL (l.take (k + 1)).reverse).map (Value.int .i64)) ∧ Below w.heap.size w w' := by
  obtain ⟨⟨F, hW, -⟩, hC, -⟩ := h
  obtain ⟨t, ht⟩ := hC.at hx
  exact Taps_W hW (hC.way k x hx) ht
theorem CntM.baseOf (h : CntM w0 w p M l tl c want B g m cap mb wb) {k : Nat} {x : Int} (hx : l[k]? = some x) :
    Calls Try.prog 34 #[.pointer (some ⟨p, 0, none⟩), .int .i64 x] w fun e w' => e = .returned (.int .i64 1) ∧ Below w.heap.size w w' := by
  obtain ⟨⟨F, hW, -⟩, hC, -⟩ := h
  obtain ⟨t, ht⟩ := hC.at hx
  have := Base_W hW (hW.ok.at_wf ht) (hC.way k x hx)
  rw [hC.last k] at this
  exact this
theorem CntM.count (h : CntM w0 w p M l tl c want B g m cap mb wb) {k : Nat} {x y : Int} (hx : l[k]? = some x) (hy : l[k + 1]? = some y) :
    Calls Try.prog 29 #[.pointer (some ⟨p, 0, none⟩), .int .i64 y] w fun e w' => e = .returned (.tuple #[.int .i64 (if tl y = 0 then 0 else c (tl y)), .int .i64 (if tl y = 0 then 130 else 0)]) ∧ Below w.heap.size w w' := by
  obtain ⟨⟨F, hW, -⟩, hC, -⟩ := h
  rcases hC.one hx hy with ⟨hn, hh, tg, h', ht, hn'⟩ | ⟨h0, t, ht, hk⟩
  · rw [if_neg hn, if_neg hn]
    exact Count_tap hW ht hn'
  · rw [if_pos h0, if_pos h0]
    obtain ⟨_, _, _, _, _, _, _, _, _, _, rfl, hp⟩ := hC.lite y t ht
    exact Count_not hW ht hp hk
theorem CntM.tally (h : CntM w0 w p M l tl c want B g m cap mb wb) {k : Nat} {x y : Int} (hx : l[k]? = some x) (hy : l[k + 1]? = some y) :
    Calls Try.prog 32 #[.pointer (some ⟨p, 0, none⟩), .int .i64 y] w fun e w' => e = .returned (.tuple #[.int .i64 (tl y), .int .i64 (if tl y = 0 then 130 else 0)]) ∧ Below w.heap.size w w' := by
  obtain ⟨⟨F, hW, -⟩, hC, -⟩ := h
  rcases hC.one hx hy with ⟨hn, hh, tg, h', ht, hn'⟩ | ⟨h0, t, ht, hk⟩
  · rw [if_neg hn]
    exact Tally_tap hW ht
  · rw [if_pos h0, h0]
    obtain ⟨_, _, _, _, _, _, _, _, _, _, rfl, hp⟩ := hC.lite y t ht
    exact Tally_not hW ht hp hk
theorem CntM.able (h : CntM w0 w p M l tl c want B g m cap mb wb) {k : Nat} {x y : Int} (hx : l[k]? = some x) (hy : l[k + 1]? = some y) (hn : tl y ≠ 0) :
    ∃ v, ∀ w', CntM w0 w' p M l tl c want B g m cap mb wb → Calls Try.prog 35 #[.pointer (some ⟨p, 0, none⟩), .int .i64 x] w' (fun e w'' => e = .returned (.int .u8 v) ∧ Below w'.heap.size w' w'') ∧ Calls Try.prog 35 #[.pointer (some ⟨p, 0, none⟩), .int .i64 y] w' (fun e w'' => e = .returned (.int .u8 v) ∧ Below w'.heap.size w' w'') := by
  obtain ⟨v, h1, h2⟩ := h.2.1.able_tap hx hy hn
  have hwx := h.wf hx
  have hwy := h.wf hy
  exact ⟨v, fun w' h' => by
    obtain ⟨⟨F, hW, -⟩, -⟩ := h'
    exact ⟨Able_W hW hwx h1, Able_W hW hwy h2⟩⟩
end

theorem tapsL_le (M : WM) (l : List Int) (hl : l.length ≤ 81) (k : Nat) : (M.tapsL (l.take k).reverse).length ≤ 81 := by
  unfold WM.tapsL
  have := List.length_filter_le (fun q => M.kindOf q == 16) (l.take k).reverse
  rw [List.length_reverse, List.length_take] at this
  omega
/-- A list of references, as later worlds see it. -/
theorem list_in {w : World} {base : Nat} {v : Value} {xs : List Int} (h : w.ownsRow base 30 1 v xs.length (xs.map (Value.int .i64))) :
    ∃ a cap, v = .slice a xs.length cap ∧ ∀ w', Below w.heap.size w w' → ∀ (k : Nat) (x : Int), xs[k]? = some x → ∃ g, a = some ⟨g, 0, none⟩ ∧ w'.cell? ⟨g, k, none⟩ = some (.int .i64 x) := by
  obtain ⟨a, cap, e, hc⟩ := way_cells h
  refine ⟨a, cap, e, fun w' hb k x hx => ?_⟩
  obtain ⟨g, h1, -, h3, h4⟩ := hc k (List.getElem?_eq_some_iff.1 hx).1
  exact ⟨g, h1, (hb.cell (p := ⟨g, k, none⟩) h3).trans (h4.trans (by rw [List.getElem?_map, hx]; rfl))⟩

set_option maxHeartbeats 16000000 in
set_option maxRecDepth 100000 in
theorem counts_W (w : World) (la qa : Option Addr) (c n c2 n2 : Nat) (lv ps : List Int) (hl : IntArg .u8 w la lv) (hv : ∀ x ∈ lv, 0 ≤ x ∧ x ≤ 255) (hn : n = lv.length) (hp : IntArg .u8 w qa ps) (hpv : ∀ x ∈ ps, 0 ≤ x ∧ x ≤ 255) (hn2 : n2 = ps.length) :
    Calls Try.prog 8 #[.agg #[.slice la n c, .slice qa n2 c2]] w fun e w' => e = .returned (.bool true) ∧ Below w.heap.size w w' := by
  have hmm := @run_makeMap Try.prog
  obtain ⟨wa, hwa⟩ : ∃ wa, wa = w.alloc (.cells #[.slice la n c, .slice qa n2 c2] 65) := ⟨_, rfl⟩
  have HX : Hid (BoxAt w wa (.slice la n c) (.slice qa n2 c2)) := by rw [hwa]; exact ⟨(Below.refl _ _).alloc (Nat.le_refl _) _, blk_new w _⟩
  have Hl : Hid (IntArg .u8 wa la lv) := hl.of_below HX.out.1
  have Hp : Hid (IntArg .u8 wa qa ps) := hp.of_below HX.out.1
  have Hv := (show Hid (∀ x ∈ lv, 0 ≤ x ∧ x ≤ 255) from hv)
  have Hpv := (show Hid (∀ x ∈ ps, 0 ≤ x ∧ x ≤ 255) from hpv)
  have Hn := (show Hid (n = lv.length) from hn)
  have Hn2 := (show Hid (n2 = ps.length) from hn2)
  have hsz : wa.heap.size = w.heap.size + 1 := by rw [hwa]; simp
  have Hsz := (show Hid (wa.heap.size = w.heap.size + 1) from hsz)
  have Hwa := (show Hid (wa = _) from hwa)
  clear hl hp hv hpv hn hn2 hwa hsz
  go_enter Try.func8, Try.ntmps8
  go_wp2_with fail
  rw [← Hwa.out, ← Hsz.out]
  refine (New_W _ _ 1 [0] (.inr ⟨wa.heap.size, 0, rfl, fun j x hx => ?_⟩)).mono ?_
  · rw [cell_blk (blk_new wa _)]
    match j, hx with
    | 0, hx => simpa using hx
  rintro e w1 hpost
  obtain ⟨p, F, rfl, hW, hF, hb⟩ := (Or.resolve_right hpost (fun h => h.1 tree0)).2
  clear hpost
  have hb1 : Below wa.heap.size wa w1 := ((Below.refl _ _).alloc (Nat.le_refl _) _).trans (hb.mono (by simp))
  have HO : Hid (Own wa w1 p (WM.new [0])) := ⟨F, hW, fun b h => by have := hF b h; simp at this; omega, hb1⟩
  have HX1 : Hid (BoxAt w w1 (.slice la n c) (.slice qa n2 c2)) := HX.out.below hb1
  have cb0 := HX1.out.cell0
  clear hW hF hb hb1
  go_wp2_with fail
  refine (tower_W (OwnS.of HO.out) la c n lv Hl.out Hv Hn).mono ?_
  rintro e w2 ⟨g, m, cap, mb, rfl, l, tl, first, hm, hT⟩
  have hb2 : Below wa.heap.size wa w2 := by obtain ⟨M, hS, -⟩ := hT; exact hS.base
  obtain ⟨hlen, hle⟩ : 1 ≤ m ∧ m ≤ 81 := by
    obtain ⟨M, -, hTw, -⟩ := hT
    have := hTw.ne
    have := hTw.llen
    omega
  have Hm := (show Hid (m = l.length) from hm)
  have HC : Hid (CntAt wa (w2.alloc (.map #[] 0)) p l tl (fun _ => 0) (fun _ => 0) 0 g m cap mb w2.heap.size) := CntAt.start hT
  clear cb0 HX1 HO hb2 hm hT Hl Hv Hn
  go_upto_region 8 with fail
  revert HC
  generalize w2.alloc _ = w3
  generalize w2.heap.size = wb
  intro HC
  clear w1
  go_upto_block 0 with fail
  go_cut [] (fun wx => ∃ ct, Hid (CntAt wa wx p l tl ct ct 16200 g m cap mb wb))
  case first =>
    go_wp2_with fail
    go_loopw [9] (fun vi wr => ∃ (k : Nat) (ct : Int → Int), vi = .int .i64 k ∧ k ≤ 100 ∧ Hid (CntAt wa wr p l tl ct ct (162 * k) g m cap mb wb)) (fun vi _ => 100 - (intOf vi).toNat)
    case atStart => exact ⟨0, fun _ => 0, rfl, by omega, HC⟩
    case round =>
      clear HC
      obtain ⟨k, ct, rfl, hk, HC⟩ := hrel
      have hcb : wr.cell? ⟨w.heap.size, 1, none⟩ = some (.slice qa n2 c2) := (HX.out.below (HC.out.base)).cell1
      by_cases hkn : k < n2
      · have hkz : (k : Int) < (n2 : Int) := by omega
        by_cases hk100 : k < 100
        · have hkz2 : (k : Int) < 100 := by omega
          obtain ⟨y, hyk⟩ : ∃ y, ps[k]? = some y := ⟨_, List.getElem?_eq_getElem (by have := Hn2.out; omega)⟩
          obtain ⟨hy0, hy1⟩ := Hpv.out y (List.mem_of_getElem? hyk)
          obtain ⟨bq, oq, rfl, hcy⟩ : ∃ bq oq, qa = some ⟨bq, oq, none⟩ ∧ wr.cell? ⟨bq, oq + k, none⟩ = some (.int .u8 y) := by
            rcases Hp.out with h | ⟨bq, oq, h1, h2, h3⟩
            · rw [h] at hyk; simp at hyk
            · exact ⟨bq, oq, h1, (HC.out.base.cell (p := ⟨bq, oq + k, none⟩) h2).trans (h3 k y hyk)⟩
          have hml : ((m : Int) == 0) = false := by
            have : (m : Int) ≠ 0 := by omega
            simpa using this
          clear hyk
          go_upto_region 12 with fail
          clear hcb hcy hml
          obtain ⟨k2, hk2, hke⟩ : ∃ k2 : Nat, k2 < m ∧ y % (m : Int) = (k2 : Int) := by
            have h1 := Int.emod_nonneg y (show (m : Int) ≠ 0 by omega)
            have h2 := Int.emod_lt_of_pos y (show (0 : Int) < m by omega)
            exact ⟨(y % (m : Int)).toNat, by omega, by omega⟩
          rw [hke]
          clear hke hy0 hy1
          obtain ⟨x, hx⟩ : ∃ x, l[k2]? = some x := ⟨_, List.getElem?_eq_getElem (by have := Hm.out; omega)⟩
          have hcx : wr.cell? ⟨g, k2, none⟩ = some (.int .i64 x) := by
            obtain ⟨M, h⟩ := HC.out
            exact h.cell Hm.out hx
          have Hx := (show Hid (l[k2]? = some x) from hx)
          clear hx
          go_wp2_with fail
          refine (HC.out.pass Hx.out (by have := Hm.out; omega) (by omega)).mono ?_
          rintro e w5 ⟨rfl, hC5⟩
          have HC5 : Hid (CntAt wa w5 p l tl ((l.take (k2 + 1)).foldl (bump tl) ct) ((l.take 1).foldl (bump tl) ct) (162 * k + 81 + 1) g m cap mb wb) := by
            have := hC5.more (B' := 162 * k + 81 + 1) (by omega)
            rw [← hC5.fold1 ct] at this
            rw [hC5.fold1 ct] at this ⊢
            exact this
          clear hC5 hcx Hx
          go_wp2_with fail
          go_loopw [11] (fun vj wr => ∃ j : Nat, vj = .int .i64 j ∧ 1 ≤ j ∧ j ≤ k2 + 1 ∧ Hid (CntAt wa wr p l tl ((l.take (k2 + 1)).foldl (bump tl) ct) ((l.take j).foldl (bump tl) ct) (162 * k + 81 + j) g m cap mb wb)) (fun vj _ => k2 + 1 - (intOf vj).toNat)
          case atStart => exact ⟨1, rfl, by omega, by omega, HC5⟩
          case round =>
            clear HC5 HC
            obtain ⟨j, rfl, hj1, hj2, HC⟩ := hrel
            by_cases hjk : j ≤ k2
            · have hjz : (j : Int) ≤ (k2 : Int) := by omega
              have hjm : (j : Int) < (m : Int) := by omega
              have hjm2 : j < m := by omega
              obtain ⟨q, hq⟩ : ∃ q, l[j]? = some q := ⟨_, List.getElem?_eq_getElem (by have := Hm.out; omega)⟩
              obtain ⟨hcq, hly⟩ : wr.cell? ⟨g, j, none⟩ = some (.int .i64 q) ∧ (Instr.lookup 67 (.map (some mb)) (.int .i64 q) true).run Try.prog wr = .ok (.tuple #[.int .i64 (tl q), .bool (tl q != 0)]) wr := by
                obtain ⟨M, h⟩ := HC.out
                exact ⟨h.cell Hm.out hq, h.tly (h.wf hq)⟩
              have Hq := (show Hid (l[j]? = some q) from hq)
              clear hq
              by_cases h0 : tl q = 0
              · rw [h0, show ((0 : Int) != 0) = false from rfl] at hly
                have HC7 : Hid (CntAt wa wr p l tl ((l.take (k2 + 1)).foldl (bump tl) ct) ((l.take (j + 1)).foldl (bump tl) ct) (162 * k + 81 + (j + 1)) g m cap mb wb) := by
                  rw [fold_succ Hq.out, bump_no h0]
                  exact HC.out.more (by omega)
                clear HC
                go_wp2_with fail
                go_roundw
                case rel => exact ⟨j + 1, by go_num, by omega, by omega, HC7⟩
                case measure =>
                  simp [intOf]
                  omega
              · rw [show (tl q != 0) = true by simpa using h0] at hly
                obtain ⟨v, hlk, hv0, hv1, w7, hrun, hC7⟩ : ∃ v : Int, (Instr.lookup 70 (.map (some wb)) (.int .i64 (tl q)) false).run Try.prog wr = .ok (.int .i64 v) wr ∧ 0 ≤ v ∧ v ≤ 20000 ∧ ∃ w7, (Instr.mapUpdate 70 (.map (some wb)) (.int .i64 (tl q)) (.int .i64 (v + 1))).run Try.prog wr = .ok () w7 ∧
                    CntAt wa w7 p l tl ((l.take (k2 + 1)).foldl (bump tl) ct) ((l.take (j + 1)).foldl (bump tl) ct) (162 * k + 81 + (j + 1)) g m cap mb wb := by
                  obtain ⟨w7, hrun, hC7⟩ := HC.out.store Hq.out h0 (by omega)
                  rw [← fold_succ Hq.out] at hC7
                  obtain ⟨M, h⟩ := HC.out
                  have hb := h.2.2.2.1 (tl q)
                  exact ⟨_, h.wanted (h.tlwf Hq.out), hb.1, by omega, w7, hrun, hC7⟩
                have HC7 := (show Hid (CntAt wa w7 p l tl ((l.take (k2 + 1)).foldl (bump tl) ct) ((l.take (j + 1)).foldl (bump tl) ct) (162 * k + 81 + (j + 1)) g m cap mb wb) from hC7)
                clear HC hC7
                go_wp2_with fail
                go_roundw
                case rel => exact ⟨j + 1, by go_num, by omega, by omega, HC7⟩
                case measure =>
                  simp [intOf]
                  omega
            · have hjz : ¬ (j : Int) ≤ (k2 : Int) := by omega
              obtain rfl : j = k2 + 1 := by omega
              have HC7 := (show Hid (CntAt wa wr p l tl ((l.take (k2 + 1)).foldl (bump tl) ct) ((l.take (k2 + 1)).foldl (bump tl) ct) (162 * (k + 1)) g m cap mb wb) from HC.out.more (by omega))
              clear HC
              go_wp2_with fail
              go_roundw
              case rel => exact ⟨k + 1, _, by go_num, by omega, HC7⟩
              case measure =>
                simp [intOf]
                omega
        · have hkz2 : ¬ (k : Int) < 100 := by omega
          go_wp2_with fail
          go_meet
          case rel => exact ⟨ct, HC.out.more (by omega)⟩
      · have hkz : ¬ (k : Int) < (n2 : Int) := by omega
        go_wp2_with fail
        go_meet
        case rel => exact ⟨ct, HC.out.more (by omega)⟩
  clear HC
  obtain ⟨ct, HC⟩ := hcut
  obtain ⟨M, hM⟩ := HC.out
  have HM := (show Hid (CntM wa wc p M l tl ct ct 16200 g m cap mb wb) from hM)
  clear hM HC Hp Hpv Hn2
  go_wp2_with fail
  go_loopw [14] (fun vj wr => ∃ j : Nat, vj = .int .i64 j ∧ 1 ≤ j ∧ j ≤ m ∧ Hid (CntM wa wr p M l tl ct ct 16200 g m cap mb wb)) (fun vj _ => m - (intOf vj).toNat)
  case atStart => exact ⟨1, rfl, by omega, by omega, HM⟩
  case round =>
    clear HM
    obtain ⟨j, rfl, hj1, hj2, HM⟩ := hrel
    by_cases hjm : j < m
    · have hjz : (j : Int) < (m : Int) := by omega
      obtain ⟨j', hj'⟩ : ∃ j', j = j' + 1 := ⟨j - 1, by omega⟩
      have hje : (j : Int) - 1 = (j' : Int) := by omega
      have hjm' : j' < m := by omega
      have hjz' : (j' : Int) < (m : Int) := by omega
      have hm0 : 0 < m := by omega
      have hm0z : (0 : Int) < (m : Int) := by omega
      obtain ⟨x, hx⟩ : ∃ x, l[j']? = some x := ⟨_, List.getElem?_eq_getElem (by have := Hm.out; omega)⟩
      obtain ⟨y, hy⟩ : ∃ y, l[j]? = some y := ⟨_, List.getElem?_eq_getElem (by have := Hm.out; omega)⟩
      have Hx := (show Hid (l[j']? = some x) from hx)
      have Hy := (show Hid (l[j]? = some y) from hy)
      have Hy1 := (show Hid (l[j' + 1]? = some y) from by rw [← hj']; exact hy)
      have hly := HM.out.tly (HM.out.wf hy)
      have hcy := HM.out.cell Hm.out hy
      clear hx hy hj'
      by_cases h0 : tl y = 0
      · rw [h0, show ((0 : Int) != 0) = false from rfl] at hly
        go_wp2_with fail
        refine (HM.out.count Hx.out Hy1.out).mono ?_
        rw [if_pos h0, if_pos h0]
        rintro e w1 ⟨rfl, hb⟩
        have HM1 := (show Hid (CntM wa w1 p M l tl ct ct 16200 g m cap mb wb) from HM.out.below hb)
        have hcy := HM1.out.cell Hm.out Hy.out
        clear hb hly HM
        go_wp2_with fail
        refine (HM1.out.tally Hx.out Hy1.out).mono ?_
        rw [if_pos h0, h0]
        rintro e w2 ⟨rfl, hb⟩
        have HM2 := (show Hid (CntM wa w2 p M l tl ct ct 16200 g m cap mb wb) from HM1.out.below hb)
        have hcx := HM2.out.cell Hm.out Hx.out
        clear hb HM1
        go_wp2_with fail
        refine (HM2.out.taps Hx.out).mono ?_
        rintro e w3 ⟨v3, rfl, hr3, hb⟩
        have HM3 := (show Hid (CntM wa w3 p M l tl ct ct 16200 g m cap mb wb) from HM2.out.below hb)
        have HR3 := (show Hid (w3.ownsRow w2.heap.size 30 1 v3 (M.tapsL (l.take (j' + 1)).reverse).length ((M.tapsL (l.take (j' + 1)).reverse).map (Value.int .i64))) from hr3)
        have hcy := HM3.out.cell Hm.out Hy.out
        clear hb HM2 hcx hr3
        go_wp2_with fail
        refine (HM3.out.taps Hy1.out).mono ?_
        rw [HM3.out.2.1.taps_up Hx.out Hy1.out, if_neg (fun e => e h0)]
        rintro e w4 ⟨v4, rfl, hr4, hb⟩
        have HM4 := (show Hid (CntM wa w4 p M l tl ct ct 16200 g m cap mb wb) from HM3.out.below hb)
        obtain ⟨a3, cap3, rfl, hc3⟩ := list_in HR3.out
        obtain ⟨a4, cap4, rfl, hc4⟩ := list_in hr4
        have HC3 := (show Hid (∀ w', Below w4.heap.size w4 w' → ∀ (k : Nat) (x : Int), (M.tapsL (l.take (j' + 1)).reverse)[k]? = some x → ∃ g, a3 = some ⟨g, 0, none⟩ ∧ w'.cell? ⟨g, k, none⟩ = some (.int .i64 x)) from fun w' h => hc3 w' (hb.trans (h.mono hb.size)))
        have HC4 := (show Hid (∀ w', Below w4.heap.size w4 w' → ∀ (k : Nat) (x : Int), (M.tapsL (l.take (j' + 1)).reverse)[k]? = some x → ∃ g, a4 = some ⟨g, 0, none⟩ ∧ w'.cell? ⟨g, k, none⟩ = some (.int .i64 x)) from hc4)
        clear hb HR3 hr4 hc3 hc4 HM3 hcy
        have hU : (M.tapsL (l.take (j' + 1)).reverse).length ≤ 81 := tapsL_le M l (by have := Hm.out; omega) _
        revert HC3 HC4 hU
        generalize M.tapsL (l.take (j' + 1)).reverse = U
        intro HC3 HC4 hU
        obtain ⟨n3, hn3⟩ : ∃ n3, n3 = U.length := ⟨_, rfl⟩
        have Hn3 := (show Hid (n3 = U.length) from hn3)
        rw [← hn3]
        have hn81 : n3 ≤ 81 := by omega
        have hw3 : wrap64 (n3 : Int) = (n3 : Int) := by unfold wrap64; omega
        clear hn3 hU
        have ds : Hid (∀ w', Below w4.heap.size w4 w' → w'.cell? ⟨g, j, none⟩ = some (.int .i64 y) ∧ w'.cell? ⟨g, 0, none⟩ = some (.int .i64 1)) := fun w' hb =>
          ⟨(HM4.out.below hb).cell Hm.out Hy.out, (HM4.out.below hb).cell Hm.out HM4.out.2.1.head⟩
        have HB := (show Hid (∀ w', Below w4.heap.size w4 w' → Calls Try.prog 34 #[.pointer (some ⟨p, 0, none⟩), .int .i64 y] w' fun e w'' => e = .returned (.int .i64 1) ∧ Below w'.heap.size w' w'') from fun w' hb => (HM4.out.below hb).baseOf Hy.out)
        go_wp2_with fail
        refine region_class (C := fun w' => Below w4.heap.size w4 w') (by kernel_rfl) (by kernel_rfl) below_drew ?_
        repeat (first
          | go_big_quiet_step (fail)
          | quiet_step (fail)
          | (refine wpQuiet_step (fun K hK => ?_); go_simp; first
              | (refine hK _ ?_; clear hK K)
              | (apply Exists.intro
                 refine ⟨fun w' hC => ?_, hK _ ?_⟩
                 · obtain ⟨q1, q2⟩ := ds.out w' hC
                   first
                     | exact rfl
                     | (go_simp; exact rfl)
                     | (go_simp; exact ⟨rfl, rfl⟩)
                     | exact (HB.out w' hC).mono fun e w'' ⟨he, hb⟩ => ⟨he, hC.trans (hb.mono hC.size)⟩
                 clear hK K)))
        refine wpQuiet_nil ?_
        intro w5 hC5
        have HB5 := (show Hid (Below w4.heap.size w4 w5) from hC5)
        clear hC5 HB ds hje hm0 hm0z hjm' hjz'
        go_wp2_with fail
        clear hw3
        go_loopw [26] (fun vk wq => ∃ k : Nat, vk = .int .i64 k ∧ k ≤ n3 ∧ Hid (Below w4.heap.size w4 wq)) (fun vk _ => n3 - (intOf vk).toNat)
        case atStart => exact ⟨0, rfl, by omega, HB5⟩
        case round =>
          clear HB5
          obtain ⟨k, rfl, hk, HB5⟩ := hrel
          by_cases hkn : k < n3
          · have hkz : (k : Int) < (n3 : Int) := by omega
            obtain ⟨z, hz⟩ : ∃ z, U[k]? = some z := ⟨_, List.getElem?_eq_getElem (by have := Hn3.out; omega)⟩
            obtain ⟨g3, rfl, hc3⟩ := HC3.out _ HB5.out k z hz
            obtain ⟨g4, rfl, hc4⟩ := HC4.out _ HB5.out k z hz
            clear hz
            go_wp2_with fail
            go_quiet (fail)
            have HB6 := (show Hid (Below w4.heap.size w4 _) from HB5.out.trans ((below_drewN nq).mono HB5.out.size))
            clear HB5 hc3 hc4
            go_wp2_with fail
            go_roundw
            case rel => exact ⟨k + 1, by go_num, by omega, HB6⟩
            case measure =>
              simp [intOf]
              omega
          · have hkz : ¬ (k : Int) < (n3 : Int) := by omega
            have HM5 := (show Hid (CntM wa _ p M l tl ct ct 16200 g m cap mb wb) from HM4.out.below HB5.out)
            clear HB5 HC3 HC4 HM4
            go_wp2_with fail
            go_roundw
            case rel => exact ⟨j + 1, by go_num, by omega, by omega, HM5⟩
            case measure =>
              simp [intOf]
              omega
      · rw [show (tl y != 0) = true by simpa using h0] at hly
        go_wp2_with fail
        refine (HM.out.count Hx.out Hy1.out).mono ?_
        rw [if_neg h0, if_neg h0]
        rintro e w1 ⟨rfl, hb⟩
        have HM1 := (show Hid (CntM wa w1 p M l tl ct ct 16200 g m cap mb wb) from HM.out.below hb)
        have hcy := HM1.out.cell Hm.out Hy.out
        clear hb hly HM
        go_wp2_with fail
        refine (HM1.out.tally Hx.out Hy1.out).mono ?_
        rw [if_neg h0]
        rintro e w2 ⟨rfl, hb⟩
        have HM2 := (show Hid (CntM wa w2 p M l tl ct ct 16200 g m cap mb wb) from HM1.out.below hb)
        have hcx := HM2.out.cell Hm.out Hx.out
        clear hb HM1
        go_wp2_with fail
        refine (HM2.out.taps Hx.out).mono ?_
        rintro e w3 ⟨v3, rfl, hr3, hb⟩
        have HM3 := (show Hid (CntM wa w3 p M l tl ct ct 16200 g m cap mb wb) from HM2.out.below hb)
        have HR3 := (show Hid (w3.ownsRow w2.heap.size 30 1 v3 (M.tapsL (l.take (j' + 1)).reverse).length ((M.tapsL (l.take (j' + 1)).reverse).map (Value.int .i64))) from hr3)
        have hcy := HM3.out.cell Hm.out Hy.out
        clear hb HM2 hcx hr3
        go_wp2_with fail
        refine (HM3.out.taps Hy1.out).mono ?_
        rw [HM3.out.2.1.taps_up Hx.out Hy1.out, if_pos h0]
        rintro e w4 ⟨v4, rfl, hr4, hb⟩
        have HM4 := (show Hid (CntM wa w4 p M l tl ct ct 16200 g m cap mb wb) from HM3.out.below hb)
        obtain ⟨a3, cap3, rfl, hc3⟩ := list_in HR3.out
        obtain ⟨a4, cap4, rfl, hc4⟩ := list_in hr4
        obtain ⟨g4, rfl, -⟩ := hc4 w4 (Below.refl _ _) 0 y rfl
        have HC3 := (show Hid (∀ w', Below w4.heap.size w4 w' → ∀ (k : Nat) (x : Int), (M.tapsL (l.take (j' + 1)).reverse)[k]? = some x → ∃ g, a3 = some ⟨g, 0, none⟩ ∧ w'.cell? ⟨g, k, none⟩ = some (.int .i64 x)) from fun w' h => hc3 w' (hb.trans (h.mono hb.size)))
        have HC4 := (show Hid (∀ w', Below w4.heap.size w4 w' → ∀ (k : Nat) (x : Int), (y :: M.tapsL (l.take (j' + 1)).reverse)[k]? = some x → w'.cell? ⟨g4, k, none⟩ = some (.int .i64 x)) from fun w' h k x hx => by
          obtain ⟨g', e, h2⟩ := hc4 w' h k x hx
          cases e
          exact h2)
        have hU : (M.tapsL (l.take (j' + 1)).reverse).length ≤ 81 := tapsL_le M l (by have := Hm.out; omega) _
        clear hb HR3 hr4 hc3 hc4 HM3 hcy
        revert HC3 HC4 hU
        generalize M.tapsL (l.take (j' + 1)).reverse = U
        intro HC3 HC4 hU
        obtain ⟨n3, hn3⟩ : ∃ n3, n3 = U.length := ⟨_, rfl⟩
        obtain ⟨n4, hn4⟩ : ∃ n4, n4 = (y :: U).length := ⟨_, rfl⟩
        have Hn3 := (show Hid (n3 = U.length) from hn3)
        rw [← hn3, ← hn4]
        have hn43 : n4 = n3 + 1 := by rw [hn4, hn3]; rfl
        have hn81 : n3 ≤ 81 := by omega
        have hw3 : wrap64 ((n3 : Int) + 1) = (n4 : Int) := by unfold wrap64; omega
        have hq3 : ((n4 : Int) != (n3 : Int) + 1) = false := by
          have : (n4 : Int) = (n3 : Int) + 1 := by omega
          simp [this]
        have hne4 : ((n4 : Int) == 0) = false := by
          have : (n4 : Int) ≠ 0 := by omega
          simpa using this
        have hp4 : 0 < n4 := by omega
        have hp4z : (0 : Int) < (n4 : Int) := by omega
        have Hn43 := (show Hid (n4 = n3 + 1) from hn43)
        clear hn3 hU hn4 hn43
        obtain ⟨va, hva⟩ := HM4.out.able Hx.out Hy1.out h0
        have ds : Hid (∀ w', Below w4.heap.size w4 w' → w'.cell? ⟨g, j, none⟩ = some (.int .i64 y) ∧ w'.cell? ⟨g, 0, none⟩ = some (.int .i64 1) ∧ (Instr.lookup 70 (.map (some wb)) (.int .i64 (tl y)) false).run Try.prog w' = .ok (.int .i64 (ct (tl y))) w' ∧ w'.cell? ⟨g, j', none⟩ = some (.int .i64 x) ∧ w'.cell? ⟨g4, 0, none⟩ = some (.int .i64 y)) := fun w' hb =>
          ⟨(HM4.out.below hb).cell Hm.out Hy.out, (HM4.out.below hb).cell Hm.out HM4.out.2.1.head, (HM4.out.below hb).wanted (HM4.out.tlwf Hy.out), (HM4.out.below hb).cell Hm.out Hx.out, HC4.out w' hb 0 y rfl⟩
        have HB := (show Hid (∀ w', Below w4.heap.size w4 w' → Calls Try.prog 34 #[.pointer (some ⟨p, 0, none⟩), .int .i64 y] w' fun e w'' => e = .returned (.int .i64 1) ∧ Below w'.heap.size w' w'') from fun w' hb => (HM4.out.below hb).baseOf Hy.out)
        have HA : Hid (∀ w', Below w4.heap.size w4 w' → ∀ q, (q = x ∨ q = y) → Calls Try.prog 35 #[.pointer (some ⟨p, 0, none⟩), .int .i64 q] w' (fun e w'' => e = .returned (.int .u8 va) ∧ Below w'.heap.size w' w'')) := fun w' hb q hq => by
          rcases hq with rfl | rfl
          · exact (hva w' (HM4.out.below hb)).1
          · exact (hva w' (HM4.out.below hb)).2
        clear hva
        go_wp2_with fail
        refine region_class (C := fun w' => Below w4.heap.size w4 w') (by kernel_rfl) (by kernel_rfl) below_drew ?_
        repeat (first
          | go_big_quiet_step (fail)
          | quiet_step (fail)
          | (refine wpQuiet_step (fun K hK => ?_); go_simp; first
              | (refine hK _ ?_; clear hK K)
              | (apply Exists.intro
                 refine ⟨fun w' hC => ?_, hK _ ?_⟩
                 · obtain ⟨q1, q2, q3, q4, q5⟩ := ds.out w' hC
                   first
                     | exact rfl
                     | (go_simp; exact rfl)
                     | (go_simp; exact ⟨rfl, rfl⟩)
                     | exact (HB.out w' hC).mono fun e w'' ⟨he, hb⟩ => ⟨he, hC.trans (hb.mono hC.size)⟩
                 clear hK K)))
        refine wpQuiet_nil ?_
        intro w5 hC5
        have HB5 := (show Hid (Below w4.heap.size w4 w5) from hC5)
        clear hC5 HB hm0 hm0z
        have hjw : wrap64 ((j : Int) - 1) = (j' : Int) := by unfold wrap64; omega
        have hjw2 : IntKind.i64.wrap ((j : Int) - 1) = (j' : Int) := by rw [IntKind.wrap_i64]; omega
        clear hje
        go_wp2_with fail
        refine region_class (C := fun w' => Below w4.heap.size w4 w') (by kernel_rfl) (by kernel_rfl) (HB5.out.trans (below_drew.mono HB5.out.size)) ?_
        repeat (first
          | go_big_quiet_step (fail)
          | quiet_step (fail)
          | (refine wpQuiet_step (fun K hK => ?_); go_simp; first
              | (refine hK _ ?_; clear hK K)
              | (apply Exists.intro
                 refine ⟨fun w' hC => ?_, hK _ ?_⟩
                 · obtain ⟨q1, q2, q3, q4, q5⟩ := ds.out w' hC
                   first
                     | exact rfl
                     | (go_simp; exact rfl)
                     | (go_simp; exact ⟨rfl, rfl⟩)
                     | exact (HA.out w' hC _ (by first | exact .inl rfl | exact .inr rfl)).mono fun e w'' ⟨he, hb⟩ => ⟨he, hC.trans (hb.mono hC.size)⟩
                 clear hK K)))
        refine wpQuiet_nil ?_
        intro w6 hC6
        have HB6 := (show Hid (Below w4.heap.size w4 w6) from hC6)
        clear hC6 HA ds hjw hjw2 hjm' hjz' HB5 hne4
        go_wp2_with fail
        clear hw3 hq3
        go_loopw [26] (fun vk wq => ∃ k : Nat, vk = .int .i64 k ∧ k ≤ n3 ∧ Hid (Below w4.heap.size w4 wq)) (fun vk _ => n3 - (intOf vk).toNat)
        case atStart => exact ⟨0, rfl, by omega, HB6⟩
        case round =>
          clear HB6
          obtain ⟨k, rfl, hk, HB5⟩ := hrel
          by_cases hkn : k < n3
          · have hkz : (k : Int) < (n3 : Int) := by omega
            obtain ⟨z, hz⟩ : ∃ z, U[k]? = some z := ⟨_, List.getElem?_eq_getElem (by have := Hn3.out; omega)⟩
            obtain ⟨g3, rfl, hc3⟩ := HC3.out _ HB5.out k z hz
            have hc4 := HC4.out _ HB5.out (k + 1) z (by simpa using hz)
            have hk4 : (k : Int) + 1 < (n4 : Int) := by have := Hn43.out; omega
            have hk4n : k + 1 < n4 := by have := Hn43.out; omega
            clear hz
            go_wp2_with fail
            go_quiet (fail)
            have HB6 := (show Hid (Below w4.heap.size w4 _) from HB5.out.trans ((below_drewN nq).mono HB5.out.size))
            clear HB5 hc3 hc4 hk4 hk4n
            go_wp2_with fail
            go_roundw
            case rel => exact ⟨k + 1, by go_num, by omega, HB6⟩
            case measure =>
              simp [intOf]
              omega
          · have hkz : ¬ (k : Int) < (n3 : Int) := by omega
            have HM5 := (show Hid (CntM wa _ p M l tl ct ct 16200 g m cap mb wb) from HM4.out.below HB5.out)
            clear HB5 HC3 HC4 HM4
            go_wp2_with fail
            go_roundw
            case rel => exact ⟨j + 1, by go_num, by omega, by omega, HM5⟩
            case measure =>
              simp [intOf]
              omega
    · have hjz : ¬ (j : Int) < (m : Int) := by omega
      go_wp2_with fail
      refine (lives13_W _).mono ?_
      rintro e w5 ⟨rfl, hb⟩
      have HE : Hid (Below w.heap.size w w5) := by
        have h1 := HM.out.1.base
        have h2 := h1.trans (hb.mono h1.size)
        exact HX.out.1.trans (h2.mono HX.out.1.size)
      clear hb HM
      go_wp2_with fail
      go_ret
      exact ⟨rfl, HE⟩
end Go.Proofs.Ytmefjkggibbhoaa
