/- A part of the proof, several texts in one: CntW. -/
import Derived.Test.YtmefjkggibbhoaaGreatmAW
import Derived.Test.YtmefjkggibbhoaaGreatmAZ
import Derived.Test.YtmefjkggibbhoaaGreatmAF
/- TapCounts: the walk. -/
namespace Go.Proofs.YtmefjkggibbhoaaGreat
open Go.RowKit Go.ChangeMaps Go.MapKept

theorem tree0 : TreeOk [0] := ⟨by decide, fun i p h => by
  match i, h with
  | 0, h => simp at h; subst h; decide⟩
theorem IntArg.of_below {k : IntKind} {w w' : World} {pa : Option Addr} {xs : List Int} (h : IntArg k w pa xs) (hb : Below w.heap.size w w') : IntArg k w' pa xs := by
  rcases h with h | ⟨b, o, h1, h2, h3⟩
  · exact .inl h
  · exact .inr ⟨b, o, h1, Nat.lt_of_lt_of_le h2 hb.size, fun j x hx => (hb.cell (p := ⟨b, o + j, none⟩) h2).trans (h3 j x hx)⟩
/-- The box of the argument, in a later world. -/
def BoxAt (w w' : World) (v0 v1 : Value) : Prop := Below w.heap.size w w' ∧ w'.heap[w.heap.size]? = some (.cells #[v0, v1] 24 (0, 0))
theorem BoxAt.below {w w1 w2 : World} {v0 v1 : Value} (h : BoxAt w w1 v0 v1) (hb : Below w1.heap.size w1 w2) : BoxAt w w2 v0 v1 := ⟨h.1.trans (hb.mono h.1.size), below_blk hb h.2⟩
theorem BoxAt.cell0 {w w' : World} {v0 v1 : Value} (h : BoxAt w w' v0 v1) : w'.cell? ⟨w.heap.size, 0, none⟩ = some v0 := by rw [cell_blk h.2]; rfl
theorem BoxAt.cell1 {w w' : World} {v0 v1 : Value} (h : BoxAt w w' v0 v1) : w'.cell? ⟨w.heap.size, 1, none⟩ = some v1 := by rw [cell_blk h.2]; rfl
theorem CntAt.base {w0 w : World} {p : Nat} {l : List Int} {tl c want : Int → Int} {B g m cap mb wb : Nat} (h : CntAt w0 w p l tl c want B g m cap mb wb) : Below w0.heap.size w0 w := by
  obtain ⟨M, h, -⟩ := h
  exact h.base

theorem CntAt.more {w0 w : World} {p : Nat} {l : List Int} {tl c want : Int → Int} {B B' g m cap mb wb : Nat} (h : CntAt w0 w p l tl c want B g m cap mb wb) (hB : B ≤ B') : CntAt w0 w p l tl c want B' g m cap mb wb := by
  obtain ⟨M, h1, h2, h3, h3', h4, h5, ⟨k, hk, h6⟩, h7⟩ := h
  exact ⟨M, h1, h2, fun n => by have := h3 n; omega, fun n => by have := h3' n; omega, h4, h5, ⟨k, by omega, h6⟩, h7⟩
theorem CntAt.fold1 {w0 w : World} {p : Nat} {l : List Int} {tl c want : Int → Int} {B g m cap mb wb : Nat} (h : CntAt w0 w p l tl c want B g m cap mb wb) (f : Int → Int) : (l.take 1).foldl (bump tl) f = f := by
  obtain ⟨M, -, h2, -⟩ := h
  rw [List.take_add_one, h2.head]
  show bump tl f 1 = f
  exact bump_no h2.tl1
theorem fold_succ {l : List Int} {tl c : Int → Int} {j : Nat} {q : Int} (hq : l[j]? = some q) : (l.take (j + 1)).foldl (bump tl) c = bump tl ((l.take j).foldl (bump tl) c) q := by
  rw [List.take_add_one, hq]
  simp

section
variable {w0 w : World} {p : Nat} {M : WM} {l : List Int} {tl c want : Int → Int} {B g m cap mb wb : Nat}
theorem CntM.taps (h : CntM w0 w p M l tl c want B g m cap mb wb) {k : Nat} {x : Int} (hx : l[k]? = some x) :
    Calls Tryz.prog 10 #[.pointer (some ⟨p, 0, none⟩), .int .i64 x] w fun e w' => ∃ v, e = .returned (.tuple #[v, .int .i64 0]) ∧ w'.ownsRow w.heap.size 35 1 v (M.tapsL (l.take (k + 1)).reverse).length ((M.tapsL (l.take (k + 1)).reverse).map (Value.int .i64)) ∧ Below w.heap.size w w' := by
  obtain ⟨⟨F, hW, -⟩, hC, -⟩ := h
  obtain ⟨t, ht⟩ := hC.at hx
  exact Taps_W hW (hC.way k x hx) ht

theorem CntM.count (h : CntM w0 w p M l tl c want B g m cap mb wb) {k : Nat} {x y : Int} (hx : l[k]? = some x) (hy : l[k + 1]? = some y) :
    Calls Tryz.prog 18 #[.pointer (some ⟨p, 0, none⟩), .int .i64 y] w fun e w' => e = .returned (.tuple #[.int .i64 (if tl y = 0 then 0 else c (tl y)), .int .i64 (if tl y = 0 then 130 else 0)]) ∧ Below w.heap.size w w' := by
  obtain ⟨⟨F, hW, -⟩, hC, -⟩ := h
  rcases hC.one hx hy with ⟨hn, hh, tg, h', ht, hn'⟩ | ⟨h0, t, ht, hk⟩
  · rw [if_neg hn, if_neg hn]
    exact Count_tap hW ht hn'
  · rw [if_pos h0, if_pos h0]
    obtain ⟨_, _, _, _, _, _, _, _, _, _, rfl, hp⟩ := hC.lite y t ht
    exact Count_not hW ht hp hk
theorem CntM.tally (h : CntM w0 w p M l tl c want B g m cap mb wb) {k : Nat} {x y : Int} (hx : l[k]? = some x) (hy : l[k + 1]? = some y) :
    Calls Tryz.prog 19 #[.pointer (some ⟨p, 0, none⟩), .int .i64 y] w fun e w' => e = .returned (.tuple #[.int .i64 (tl y), .int .i64 (if tl y = 0 then 130 else 0)]) ∧ Below w.heap.size w w' := by
  obtain ⟨⟨F, hW, -⟩, hC, -⟩ := h
  rcases hC.one hx hy with ⟨hn, hh, tg, h', ht, hn'⟩ | ⟨h0, t, ht, hk⟩
  · rw [if_neg hn]
    exact Tally_tap hW ht
  · rw [if_pos h0, h0]
    obtain ⟨_, _, _, _, _, _, _, _, _, _, rfl, hp⟩ := hC.lite y t ht
    exact Tally_not hW ht hp hk
theorem CntM.able (h : CntM w0 w p M l tl c want B g m cap mb wb) {k : Nat} {x y : Int} (hx : l[k]? = some x) (hy : l[k + 1]? = some y) (hn : tl y ≠ 0) :
    ∃ v, ∀ w', CntM w0 w' p M l tl c want B g m cap mb wb → Calls Tryz.prog 33 #[.pointer (some ⟨p, 0, none⟩), .int .i64 x] w' (fun e w'' => e = .returned (.int .u8 v) ∧ Below w'.heap.size w' w'') ∧ Calls Tryz.prog 33 #[.pointer (some ⟨p, 0, none⟩), .int .i64 y] w' (fun e w'' => e = .returned (.int .u8 v) ∧ Below w'.heap.size w' w'') := by
  obtain ⟨v, h1, h2⟩ := h.2.1.able_tap hx hy hn
  have hwx := h.wf hx
  have hwy := h.wf hy
  exact ⟨v, fun w' h' => by
    obtain ⟨⟨F, hW, -⟩, -⟩ := h'
    exact ⟨Able_W hW hwx h1, Able_W hW hwy h2⟩⟩
end

theorem tapsL_le (M : WM) (l : List Int) (hl : l.length ≤ 81) (k : Nat) : (M.tapsL (l.take k).reverse).length ≤ 81 := by
  unfold WM.tapsL
  have := List.length_filter_le (fun q => M.kindOf q == 16) (l.take k).reverse
  rw [List.length_reverse, List.length_take] at this
  omega
/-- A list of references, as later worlds see it. -/
theorem list_in {w : World} {base : Nat} {v : Value} {xs : List Int} (h : w.ownsRow base 35 1 v xs.length (xs.map (Value.int .i64))) :
    ∃ a cap, v = .slice a xs.length cap ∧ ∀ w', Below w.heap.size w w' → ∀ (k : Nat) (x : Int), xs[k]? = some x → ∃ g, a = some ⟨g, 0, none⟩ ∧ w'.cell? ⟨g, k, none⟩ = some (.int .i64 x) := by
  obtain ⟨a, cap, e, hc⟩ := way_cells h
  refine ⟨a, cap, e, fun w' hb k x hx => ?_⟩
  obtain ⟨g, h1, -, h3, h4⟩ := hc k (List.getElem?_eq_some_iff.1 hx).1
  exact ⟨g, h1, (hb.cell (p := ⟨g, k, none⟩) h3).trans (h4.trans (by rw [List.getElem?_map, hx]; rfl))⟩


end Go.Proofs.YtmefjkggibbhoaaGreat
