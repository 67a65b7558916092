/- A part of the proof, several texts in one: Fits, WaW, WaZ. -/
import Derived.Test.YtifmifjbebpomaaGreatDoormAG
import Derived.Test.YtifmifjbebpomaaGreatDoormAC
import Derived.Deep.QuietTactic
import Derived.BigQuiet
import Derived.Test.YtifmifjbebpomaaGreatDoormAQ
import Derived.Test.YtifmifjbebpomaaGreatDoormAH
import Derived.Test.YtifmifjbebpomaaGreatDoormAS
import Derived.Test.YtifmifjbebpomaaGreatDoormAI
import Derived.Test.YtifmifjbebpomaaGreatDoormAT
import Derived.Test.YtifmifjbebpomaaGreatDoormAE
import Derived.Sort.QuietIn
import Derived.Sort.CutIn
import Derived.LoopNIn
/- fits at the kinds that ask for nothing. Printed by gen_fits.py. -/
namespace Go.Proofs.YtifmifjbebpomaaGreatDoor
open Go.RowKit Go.ChangeMaps Go.MapKept
variable {w : World} {p : Nat} {M : WM} {F : Nat → Prop}

set_option maxRecDepth 8000 in
theorem fits_1 (w : World) (q : Option Addr) (r h vk vn n l tg bi s : Int) (fu : Bool) : Calls Tryz.prog 51 #[.pointer q, .int .i64 r, .agg #[.int .u8 1, .int .i64 h, .int .u8 vk, .int .i64 vn, .string ⟨#[]⟩, .slice none 0 0, .int .i64 0, .slice none 0 0, .int .i64 n, .int .i64 l, .int .i64 tg, .int .i64 bi, .int .u8 s, .bool fu, .slice none 0 0, .slice none 0 0]] w fun e w' => e = .returned (.bool true) ∧ Below w.heap.size w w' := by
  go_enter Tryz.func51, Tryz.ntmps51
  go_wp2
  go_ret
  exact ⟨rfl, by go_grown⟩

set_option maxRecDepth 8000 in
theorem fits_2 (w : World) (q : Option Addr) (r h vk vn n l tg bi s : Int) (fu : Bool) : Calls Tryz.prog 51 #[.pointer q, .int .i64 r, .agg #[.int .u8 2, .int .i64 h, .int .u8 vk, .int .i64 vn, .string ⟨#[]⟩, .slice none 0 0, .int .i64 0, .slice none 0 0, .int .i64 n, .int .i64 l, .int .i64 tg, .int .i64 bi, .int .u8 s, .bool fu, .slice none 0 0, .slice none 0 0]] w fun e w' => e = .returned (.bool true) ∧ Below w.heap.size w w' := by
  go_enter Tryz.func51, Tryz.ntmps51
  go_wp2
  go_ret
  exact ⟨rfl, by go_grown⟩

set_option maxRecDepth 8000 in
theorem fits_3 (w : World) (q : Option Addr) (r h vk vn n l tg bi s : Int) (fu : Bool) : Calls Tryz.prog 51 #[.pointer q, .int .i64 r, .agg #[.int .u8 3, .int .i64 h, .int .u8 vk, .int .i64 vn, .string ⟨#[]⟩, .slice none 0 0, .int .i64 0, .slice none 0 0, .int .i64 n, .int .i64 l, .int .i64 tg, .int .i64 bi, .int .u8 s, .bool fu, .slice none 0 0, .slice none 0 0]] w fun e w' => e = .returned (.bool true) ∧ Below w.heap.size w w' := by
  go_enter Tryz.func51, Tryz.ntmps51
  go_wp2
  go_ret
  exact ⟨rfl, by go_grown⟩

set_option maxRecDepth 8000 in
theorem fits_4 (w : World) (q : Option Addr) (r h vk vn n l tg bi s : Int) (fu : Bool) : Calls Tryz.prog 51 #[.pointer q, .int .i64 r, .agg #[.int .u8 4, .int .i64 h, .int .u8 vk, .int .i64 vn, .string ⟨#[]⟩, .slice none 0 0, .int .i64 0, .slice none 0 0, .int .i64 n, .int .i64 l, .int .i64 tg, .int .i64 bi, .int .u8 s, .bool fu, .slice none 0 0, .slice none 0 0]] w fun e w' => e = .returned (.bool true) ∧ Below w.heap.size w w' := by
  go_enter Tryz.func51, Tryz.ntmps51
  go_wp2
  go_ret
  exact ⟨rfl, by go_grown⟩

set_option maxRecDepth 8000 in
theorem fits_5 (w : World) (q : Option Addr) (r h vk vn n l tg bi s : Int) (fu : Bool) : Calls Tryz.prog 51 #[.pointer q, .int .i64 r, .agg #[.int .u8 5, .int .i64 h, .int .u8 vk, .int .i64 vn, .string ⟨#[]⟩, .slice none 0 0, .int .i64 0, .slice none 0 0, .int .i64 n, .int .i64 l, .int .i64 tg, .int .i64 bi, .int .u8 s, .bool fu, .slice none 0 0, .slice none 0 0]] w fun e w' => e = .returned (.bool true) ∧ Below w.heap.size w w' := by
  go_enter Tryz.func51, Tryz.ntmps51
  go_wp2
  go_ret
  exact ⟨rfl, by go_grown⟩

set_option maxRecDepth 8000 in
theorem fits_8 (w : World) (q : Option Addr) (r h vk vn n l tg bi s : Int) (fu : Bool) : Calls Tryz.prog 51 #[.pointer q, .int .i64 r, .agg #[.int .u8 8, .int .i64 h, .int .u8 vk, .int .i64 vn, .string ⟨#[]⟩, .slice none 0 0, .int .i64 0, .slice none 0 0, .int .i64 n, .int .i64 l, .int .i64 tg, .int .i64 bi, .int .u8 s, .bool fu, .slice none 0 0, .slice none 0 0]] w fun e w' => e = .returned (.bool true) ∧ Below w.heap.size w w' := by
  go_enter Tryz.func51, Tryz.ntmps51
  go_wp2
  go_ret
  exact ⟨rfl, by go_grown⟩

set_option maxRecDepth 8000 in
theorem fits_10 (w : World) (q : Option Addr) (r h vk vn n l tg bi s : Int) (fu : Bool) : Calls Tryz.prog 51 #[.pointer q, .int .i64 r, .agg #[.int .u8 10, .int .i64 h, .int .u8 vk, .int .i64 vn, .string ⟨#[]⟩, .slice none 0 0, .int .i64 0, .slice none 0 0, .int .i64 n, .int .i64 l, .int .i64 tg, .int .i64 bi, .int .u8 s, .bool fu, .slice none 0 0, .slice none 0 0]] w fun e w' => e = .returned (.bool true) ∧ Below w.heap.size w w' := by
  go_enter Tryz.func51, Tryz.ntmps51
  go_wp2
  go_ret
  exact ⟨rfl, by go_grown⟩

set_option maxRecDepth 8000 in
theorem fits_12 (w : World) (q : Option Addr) (r h vk vn n l tg bi s : Int) (fu : Bool) : Calls Tryz.prog 51 #[.pointer q, .int .i64 r, .agg #[.int .u8 12, .int .i64 h, .int .u8 vk, .int .i64 vn, .string ⟨#[]⟩, .slice none 0 0, .int .i64 0, .slice none 0 0, .int .i64 n, .int .i64 l, .int .i64 tg, .int .i64 bi, .int .u8 s, .bool fu, .slice none 0 0, .slice none 0 0]] w fun e w' => e = .returned (.bool true) ∧ Below w.heap.size w w' := by
  go_enter Tryz.func51, Tryz.ntmps51
  go_wp2
  go_ret
  exact ⟨rfl, by go_grown⟩

end Go.Proofs.YtifmifjbebpomaaGreatDoor
/- awake of posternlaw15: it is true. -/
namespace Go.Proofs.YtifmifjbebpomaaGreatDoor
open Go.RowKit Go.Shelf Go.ChangeMaps Go.MapKept

theorem pl0 : Plain 0 0 := .inl ⟨rfl, rfl⟩
def cellT : Th := lt 1 3 0 0 0 0 0 0 0 false
def AM0 : WM := WM.new [0, 0, 1]
def AM1 : WM := AM0.add cellT
def AM2 : WM := AM1.cutE 3
theorem atree : TreeOk [0, 0, 1] := ⟨by decide, fun i p h => by
  match i, h with
  | 0, h => simp at h; omega
  | 1, h => simp at h; omega
  | 2, h => simp at h; omega⟩
theorem aadd : AddOk AM0 cellT where
  wf := ⟨by show (1 : Int) ≤ 1 ∧ (1 : Int) ≤ 16; decide, rfl, rfl, by show (0 : Int) ≤ 0 ∧ (0 : Int) ≤ 255; decide⟩
  last := by decide
  home := fun _ => by decide
  made := fun _ => by decide
  wrap := fun h => absurd h (by decide)
  gate := fun h => absurd h (by decide)
  purse := fun h => absurd h (by decide)
  facet := fun h => absurd h (by decide)
theorem aat {r : Int} {t : Th} (h : AM2.at r = some t) : r = 1 ∧ t = cellT := by
  have := at_mem h
  rw [show AM2.things = [(1, cellT)] from rfl] at this
  simp only [List.mem_cons, List.not_mem_nil, or_false, Prod.mk.injEq] at this
  exact this
theorem aat1 {r : Int} {t : Th} (h : AM1.at r = some t) : r = 1 ∧ t = cellT := by
  have := at_mem h
  rw [show AM1.things = [(1, cellT)] from rfl] at this
  simp only [List.mem_cons, List.not_mem_nil, or_false, Prod.mk.injEq] at this
  exact this
theorem alight : ∀ r t, AM2.at r = some t → Lite t := fun r t h => by
  obtain ⟨-, rfl⟩ := aat h
  exact ⟨_, _, _, _, _, _, _, _, _, _, rfl, pl0⟩
theorem apath32 : PathIs AM1 3 2 [3, 1] [2] := .up (by decide) (q := 1) rfl (.down (by decide) (q := 0) rfl (.up (by decide) (q := 0) rfl (.eq 0)))
theorem apath03 (M : WM) (h2 : M.par 2 = 1) (h0 : M.par 0 = 0) : PathIs M 0 3 [] [3, 1] := .down (by decide) (q := 1) h2 (.down (by decide) (q := 0) h0 (.eq 0))
theorem ahops (M : WM) (h2 : M.par 2 = 1) (h0 : M.par 0 = 0) (ha : M.at 1 = some cellT) : HopsIs M 0 [1] [edgeH M 1, edgeH M 3, ⟨0, 1, true⟩] :=
  .thing (u := []) (d := [3, 1]) ha (by decide) (apath03 M h2 h0) (.nil _)
theorem acut0 : ∀ n : Int, (edgeB AM1 n && AM1.cutAt n.toNat) = false := fun n => by
  have h : AM1.cutAt n.toNat = false := by
    show ([false, false, false, false] : List Bool).getD n.toNat false = false
    generalize n.toNat = k
    match k with
    | 0 => rfl
    | 1 => rfl
    | 2 => rfl
    | 3 => rfl
    | k + 4 => rfl
  rw [h, Bool.and_false]
theorem astop : stopM 0 [edgeH AM2 1, edgeH AM2 3, ⟨0, 1, true⟩] = some (⟨3, 0, false⟩, 1) := by rfl
theorem awhat {p : Nat} {M : WM} {F : Nat → Prop} (h : ∀ r t, M.at r = some t → r = 1 ∧ t = cellT) : WhatOk p M F := fun W hW q t ht => by
  obtain ⟨rfl, rfl⟩ := h q t ht
  refine (What_lt hW rfl ht pl0).mono ?_
  rintro e w' ⟨rfl, hb⟩
  exact ⟨_, rfl, rfl, by simp [go_sem], rfl, rfl, rfl, hb⟩
theorem apar : parC AM1 4 = par4 := by rfl
/-- A world of the call's own. -/
def OwnA (w0 w : World) (p : Nat) (M : WM) : Prop := ∃ F, IsW w p M F ∧ (∀ b, F b → w0.heap.size ≤ b) ∧ Below w0.heap.size w0 w
theorem OwnA.below {w0 w w' : World} {p : Nat} {M : WM} (h : OwnA w0 w p M) (hb : Below w.heap.size w w') : OwnA w0 w' p M := by
  obtain ⟨F, h1, h2, h3⟩ := h
  exact ⟨F, h1.below hb, h2, h3.trans (hb.mono h3.size)⟩
theorem OwnA.turn {w0 w w' : World} {p : Nat} {M' : WM} {F F' : Nat → Prop} (h2 : ∀ b, F b → w0.heap.size ≤ b) (h3 : Below w0.heap.size w0 w) (hW : IsW w' p M' F') (hg : Grew F w F' w') : OwnA w0 w' p M' := by
  refine ⟨F', hW, fun b hb => ?_, h3.trans (Keeps.below hg.1 h3.size h2)⟩
  rcases hg.2 b hb with h | h
  · exact h2 b h
  · exact Nat.le_trans h3.size h
/-- The same, the world's own blocks below N. -/
def OwnN (w0 : World) (N : Nat) (w : World) (p : Nat) (M : WM) : Prop := ∃ F, IsW w p M F ∧ (∀ b, F b → w0.heap.size ≤ b ∧ b < N) ∧ Below w0.heap.size w0 w
theorem OwnA.n {w0 w : World} {p : Nat} {M : WM} (h : OwnA w0 w p M) : OwnN w0 w.heap.size w p M := by
  obtain ⟨F, h1, h2, h3⟩ := h
  exact ⟨F, h1, fun b hb => ⟨h2 b hb, h1.lt b hb⟩, h3⟩
theorem OwnN.below {w0 w w' : World} {N p : Nat} {M : WM} (h : OwnN w0 N w p M) (hb : Below w.heap.size w w') : OwnN w0 N w' p M := by
  obtain ⟨F, h1, h2, h3⟩ := h
  exact ⟨F, h1.below hb, h2, h3.trans (hb.mono h3.size)⟩
/-- Some cells of a block. -/
def HasC (W : World) (g : Nat) (l : List (Nat × Value)) : Prop := ∃ cs e fr, W.heap[g]? = some (.cells cs e fr) ∧ ∀ x ∈ l, cs[x.1]? = some x.2
theorem HasC.below {W W' : World} {g : Nat} {l : List (Nat × Value)} (h : HasC W g l) (hb : Below W.heap.size W W') : HasC W' g l := by
  obtain ⟨cs, e, fr, h1, h2⟩ := h
  exact ⟨cs, e, fr, (hb.block _ (blk_lt h1)).trans h1, h2⟩
theorem HasC.keeps {W W' : World} {S : Nat → Prop} {g : Nat} {l : List (Nat × Value)} (h : HasC W g l) (hk : Keeps S W W') (hg : ¬ S g) : HasC W' g l := by
  obtain ⟨cs, e, fr, h1, h2⟩ := h
  exact ⟨cs, e, fr, (hk.block _ (blk_lt h1) hg).trans h1, h2⟩
theorem HasC.cell {W : World} {g : Nat} {l : List (Nat × Value)} (h : HasC W g l) {i : Nat} {v : Value} (hx : (i, v) ∈ l) : W.cell? ⟨g, i, none⟩ = some v := by
  obtain ⟨cs, e, fr, h1, h2⟩ := h
  rw [cell_blk h1]
  exact h2 _ hx
theorem HasC.of_row {W : World} {base s n : Nat} {e : TypeId} {v : Value} {xs : List Value} (h : W.ownsRow base e s v n xs) (hn : 0 < n) {l : List (Nat × Value)} (hl : ∀ x ∈ l, xs[x.1]? = some x.2) : ∃ g c, v = .slice (some ⟨g, 0, none⟩) n c ∧ HasC W g l ∧ base ≤ g := by
  rcases h.2 with ⟨_, h0⟩ | ⟨g, cap, cur, rfl, hb, hg, _, _, _, h6⟩
  · omega
  · refine ⟨g, cap, rfl, ⟨cur, e, _, hg, fun x hx => ?_⟩, hb⟩
    have := hl x hx
    rw [← h6, List.getElem?_take] at this
    split at this
    · simpa using this
    · cases this

set_option maxHeartbeats 8000000 in
set_option maxRecDepth 20000 in
theorem awake_W (w : World) (hT : Tab64 w) : Calls Tryz.prog 5 #[] w fun e w' => e = .returned (.bool true) ∧ Below w.heap.size w w' := by
  have HT := (show Hid (Tab64 w) from hT)
  clear hT
  go_enter Tryz.func5, Tryz.ntmps5
  go_wp2_with fail
  refine (New_W _ _ 3 [0, 0, 1] (.inr ⟨w.heap.size, 0, rfl, fun j x hx => ?_⟩)).mono ?_
  · rw [cell_blk (blk_new w _)]
    match j, hx with
    | 0, hx => simpa using hx
    | 1, hx => simpa using hx
    | 2, hx => simpa using hx
  rintro e w1 hpost
  obtain ⟨p, F, rfl, hW, hF, hb⟩ := (Or.resolve_right hpost (fun h => h.1 atree)).2
  clear hpost
  have HO : Hid (OwnA w w1 p AM0) := ⟨F, hW, fun b h => by have := hF b h; simp at this; omega, ((Below.refl _ _).alloc (Nat.le_refl _) _).trans (hb.mono (by simp))⟩
  clear hW hF hb
  go_wp2_with fail
  obtain ⟨F, hW, hF, hb⟩ := HO.out
  refine (Make_no hW (k := 1) (h := 3) (vk := 0) (vn := 0) (n := 0) (l := 0) (tg := 0) (bi := 0) (s := 0) (fu := false) pl0 (.inl rfl) aadd (fun w hW => form_1 hW 3 0 0 (by decide) pl0) (fun w _ => fits_1 w _ 0 3 0 0 0 0 0 0 0 false)).mono ?_
  rintro e w2 ⟨rfl, F2, hW2, hg2⟩
  have HO2 : Hid (OwnA w w2 p AM1) := OwnA.turn hF hb hW2 hg2
  clear hW hF hb hW2 hg2 HO
  have hl1 : AM0.last + 1 = 1 := rfl
  obtain ⟨N, hN⟩ : ∃ N, w2.heap.size = N := ⟨_, rfl⟩
  have HN2 : Hid (OwnN w N w2 p AM1) := by
    have := HO2.out.n
    rw [hN] at this
    exact this
  have HZ2 := (show Hid (w2.heap.size = N) from hN)
  clear HO2 hN
  go_wp2_with fail
  obtain ⟨F, hW, hF, hb⟩ := HN2.out
  refine (wPath_W hW (a := 3) (b := 2) (by decide) (by decide) apath32).mono ?_
  rintro e w3 ⟨v3, rfl, hr3, hb3⟩
  obtain ⟨gp, cp, rfl, hcp, hgp⟩ := HasC.of_row hr3 (l := [(0, .int .i64 3), (1, .int .i64 1), (2, .int .i64 2)]) (by decide) (by intro x hx; simp only [List.mem_cons, List.not_mem_nil, or_false] at hx; rcases hx with rfl | rfl | rfl <;> rfl)
  have HN3 : Hid (OwnN w N w3 p AM1) := HN2.out.below hb3
  have HP3 := (show Hid (HasC w3 gp [(0, .int .i64 3), (1, .int .i64 1), (2, .int .i64 2)]) from hcp)
  have HG := (show Hid (N ≤ gp) from by rw [← HZ2.out]; exact hgp)
  have HZ3 : Hid (N ≤ w3.heap.size) := by show N ≤ _; rw [← HZ2.out]; exact hb3.size
  clear hW hF hb hr3 hb3 hcp hgp HN2 HZ2
  have hlp : ([3, 1] ++ ([2] : List Int).reverse).length = 3 := rfl
  rw [hlp]
  clear hlp
  go_wp2_with fail
  obtain ⟨F, hW, hF, hb⟩ := HN3.out
  refine (wHops_W hW (awhat fun _ _ h => aat1 h) rfl (t := cellT) rfl (WayIs.mk_base (t := cellT) rfl rfl) (by decide) (ahops AM1 rfl rfl rfl) (by decide)).mono ?_
  rintro e w4 ⟨v4, rfl, hr4, hb4⟩
  obtain ⟨gh, ch, rfl, hch, hgh⟩ := HasC.of_row hr4 (l := [(7, .int .i64 1)]) (by decide) (by intro x hx; simp only [List.mem_cons, List.not_mem_nil, or_false] at hx; rcases hx with rfl <;> rfl)
  have HN4 : Hid (OwnN w N w4 p AM1) := HN3.out.below hb4
  have HP4 : Hid (HasC w4 gp [(0, .int .i64 3), (1, .int .i64 1), (2, .int .i64 2)]) := HP3.out.below hb4
  have HH4 := (show Hid (HasC w4 gh [(7, .int .i64 1)]) from hch)
  have HGh := (show Hid (N ≤ gh) from Nat.le_trans HZ3.out hgh)
  have HZ4 : Hid (N ≤ w4.heap.size) := Nat.le_trans HZ3.out hb4.size
  clear hW hF hb hr4 hb4 hch hgh HN3 HP3 HZ3
  have hlh : ([edgeH AM1 1, edgeH AM1 3, ⟨0, 1, true⟩] : List Hop).length = 3 := rfl
  rw [hlh]
  clear hlh
  go_wp2_with fail
  obtain ⟨F, hW, hF, hb⟩ := HN4.out
  have hb5 : Below w4.heap.size w4 ((w4.alloc (.cells #[.int .i64 2, .int .i64 3] 23)).alloc (.cells #[.int .i64 0] 23)) := ((Below.refl _ _).alloc (Nat.le_refl _) _).alloc (by simp) _
  refine (wPart_aw (hW.below hb5) rfl apar acut0 (HT.out.below (hb.trans (hb5.mono hb.size))) (by rw [cell_blk (blk_old _ _ (blk_new w4 _))]; rfl) (by rw [cell_blk (blk_old _ _ (blk_new w4 _))]; rfl) (by rw [cell_blk (blkNew _ _ (by simp))]; rfl)).mono ?_
  rintro e w6 ⟨v6, rfl, hr6, hb6⟩
  obtain ⟨gq, cq, rfl, hcq, hgq⟩ := HasC.of_row hr6 (l := [(0, .int .i64 1), (1, .int .i64 2)]) (by decide) (by intro x hx; simp only [List.mem_cons, List.not_mem_nil, or_false] at hx; rcases hx with rfl | rfl <;> rfl)
  have hb6' : Below w4.heap.size w4 w6 := hb5.trans (hb6.mono hb5.size)
  have HN6 : Hid (OwnN w N w6 p AM1) := HN4.out.below hb6'
  have HP6 : Hid (HasC w6 gp [(0, .int .i64 3), (1, .int .i64 1), (2, .int .i64 2)]) := HP4.out.below hb6'
  have HH6 : Hid (HasC w6 gh [(7, .int .i64 1)]) := HH4.out.below hb6'
  have HQ6 := (show Hid (HasC w6 gq [(0, .int .i64 1), (1, .int .i64 2)]) from hcq)
  have HGq := (show Hid (N ≤ gq) from Nat.le_trans HZ4.out (Nat.le_trans hb5.size hgq))
  have HZ6 : Hid (N ≤ w6.heap.size) := Nat.le_trans HZ4.out hb6'.size
  clear hW hF hb hr6 hb6 hcq hgq hb5 hb6' HN4 HP4 HH4 HZ4
  go_wp2_with fail
  obtain ⟨F, hW, hF, hb⟩ := HN6.out
  have hb7 : Below w6.heap.size w6 (w6.alloc (.cells #[.int .i64 3] 3)) := (Below.refl _ _).alloc (Nat.le_refl _) _
  refine (wCut_one (n := 3) (hW.below hb7) (by decide) (by decide) (by rw [cell_blk (blk_new w6 _)]; rfl)).mono ?_
  rintro e w8 ⟨rfl, hW8, hk8⟩
  have hk8' : Keeps F w6 w8 := Below.keeps (S := F) hb7 hk8
  have HN8 : Hid (OwnN w N w8 p AM2) := ⟨F, hW8, hF, hb.trans (Keeps.below hk8' hb.size (fun x hx => (hF x hx).1))⟩
  have HP8 : Hid (HasC w8 gp [(0, .int .i64 3), (1, .int .i64 1), (2, .int .i64 2)]) := HP6.out.keeps hk8' (fun h => by have := hF _ h; have := HG.out; omega)
  have HH8 : Hid (HasC w8 gh [(7, .int .i64 1)]) := HH6.out.keeps hk8' (fun h => by have := hF _ h; have := HGh.out; omega)
  have HQ8 : Hid (HasC w8 gq [(0, .int .i64 1), (1, .int .i64 2)]) := HQ6.out.keeps hk8' (fun h => by have := hF _ h; have := HGq.out; omega)
  clear hW hF hb hb7 hW8 hk8 hk8' HN6 HP6 HH6 HQ6 HG HGh HGq HZ6
  go_wp2_with fail
  obtain ⟨F, hW, hF, hb⟩ := HN8.out
  have hst := wStop_W hW (awhat fun _ _ h => aat h) (r := 1) rfl (WayIs.mk_base (t := cellT) rfl rfl) (a := 0) (by decide) (ahops AM2 rfl rfl rfl) (by decide)
  rw [astop] at hst
  refine hst.mono ?_
  rintro e w9 ⟨rfl, hb9⟩
  have hsv : stopV (some (⟨3, 0, false⟩, 1)) = .tuple #[.agg #[.int .i64 3, .int .i64 0, .bool false], .int .i64 1, .bool true] := rfl
  rw [hsv]
  have HN9 : Hid (OwnN w N w9 p AM2) := HN8.out.below hb9
  have HP9 : Hid (HasC w9 gp [(0, .int .i64 3), (1, .int .i64 1), (2, .int .i64 2)]) := HP8.out.below hb9
  have HH9 : Hid (HasC w9 gh [(7, .int .i64 1)]) := HH8.out.below hb9
  have HQ9 : Hid (HasC w9 gq [(0, .int .i64 1), (1, .int .i64 2)]) := HQ8.out.below hb9
  clear hst hsv hW hF hb hb9 HN8 HP8 HH8 HQ8
  go_wp2_with fail
  obtain ⟨F, hW, hF, hb⟩ := HN9.out
  have hb10 : Below w9.heap.size w9 (w9.alloc (.cells #[.int .i64 3, .int .i64 0, .bool false] 47)) := (Below.refl _ _).alloc (Nat.le_refl _) _
  have hc10 : HasC (w9.alloc (.cells #[.int .i64 3, .int .i64 0, .bool false] 47)) w9.heap.size [(0, .int .i64 3)] := ⟨_, _, _, blk_new w9 _, by intro x hx; simp only [List.mem_cons, List.not_mem_nil, or_false] at hx; rcases hx with rfl <;> rfl⟩
  obtain ⟨b12, h12⟩ : ∃ b, w9.heap.size = b := ⟨_, rfl⟩
  rw [h12] at hc10
  simp only [h12]
  refine (wWhy_cut (hW.below hb10) alight (a := 0) (r := 1) (v := 3) (l := [1]) (t0 := cellT) (by decide) (by decide) (WayIs.mk_base (t := cellT) rfl rfl) rfl (by intro x hx; simp only [List.mem_cons, List.not_mem_nil, or_false] at hx; subst hx; exact ⟨cellT, rfl, by decide⟩) (AbleIs.mk_base (t := cellT) rfl (by decide) (by decide)) (by decide) (by decide) (awhat fun _ _ h => aat h) (ahops AM2 rfl rfl rfl) (by decide) astop).mono ?_
  rintro e w11 ⟨g, rfl, hg, hb11⟩
  have hb11' : Below w9.heap.size w9 w11 := hb10.trans (hb11.mono hb10.size)
  have HN11 : Hid (OwnN w N w11 p AM2) := HN9.out.below hb11'
  have HP11 : Hid (HasC w11 gp [(0, .int .i64 3), (1, .int .i64 1), (2, .int .i64 2)]) := HP9.out.below hb11'
  have HH11 : Hid (HasC w11 gh [(7, .int .i64 1)]) := HH9.out.below hb11'
  have HQ11 : Hid (HasC w11 gq [(0, .int .i64 1), (1, .int .i64 2)]) := HQ9.out.below hb11'
  have HC11 : Hid (HasC w11 b12 [(0, .int .i64 3)]) := hc10.below hb11
  have HF11 := (show Hid (FaultAt w11 g 7) from hg)
  clear hW hF hb hb10 hb11 hb11' HN9 HP9 HH9 HQ9 hc10 hg h12
  have hb12 : Below w11.heap.size w11 (w11.alloc (.cells #[.int .i64 3, .int .i64 0, .bool false] 47)) := (Below.refl _ _).alloc (Nat.le_refl _) _
  have f1 : (w11.alloc (.cells #[.int .i64 3, .int .i64 0, .bool false] 47)).cell? ⟨gp, 0, none⟩ = some (.int .i64 3) := (HP11.out.below hb12).cell (by simp)
  have f2 : (w11.alloc (.cells #[.int .i64 3, .int .i64 0, .bool false] 47)).cell? ⟨gp, 1, none⟩ = some (.int .i64 1) := (HP11.out.below hb12).cell (by simp)
  have f3 : (w11.alloc (.cells #[.int .i64 3, .int .i64 0, .bool false] 47)).cell? ⟨gp, 2, none⟩ = some (.int .i64 2) := (HP11.out.below hb12).cell (by simp)
  have f4 : (w11.alloc (.cells #[.int .i64 3, .int .i64 0, .bool false] 47)).cell? ⟨gh, 7, none⟩ = some (.int .i64 1) := (HH11.out.below hb12).cell (by simp)
  have f5 : (w11.alloc (.cells #[.int .i64 3, .int .i64 0, .bool false] 47)).cell? ⟨gq, 0, none⟩ = some (.int .i64 1) := (HQ11.out.below hb12).cell (by simp)
  have f6 : (w11.alloc (.cells #[.int .i64 3, .int .i64 0, .bool false] 47)).cell? ⟨gq, 1, none⟩ = some (.int .i64 2) := (HQ11.out.below hb12).cell (by simp)
  have f7 : (w11.alloc (.cells #[.int .i64 3, .int .i64 0, .bool false] 47)).cell? ⟨b12, 0, none⟩ = some (.int .i64 3) := (HC11.out.below hb12).cell (by simp)
  have HB12 := (show Hid (Below w11.heap.size w11 (w11.alloc (.cells #[.int .i64 3, .int .i64 0, .bool false] 47))) from hb12)
  clear hb12
  go_wp2_with fail
  clear f1 f2 f3 f4 f5 f6 f7
  refine (is_fault (HF11.out.below HB12.out)).mono ?_
  rintro e w13 ⟨rfl, hb13⟩
  have HN13 : Hid (OwnN w N w13 p AM2) := HN11.out.below (HB12.out.trans (hb13.mono HB12.out.size))
  clear hb13 HN11 HP11 HH11 HQ11 HC11 HF11 HB12
  go_wp2_with fail
  obtain ⟨F, hW, hF, hb⟩ := HN13.out
  refine (wIslands_aw hW rfl (by decide) (by decide) (by decide)).mono ?_
  rintro e w14 ⟨xa, xc, rfl, hb14⟩
  have HB14 := (show Hid (Below w.heap.size w w14) from hb.trans (hb14.mono hb.size))
  clear hW hF hb hb14 HN13
  go_wp2_with fail
  first | rw [Exit.noGoto_ret] | skip
  go_ret
  exact ⟨rfl, HB14.out⟩
end Go.Proofs.YtifmifjbebpomaaGreatDoor
/- WallNone: what lies between its calls; how it leaves. -/
namespace Go.Proofs.YtifmifjbebpomaaGreatDoor
open Go.RowKit Go.Shelf Go.ChangeMaps Go.MapKept
attribute [local go_sem] Oper.semAt_some

/-- Between the law's calls. -/
structure WnS (w0 : World) (cs : Array Value) (g : Nat) (ds : List Nat) (w : World) : Prop where
  below : Below w0.heap.size w0 w
  arg : w.heap[w0.heap.size]? = some (.cells cs 29 (0, 0))
  res : w.heap[w0.heap.size + 1]? = some (.cells #[.bool false] 4 (0, 0))
  zero : w.heap[g]? = some (.cells #[.slice none 0 0, .slice none 0 0, .map none, .map none, .int .i64 0, .slice none 0 0] 38 (0, 0))
  arr : w.heap[g + 1]? = some (.cells #[.pointer none, .pointer (some ⟨g, 0, none⟩)] 39 (0, 0))
  marks : ∀ d ∈ ds, w0.heap.size + 2 ≤ d ∧ w.heap[d]? = some (.deferred (some []))
  nod : ds.Nodup
theorem WnS.on {w0 w w' : World} {cs : Array Value} {g : Nat} {ds : List Nat} (h : WnS w0 cs g ds w) (hb : Below w.heap.size w w') : WnS w0 cs g ds w' :=
  ⟨h.below.trans (hb.mono h.below.size), below_blk hb h.arg, below_blk hb h.res, below_blk hb h.zero, below_blk hb h.arr, fun d hd => ⟨(h.marks d hd).1, below_blk hb (h.marks d hd).2⟩, h.nod⟩
theorem WnS.no {w0 w : World} {cs : Array Value} {g : Nat} {ds : List Nat} (h : WnS w0 cs g ds w) : NoW w (.pointer (some ⟨g, 0, none⟩)) := .inr ⟨g, rfl, by rw [cell_blk h.zero]; rfl⟩
theorem WnS.marked {w0 w w' : World} {cs : Array Value} {g D : Nat} {ds : List Nat} (h : WnS w0 cs g ds w) (hb : Below w.heap.size w w') (hD : w.heap.size ≤ D) (hK : w'.heap[D]? = some (.deferred (some []))) :
    WnS w0 cs g (D :: ds) w' where
  below := (h.on hb).below
  arg := (h.on hb).arg
  res := (h.on hb).res
  zero := (h.on hb).zero
  arr := (h.on hb).arr
  marks := fun d hd => by
    rcases List.mem_cons.1 hd with rfl | hd
    · have := blk_lt h.res
      exact ⟨by omega, hK⟩
    · exact ⟨(h.marks d hd).1, below_blk hb (h.marks d hd).2⟩
  nod := List.nodup_cons.2 ⟨fun hd => by
    have := blk_lt (h.marks D hd).2
    omega, h.nod⟩

theorem wn_equalIn (d : Nat) (t : TypeId) {ps rs : Array TypeId} {v : Bool} (ht : Tryz.prog.underlying t = some (.func ps rs v)) (f : Fn) (first cap : Array Value) (w : World) : Sem.run Tryz.prog (Op.equalIn (d + 1) t (Value.func f first cap) Value.nilFunc) w = .ok false w := by
  simp [Op.equalIn, run_underlying ht]
theorem wn_binOp (f : Fn) (first cap : Array Value) (w : World) : Sem.run Tryz.prog (binOp BinOp.eql 62 (Value.func f first cap) Value.nilFunc) w = .ok (.bool false) w := by
  simp [binOp, Op.equal, Op.maxDepth, wn_equalIn 9999 62 Tryz.underlying62]
theorem res_set {W : World} {B : Nat} (v : Value) {x : Value} (h : W.heap[B]? = some (.cells #[x] 4 (0, 0))) : (W.setCell ⟨B, 0, none⟩ v).heap[B]? = some (.cells #[v] 4 (0, 0)) := by
  rw [blk_setCell h]; rfl
/-- The law leaves where no loop has run. -/
theorem wn_end0 {w W : World} (hb : Below w.heap.size w W) (hr : W.heap[w.heap.size + 1]? = some (.cells #[.bool false] 4 (0, 0))) (tmps : Array Value) (ht : tmps[12]? = some (.pointer (some ⟨w.heap.size + 1, 0, none⟩))) :
    LeavesInM Fence.wide 5 Tryz.prog Tryz.f4 tmps (fun e w' => e = .returned (.bool true) ∧ Below w.heap.size w w') [] .returning (W.setCell ⟨w.heap.size + 1, 0, none⟩ (.bool true)) := by
  have hs := res_set (.bool true) hr
  have c5 : (W.setCell ⟨w.heap.size + 1, 0, none⟩ (.bool true)).cell? ⟨w.heap.size + 1, 0, none⟩ = some (.bool true) := by
    rw [cell_blk hs]; rfl
  refine ⟨.bool true, ?_, rfl, hb.setCell (by show w.heap.size ≤ w.heap.size + 1; omega) _⟩
  simp [results, Tryz.f4, go_sem, ht, c5]
/-- The law leaves, over the marks of its two loops. -/
theorem wn_end {w W : World} {cs : Array Value} {g D0 D1 : Nat} (h : WnS w cs g [D1, D0] W) (tmps : Array Value) (ht : tmps[12]? = some (.pointer (some ⟨w.heap.size + 1, 0, none⟩))) :
    LeavesInM Fence.wide 5 Tryz.prog Tryz.f4 tmps (fun e w' => e = .returned (.bool true) ∧ Below w.heap.size w w') [{ target := .collected D1, args := #[] }, { target := .collected D0, args := #[] }] .returning (W.setCell ⟨w.heap.size + 1, 0, none⟩ (.bool true)) := by
  have h1 := h.marks D1 (by simp)
  have h0 := h.marks D0 (by simp)
  have hne : D1 ≠ D0 := fun e => by
    have := h.nod
    simp [e] at this
  have hs := res_set (.bool true) h.res
  have k1 : (W.setCell ⟨w.heap.size + 1, 0, none⟩ (.bool true)).heap[D1]? = some (.deferred (some [])) := (Below.heap_setCell _ _ _ _ (by show D1 ≠ w.heap.size + 1; omega)).trans h1.2
  have k0 : ((W.setCell ⟨w.heap.size + 1, 0, none⟩ (.bool true)).putObj D1 (.deferred none)).heap[D0]? = some (.deferred (some [])) := (World.putObj_heap_other hne.symm).trans ((Below.heap_setCell _ _ _ _ (by show D0 ≠ w.heap.size + 1; omega)).trans h0.2)
  have c5 : (((W.setCell ⟨w.heap.size + 1, 0, none⟩ (.bool true)).putObj D1 (.deferred none)).putObj D0 (.deferred none)).cell? ⟨w.heap.size + 1, 0, none⟩ = some (.bool true) := by
    rw [cell_blk ((World.putObj_heap_other (by omega)).trans ((World.putObj_heap_other (by omega)).trans hs))]; rfl
  have hsz := h.below.size
  have b1 : Below w.heap.size w ((W.setCell ⟨w.heap.size + 1, 0, none⟩ (.bool true)).putObj D1 (.deferred none)) :=
    (h.below.setCell (p := ⟨w.heap.size + 1, 0, none⟩) (by show w.heap.size ≤ w.heap.size + 1; omega) _).grown (grownBy_putObj' _ D1 _) (by simpa [World.setCell] using hsz) (fun k e => by cases e; omega)
  have b2 : Below w.heap.size w (((W.setCell ⟨w.heap.size + 1, 0, none⟩ (.bool true)).putObj D1 (.deferred none)).putObj D0 (.deferred none)) :=
    b1.grown (grownBy_putObj' _ D0 _) b1.size (fun k e => by cases e; omega)
  refine ⟨by simp, .inl ⟨_, _, rfl, run_takeDeferred k1, ?_⟩⟩
  refine ⟨by simp, .inl ⟨_, _, rfl, run_takeDeferred k0, ?_⟩⟩
  refine ⟨.bool true, ?_, rfl, b2⟩
  simp [results, Tryz.f4, go_sem, ht, c5]
end Go.Proofs.YtifmifjbebpomaaGreatDoor
