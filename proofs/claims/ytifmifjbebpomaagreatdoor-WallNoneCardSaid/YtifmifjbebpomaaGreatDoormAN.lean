/- A part of the proof, several texts in one: WaS, WaN, WaG. -/
import Derived.Test.YtifmifjbebpomaaGreatDoormAM
import Derived.Test.YtifmifjbebpomaaGreatDoormAH
import Derived.Test.YtifmifjbebpomaaGreatDoormAJ
import Derived.Test.YtifmifjbebpomaaGreatDoormAK
import Derived.RangeFuncLeaves
import Derived.RangeFuncNested
import Derived.TacticsInMore
import Derived.BigRegion
import Derived.OwnWalk
import Derived.Lib.IfaceEq
/- Walls: Stop. -/
namespace Go.Proofs.YtifmifjbebpomaaGreatDoor
open Go.RowKit Go.Shelf Go.ChangeMaps Go.MapKept
attribute [local go_sem] Oper.semAt_some

/-- The first hop that is not open. -/
def stopM : Nat → List Hop → Option (Hop × Nat)
  | _, [] => none
  | i, h :: r => if h.free = true then stopM (i + 1) r else some (h, i)
theorem stopM_none {ys : List Hop} (h : ∀ y ∈ ys, y.free = true) (i : Nat) : stopM i ys = none := by
  induction ys generalizing i with
  | nil => rfl
  | cons y r ih =>
    rw [stopM, if_pos (h y (by simp))]
    exact ih (fun z hz => h z (by simp [hz])) _
theorem stopM_some {xs zs : List Hop} {x : Hop} (h : ∀ y ∈ xs, y.free = true) (hx : x.free = false) (i : Nat) : stopM i (xs ++ x :: zs) = some (x, i + xs.length) := by
  induction xs generalizing i with
  | nil => rw [List.nil_append, stopM, if_neg (by simp [hx])]; rfl
  | cons y r ih =>
    rw [List.cons_append, stopM, if_pos (h y (by simp)), ih (fun z hz => h z (by simp [hz]))]
    simp
    omega
def stopV (o : Option (Hop × Nat)) : Value := match o with
  | none => .tuple #[.agg #[.int .i64 0, .int .i64 0, .bool false], .int .i64 0, .bool false]
  | some (h, i) => .tuple #[.agg #[.int .i64 h.edge, .int .i64 h.thing, .bool h.free], .int .i64 i, .bool true]
/-- The cells of Stop's results. -/
structure StAt (w : World) (B : Nat) (e t : Int) (f : Bool) (n : Int) (b : Bool) (W : World) : Prop where
  below : Below w.heap.size w W
  hop : W.heap[B]? = some (.cells #[.int .i64 e, .int .i64 t, .bool f] 47 (0, 0))
  at_ : W.heap[B + 1]? = some (.cells #[.int .i64 n] 3 (0, 0))
  is : W.heap[B + 2]? = some (.cells #[.bool b] 4 (0, 0))
theorem StAt.grown {w W W' : World} {B : Nat} {e t : Int} {f : Bool} {n : Int} {b : Bool} {row : Option Nat} (h : StAt w B e t f n b W) (hg : W.grownBy W' row)
    (hr : ∀ x, row = some x → w.heap.size ≤ x ∧ ∃ o : Obj, W.heap[x]? = some o ∧ o.isCells = false) : StAt w B e t f n b W' := by
  have hk : ∀ (c : Nat) (cs : Array Value) (e : TypeId) (fr : Nat × Nat), W.heap[c]? = some (.cells cs e fr) → W'.heap[c]? = some (.cells cs e fr) := fun c cs e fr hc => (hg.block c (blk_lt hc) (fun e => by
    obtain ⟨o, ho, h1⟩ := (hr c e.symm).2
    rw [hc] at ho
    cases ho
    cases h1)).trans hc
  exact ⟨h.below.grown hg h.below.size (fun k e => (hr k e).1), hk _ _ _ _ h.hop, hk _ _ _ _ h.at_, hk _ _ _ _ h.is⟩
theorem results_stop {fn : Func} (h : fn.results = #[.cell 6 47, .cell 7 3, .cell 8 4]) (tmps : Array Value) {W w : World} {B : Nat} {e t : Int} {f : Bool} {n : Int} {b : Bool} (hs : StAt w B e t f n b W)
    (h6 : tmps.getD 6 undef = .pointer (some ⟨B, 0, none⟩)) (h7 : tmps.getD 7 undef = .pointer (some ⟨B + 1, 0, none⟩)) (h8 : tmps.getD 8 undef = .pointer (some ⟨B + 2, 0, none⟩)) :
    (results fn tmps).run Tryz.prog W = .ok (.tuple #[.agg #[.int .i64 e, .int .i64 t, .bool f], .int .i64 n, .bool b]) W := by
  have b0 : W.cell? ⟨B, 0, none⟩ = some (.int .i64 e) := by rw [cell_blk hs.hop]; rfl
  have b1 : W.cell? ⟨B, 1, none⟩ = some (.int .i64 t) := by rw [cell_blk hs.hop]; rfl
  have b2 : W.cell? ⟨B, 2, none⟩ = some (.bool f) := by rw [cell_blk hs.hop]; rfl
  have c7 : W.cell? ⟨B + 1, 0, none⟩ = some (.int .i64 n) := by rw [cell_blk hs.at_]; rfl
  have c8 : W.cell? ⟨B + 2, 0, none⟩ = some (.bool b) := by rw [cell_blk hs.is]; rfl
  unfold results
  rw [h]
  rw [Array.getD_eq_getD_getElem?] at h6 h7 h8
  simp [h6, h7, h8, asAddr, Result.andThen, go_sem, b0, b1, b2, c7, c8]
def own1 (B : Nat) (_ : World) (b : Nat) : Prop := b = B
theorem KpH1_put {B n n0 : Nat} (hn0 : n0 ≤ n) (W : World) (l : Nat) (o o' : Obj) (hl : n ≤ l) (ho : W.heap[l]? = some o) (hc : o.isCells = false) : KpH (own1 B) n0 W (W.putObj l o') where
  kp := ⟨by simp, fun b cs e fr hb _ => (World.putObj_heap_other (fun h => by subst h; rw [hb] at ho; cases ho; cases hc)).trans hb, fun b hb => .inl hb⟩
  low := fun b hb => World.putObj_heap_other (by omega)
  lt := fun hA b hb => by rw [show (W.putObj l o').heap.size = W.heap.size by simp]; exact hA b hb
theorem KpH1_below {B n0 : Nat} {W W' : World} (hn : n0 ≤ W.heap.size) (h : Below W.heap.size W W') : KpH (own1 B) n0 W W' where
  kp := ⟨h.size, fun b _ _ _ hb _ => (h.block b (blk_lt hb)).trans hb, fun b hb => .inl hb⟩
  low := fun b hb => h.block b (by omega)
  lt := fun hA b hb => Nat.lt_of_lt_of_le (hA b hb) h.size
theorem KpH1_set {B n0 : Nat} {W : World} {v : Value} (hn : n0 ≤ B) : KpH (own1 B) n0 W (W.setCell ⟨B, 0, none⟩ v) where
  kp := ⟨by simp [World.setCell], fun b cs e fr hb hn => (Below.heap_setCell _ _ _ _ (fun e => hn (show b = B from e))).trans hb, fun b hb => .inl hb⟩
  low := fun b hb => Below.heap_setCell _ _ _ _ (by show b ≠ B; omega)
  lt := fun hA b hb => by rw [show (W.setCell ⟨B, 0, none⟩ v).heap.size = W.heap.size by simp [World.setCell]]; exact hA b hb
theorem keepsFrom_set {n : Nat} {W : World} {c : Nat} {cs : Array Value} {e : TypeId} {fr : Nat × Nat} {i : Nat} {v : Value} (hc : W.heap[c]? = some (.cells cs e fr)) : KeepsFrom n W (W.setCell ⟨c, i, none⟩ v) where
  size := by simp [World.setCell]
  same := fun k o _ hk ho => (Below.heap_setCell _ _ _ _ (fun e => by
    have e : k = c := e
    subst e
    rw [hc] at hk
    cases hk
    cases ho)).trans hk

theorem heap_setCell_ne (W : World) (a : Addr) (v : Value) {b : Nat} (h : b ≠ a.block) : (W.setCell a v).heap[b]? = W.heap[b]? := Below.heap_setCell _ _ _ _ h
theorem keepsFrom_drewR {m : Nat} {W W' : World} (h : KeepsFrom m W W') : KeepsFrom m W W'.drew := ⟨h.size, h.same⟩
theorem StAt.drew {w W : World} {B : Nat} {e t n : Int} {f b : Bool} (h : StAt w B e t f n b W) : StAt w B e t f n b W.drew := ⟨h.below.drew, h.hop, h.at_, h.is⟩
theorem StAt.set5 {w W : World} {B : Nat} {n : Int} (hB : w.heap.size ≤ B) (m : Nat) (e t : Int) (f : Bool) (n' : Int) (b' : Bool) (h : StAt w B 0 0 false n false W) :
    StAt w B e t f n' b' (((((W.setCell ⟨B, 0, none⟩ (.int .i64 e)).setCell ⟨B, 1, none⟩ (.int .i64 t)).setCell ⟨B, 2, none⟩ (.bool f)).setCell ⟨B + 1, 0, none⟩ (.int .i64 n')).setCell ⟨B + 1 + 1, 0, none⟩ (.bool b')) ∧
    KeepsFrom m W (((((W.setCell ⟨B, 0, none⟩ (.int .i64 e)).setCell ⟨B, 1, none⟩ (.int .i64 t)).setCell ⟨B, 2, none⟩ (.bool f)).setCell ⟨B + 1, 0, none⟩ (.int .i64 n')).setCell ⟨B + 1 + 1, 0, none⟩ (.bool b')) := by
  have h1 := blk_setCell h.hop 0 (.int .i64 e)
  have h2 := blk_setCell h1 1 (.int .i64 t)
  have h3 := blk_setCell h2 2 (.bool f)
  have a1 := blk_other h.at_ ⟨B, 0, none⟩ (.int .i64 e) (by show B + 1 ≠ B; omega)
  have a2 := blk_other a1 ⟨B, 1, none⟩ (.int .i64 t) (by show B + 1 ≠ B; omega)
  have a3 := blk_other a2 ⟨B, 2, none⟩ (.bool f) (by show B + 1 ≠ B; omega)
  have b1 := blk_other h.is ⟨B, 0, none⟩ (.int .i64 e) (by show B + 2 ≠ B; omega)
  have b2 := blk_other b1 ⟨B, 1, none⟩ (.int .i64 t) (by show B + 2 ≠ B; omega)
  have b3 := blk_other b2 ⟨B, 2, none⟩ (.bool f) (by show B + 2 ≠ B; omega)
  have h4 := blk_other h3 ⟨B + 1, 0, none⟩ (.int .i64 n') (by show B ≠ B + 1; omega)
  have a4 := blk_setCell a3 0 (.int .i64 n')
  have b4 := blk_other b3 ⟨B + 1, 0, none⟩ (.int .i64 n') (by show B + 2 ≠ B + 1; omega)
  refine ⟨⟨((((h.below.setCell hB _).setCell hB _).setCell hB _).setCell (by show w.heap.size ≤ B + 1; omega) _).setCell (by show w.heap.size ≤ B + 1 + 1; omega) _, blk_other h4 _ _ (by show B ≠ B + 1 + 1; omega), blk_other a4 _ _ (by show B + 1 ≠ B + 1 + 1; omega), blk_setCell b4 0 _⟩, ?_⟩
  exact ((((keepsFrom_set h.hop).trans (keepsFrom_set h1)).trans (keepsFrom_set h2)).trans (keepsFrom_set a3)).trans (keepsFrom_set b4)
set_option maxHeartbeats 4000000 in
set_option maxRecDepth 100000 in
theorem wStop_W {w : World} {p : Nat} {M : WM} {Fw : Nat → Prop} {a r : Int} {l : List Int} {ys : List Hop} (hW : IsW w p M Fw) (hwhat : WhatOk p M Fw) (hr : (Lit.int .i64 r).wf = true) (hl : WayIs M r l) (ha : sideB M a = true) (hys : HopsIs M a l ys) (hlen : (ys.length : Int) ≤ 1099511627777) :
    Calls Tryz.prog 9 #[.pointer (some ⟨p, 0, none⟩), .int .i64 a, .int .i64 r] w fun e w' => e = .returned (stopV (stopM 0 ys)) ∧ Below w.heap.size w w' := by
  obtain ⟨w1, hw1⟩ : ∃ w1, ((w.alloc (.cells #[.int .i64 0, .int .i64 0, .bool false] 47)).alloc (.cells #[.int .i64 0] 3)).alloc (.cells #[.bool false] 4) = w1 := ⟨_, rfl⟩
  have hb1 : Below w.heap.size w w1 := by rw [← hw1]; exact (((Below.refl _ _).alloc (Nat.le_refl _) _).alloc (by simp) _).alloc (by simp; omega) _
  have hs1 : w1.heap.size = w.heap.size + 3 := by rw [← hw1]; simp
  have HS1 : Hid (StAt w w.heap.size 0 0 false 0 false w1) := by
    refine ⟨hb1, ?_, ?_, ?_⟩
    · rw [← hw1]; exact blk_old _ _ (blk_old _ _ (blk_new w _))
    · rw [← hw1]; exact blk_old _ _ (blkNew _ _ (by simp))
    · rw [← hw1]; exact blkNew _ _ (by simp)
  have h1 := wthere_W (hW.below hb1)
  have h2 := wside_W (hW.below hb1) a
  rw [ha] at h2
  have h3 := whops_W w1 p a r
  obtain ⟨w2, hw2, hb2, hs2, hbf, hbw, hbr⟩ := boxes3 (w := w1) (p := p) (a := a) (r := r)
  rw [hw2] at h3
  have hseq := hops1_seq (n := 4) (n0 := w.heap.size) (w0 := w2) ((hW.below hb1).below hb2) (fun b hb => hW.lt b hb) (by omega) hbf hbw hbr hwhat hr hl ha hys (own1 (w.heap.size + 1))
    (fun W hb b e => by have e : b = w.heap.size + 1 := e; omega) (fun _ _ _ _ _ h => h)
  have HSQ := (show Hid _ from hseq)
  have HS2 : Hid (StAt w w.heap.size 0 0 false 0 false w2) := HS1.out.grown (grownBy_of_below hb2) (fun _ e => by cases e)
  have HZ : Hid (w2.heap.size = w.heap.size + 6) := by show _ = _; omega
  clear hseq hb1 hs1 hb2 hs2 hbf hbw hbr hW hwhat hr hl ha hys HS1
  refine (callsIn_wide (n := 5)).1 ?_
  refine callsIn_of_wp_marks Tryz.func9 rfl trivial ?_ rfl
  simp only [Tryz.ntmps9, List.size_toArray, List.length_cons, List.length_nil, Nat.reduceAdd, Nat.reduceSub, Array.replicate_succ, Array.replicate_zero, List.push_toArray, List.append_toArray, List.nil_append, List.cons_append]
  gi_wp2_with fail
  refine ⟨trivial, (callsIn_wide.2 h1).mono ?_⟩
  rintro e _ ⟨rfl, rfl⟩
  gi_wp2_with fail
  refine ⟨trivial, (callsIn_wide.2 h2).mono ?_⟩
  rintro e _ ⟨rfl, rfl⟩
  gi_wp2_with fail
  refine ⟨trivial, (callsIn_wide.2 h3).mono ?_⟩
  rintro e w2 ⟨rfl, rfl⟩
  have HLen := (show Hid ((ys.length : Int) ≤ 1099511627777) from hlen)
  clear h1 h2 h3 hlen hw1 hw2
  gi_wp2_with fail
  refine wpIn_rangeFunc_ownH rfl (by decide) (gf := 56) (lb := #[.pointer (some ⟨w1.heap.size + 1, 0, none⟩), .pointer (some ⟨w1.heap.size, 0, none⟩), .pointer (some ⟨w1.heap.size + 2, 0, none⟩)]) rfl trivial (enters_of Tryz.func56 (by kernel_rfl) rfl) HSQ.out (fun h k => h.trans k)
    (fun W l o o' hl ho hc _ => KpH1_put (n := w2.heap.size) (by have := HZ.out; omega) W l o o' hl ho hc) (Below.refl _ _) (fun _ => rfl)
    (fun (pre : List Hop) W => StAt w w.heap.size 0 0 false pre.length false W ∧ ∀ y ∈ pre, y.free = true)
    (fun c pre W => c = .ret ∧ ∃ pre' x, pre = pre' ++ [x] ∧ (∀ y ∈ pre', y.free = true) ∧ x.free = false ∧ StAt w w.heap.size x.edge x.thing x.free pre'.length true W)
    (fun s W W' row hs hg hr => ⟨hs.1.grown hg (fun x e => ⟨by have := (hr x e).1; have := HZ.out; omega, (hr x e).2⟩), hs.2⟩)
    (fun c s W W' row hs hg hr => by
      obtain ⟨h1, pre', x, h2, h3, h4, h5⟩ := hs
      exact ⟨h1, pre', x, h2, h3, h4, h5.grown hg (fun x e => ⟨by have := (hr x e).1; have := HZ.out; omega, (hr x e).2⟩)⟩) ⟨HS2.out, fun y hy => by cases hy⟩
    (fun x a' W => ∃ g, a' = { tmps := #[.pointer (some ⟨p, 0, none⟩), .int .i64 a, .int .i64 r, undef, undef, undef, .pointer (some ⟨w.heap.size, 0, none⟩), .pointer (some ⟨w.heap.size + 1, 0, none⟩), .pointer (some ⟨w.heap.size + 1 + 1, 0, none⟩), .pointer (some ⟨g, 0, none⟩), .pointer (some ⟨p, 0, none⟩), .bool true, .bool false, .bool false, .pointer (some ⟨p, 0, none⟩), .int .i64 a, .bool true, .bool false, .bool false, undef, .pointer (some ⟨p, 0, none⟩), .int .i64 a, .int .i64 r, .func (.func 56) #[] #[.pointer (some ⟨w1.heap.size + 1, 0, none⟩), .pointer (some ⟨w1.heap.size, 0, none⟩), .pointer (some ⟨w1.heap.size + 2, 0, none⟩)], .agg #[.int .i64 x.edge, .int .i64 x.thing, .bool x.free], undef, undef, undef, undef, undef, undef, undef, undef], defers := [] } ∧ W.heap[g]? = some (.cells #[.int .i64 x.edge, .int .i64 x.thing, .bool x.free] 47 (0, 0)) ∧ w.heap.size + 2 < g)
    (fun x a' s W W' row hs hg hr => by
      obtain ⟨g, h1, h2, h3⟩ := hs
      refine ⟨g, h1, (hg.block g (blk_lt h2) (fun e => ?_)).trans h2, h3⟩
      obtain ⟨o, ho, hc⟩ := (hr g e.symm).2
      rw [h2] at ho
      cases ho
      cases hc) ?assign ?body ?done ?stop
  case assign =>
    intro l pre x W K hI hK
    have hsz := blk_lt hI.1.is
    have hb : Below W.heap.size W (W.alloc (.cells #[.int .i64 x.edge, .int .i64 x.thing, .bool x.free] 47)) := (Below.refl _ _).alloc (Nat.le_refl _) _
    have HA : Hid (KeepsFrom w2.heap.size W (W.alloc (.cells #[.int .i64 x.edge, .int .i64 x.thing, .bool x.free] 47)) ∧ KpH (own1 (w.heap.size + 1)) w.heap.size W (W.alloc (.cells #[.int .i64 x.edge, .int .i64 x.thing, .bool x.free] 47)) ∧ StAt w w.heap.size 0 0 false pre.length false (W.alloc (.cells #[.int .i64 x.edge, .int .i64 x.thing, .bool x.free] 47)) ∧ (∀ y ∈ pre, y.free = true) ∧ w.heap.size + 2 < W.heap.size) :=
      ⟨(keepsOthers_of_below hb).from _, KpH1_below (by omega) hb, hI.1.grown (grownBy_of_below hb) (fun _ e => by cases e), hI.2, by omega⟩
    clear hb hI hsz
    gi_wp2_with fail
    exact hK _ _ HA.out.1 HA.out.2.1 ⟨HA.out.2.2.1, HA.out.2.2.2.1⟩ ⟨_, rfl, blk_new _ _, HA.out.2.2.2.2⟩
  case body =>
    rintro l pre x a' W hl - hI ⟨g, rfl, hg, hgs⟩ hlen
    have HI := (show Hid (StAt w w.heap.size 0 0 false pre.length false W ∧ ∀ y ∈ pre, y.free = true) from hI)
    have c7 : W.cell? ⟨w.heap.size + 1, 0, none⟩ = some (.int .i64 pre.length) := by rw [cell_blk hI.1.at_]; rfl
    have f7 : W.frozen? ⟨w.heap.size + 1, 0, none⟩ = false := frozen_blk hI.1.at_ 0
    have g2 : W.cell? ⟨g, 2, none⟩ = some (.bool x.free) := by rw [cell_blk hg]; rfl
    have hwk : wrap64 ((pre.length : Int) + 1) = (pre.length : Int) + 1 := by have := HLen.out; unfold wrap64; omega
    cases hf : x.free with
    | true =>
      rw [hf] at g2
      have Hf := (show Hid (x.free = true) from hf)
      clear hI hg hgs hl hlen hf
      gi_wp2_with fail
      refine ⟨keepsFrom_set HI.out.1.at_, KpH1_set (by omega), ⟨?_, ?_⟩⟩
      · have hs := HI.out.1
        refine ⟨hs.below.setCell (by show w.heap.size ≤ w.heap.size + 1; omega) _, blk_other hs.hop _ _ (by show w.heap.size ≠ w.heap.size + 1; omega), ?_, blk_other hs.is _ _ (by show w.heap.size + 2 ≠ w.heap.size + 1; omega)⟩
        rw [blk_setCell hs.at_ 0 _, List.length_append]
        rfl
      · intro y hy
        rcases List.mem_append.1 hy with h | h
        · exact HI.out.2 y h
        · rw [List.mem_singleton.1 h]; exact Hf.out
    | false =>
      rw [hf] at g2
      have g0 : W.cell? ⟨g, 0, none⟩ = some (.int .i64 x.edge) := by rw [cell_blk hg]; rfl
      have g1 : W.cell? ⟨g, 1, none⟩ = some (.int .i64 x.thing) := by rw [cell_blk hg]; rfl
      have Hf := (show Hid (x.free = false) from hf)
      have d0 : W.cell? ⟨w.heap.size, 0, none⟩ = some (.int .i64 0) := by rw [cell_blk hI.1.hop]; rfl
      have d1 : W.cell? ⟨w.heap.size, 1, none⟩ = some (.int .i64 0) := by rw [cell_blk hI.1.hop]; rfl
      have d2 : W.cell? ⟨w.heap.size, 2, none⟩ = some (.bool false) := by rw [cell_blk hI.1.hop]; rfl
      have e0 : ∀ i, W.frozen? ⟨w.heap.size, i, none⟩ = false := frozen_blk hI.1.hop
      have c8 : W.cell? ⟨w.heap.size + 1 + 1, 0, none⟩ = some (.bool false) := by rw [cell_blk hI.1.is]; rfl
      have f8 : W.frozen? ⟨w.heap.size + 1 + 1, 0, none⟩ = false := frozen_blk hI.1.is 0
      have e1 := e0 0
      have e2 := e0 1
      have e3 := e0 2
      clear hI hg hl hlen hf e0
      gi_wp2_with fail
      obtain ⟨HF1, HF2⟩ := StAt.set5 (Nat.le_refl _) w2.heap.size x.edge x.thing false pre.length true HI.out.1
      have HF := (show Hid _ from And.intro HF1.drew (keepsFrom_drewR HF2))
      clear HF1 HF2
      gi_region
      all_goals
        gi_wp2_with fail
        exact ⟨HF.out.2, rfl, pre, x, rfl, HI.out.2, Hf.out, by rw [Hf.out]; exact HF.out.1⟩
  case done =>
    rintro D xs W hD rfl hI hK
    have HI := (show Hid (StAt w w.heap.size 0 0 false xs.length false W ∧ ∀ y ∈ xs, y.free = true) from hI)
    have d0 : W.cell? ⟨w.heap.size, 0, none⟩ = some (.int .i64 0) := by rw [cell_blk hI.1.hop]; rfl
    have d1 : W.cell? ⟨w.heap.size, 1, none⟩ = some (.int .i64 0) := by rw [cell_blk hI.1.hop]; rfl
    have d2 : W.cell? ⟨w.heap.size, 2, none⟩ = some (.bool false) := by rw [cell_blk hI.1.hop]; rfl
    have e1 : W.frozen? ⟨w.heap.size, 0, none⟩ = false := frozen_blk hI.1.hop 0
    have e2 : W.frozen? ⟨w.heap.size, 1, none⟩ = false := frozen_blk hI.1.hop 1
    have e3 : W.frozen? ⟨w.heap.size, 2, none⟩ = false := frozen_blk hI.1.hop 2
    have c7 : W.cell? ⟨w.heap.size + 1, 0, none⟩ = some (.int .i64 xs.length) := by rw [cell_blk hI.1.at_]; rfl
    have f7 : W.frozen? ⟨w.heap.size + 1, 0, none⟩ = false := frozen_blk hI.1.at_ 0
    have c8 : W.cell? ⟨w.heap.size + 1 + 1, 0, none⟩ = some (.bool false) := by rw [cell_blk hI.1.is]; rfl
    have f8 : W.frozen? ⟨w.heap.size + 1 + 1, 0, none⟩ = false := frozen_blk hI.1.is 0
    have HK := (show Hid (W.heap[D]? = some (.deferred (some []))) from hK)
    clear hI hK
    gi_wp2_with fail
    have hs := (StAt.set5 (Nat.le_refl _) 0 0 0 false 0 false HI.out.1).1
    have hDz := HZ.out
    have hk : (((((W.setCell ⟨w.heap.size, 0, none⟩ (.int .i64 0)).setCell ⟨w.heap.size, 1, none⟩ (.int .i64 0)).setCell ⟨w.heap.size, 2, none⟩ (.bool false)).setCell ⟨w.heap.size + 1, 0, none⟩ (.int .i64 0)).setCell ⟨w.heap.size + 1 + 1, 0, none⟩ (.bool false)).heap[D]? = some (.deferred (some [])) := by
      rw [heap_setCell_ne _ _ _ (by show D ≠ w.heap.size + 1 + 1; omega), heap_setCell_ne _ _ _ (by show D ≠ w.heap.size + 1; omega), heap_setCell_ne _ _ _ (by show D ≠ w.heap.size; omega), heap_setCell_ne _ _ _ (by show D ≠ w.heap.size; omega), heap_setCell_ne _ _ _ (by show D ≠ w.heap.size; omega)]
      exact HK.out
    refine ⟨by simp, .inl ⟨_, _, rfl, run_takeDeferred hk, ?_⟩⟩
    have HP := hs.grown (grownBy_putObj' _ D (.deferred none)) (fun x e => by cases e; exact ⟨by omega, _, hk, rfl⟩)
    exact ⟨_, results_stop rfl _ HP rfl rfl rfl, by rw [stopM_none HI.out.2]; rfl, HP.below⟩
  case stop =>
    rintro D c pre W hD hp ⟨rfl, pre', x, rfl, h3, h4, h5⟩ hK
    obtain ⟨zs, hz⟩ := hp
    have hst : stopV (stopM 0 ys) = .tuple #[.agg #[.int .i64 x.edge, .int .i64 x.thing, .bool x.free], .int .i64 pre'.length, .bool true] := by
      rw [← hz, List.append_assoc, List.singleton_append, stopM_some h3 h4 0, Nat.zero_add]
      rfl
    have HI := (show Hid (StAt w w.heap.size x.edge x.thing x.free pre'.length true W) from h5)
    have HK := (show Hid (W.heap[D]? = some (.deferred (some []))) from hK)
    have Hst := (show Hid _ from hst)
    clear h3 h4 h5 hK hz hst
    gi_wp2_with fail
    refine ⟨by simp, .inl ⟨_, _, rfl, run_takeDeferred HK.out, ?_⟩⟩
    have HP : StAt w w.heap.size x.edge x.thing x.free pre'.length true (W.putObj D (.deferred none)) := HI.out.grown (grownBy_putObj' W D _) (fun x e => by cases e; exact ⟨by have := HZ.out; omega, _, HK.out, rfl⟩)
    exact ⟨_, results_stop rfl _ HP rfl rfl rfl, by rw [Hst.out], HP.below⟩
end Go.Proofs.YtifmifjbebpomaaGreatDoor
/- The wall over worlds that are not there: what each call answers. -/
namespace Go.Proofs.YtifmifjbebpomaaGreatDoor
open Go.RowKit Go.Shelf Go.ChangeMaps Go.MapKept
attribute [local go_sem] Oper.semAt_some

set_option maxRecDepth 8000 in
theorem wthere_no {w : World} {v : Value} (hv : NoW w v) : Calls Tryz.prog 20 #[v] w fun e w' => e = .returned (.bool false) ∧ w = w' := by
  have HS := (show Hid _ from wSides_no hv)
  rcases hv with rfl | ⟨b, rfl, -⟩
  · go_enter Tryz.func20, Tryz.ntmps20
    go_wp2_with fail
    go_ret
    exact ⟨rfl, rfl⟩
  · go_enter Tryz.func20, Tryz.ntmps20
    go_wp2_with fail
    refine Calls.mono HS.out ?_
    rintro e _ ⟨rfl, rfl⟩
    go_wp2_with fail
    go_ret
    exact ⟨rfl, rfl⟩
set_option maxRecDepth 8000 in
theorem wPath_no {w : World} {v : Value} (hv : NoW w v) (a b : Int) : Calls Tryz.prog 7 #[v, .int .i64 a, .int .i64 b] w fun e w' => e = .returned (.tuple #[.slice none 0 0, .int .i64 1]) ∧ w = w' := by
  have HS := (show Hid _ from wthere_no hv)
  clear hv
  go_enter Tryz.func7, Tryz.ntmps7
  go_wp2_with fail
  refine Calls.mono HS.out ?_
  rintro e _ ⟨rfl, rfl⟩
  go_wp2_with fail
  go_ret2
  exact ⟨rfl, rfl⟩
set_option maxRecDepth 8000 in
theorem wHops_no {w : World} {v : Value} (hv : NoW w v) (a r : Int) : Calls Tryz.prog 8 #[v, .int .i64 a, .int .i64 r] w fun e w' => e = .returned (.tuple #[.slice none 0 0, .int .i64 1]) ∧ w = w' := by
  have HS := (show Hid _ from wthere_no hv)
  clear hv
  go_enter Tryz.func8, Tryz.ntmps8
  go_wp2_with fail
  refine Calls.mono HS.out ?_
  rintro e _ ⟨rfl, rfl⟩
  go_wp2_with fail
  go_ret2
  exact ⟨rfl, rfl⟩
set_option maxRecDepth 8000 in
theorem wIslands_no {w : World} {v : Value} (hv : NoW w v) : Calls Tryz.prog 14 #[v] w fun e w' => e = .returned (.slice none 0 0) ∧ w = w' := by
  have HS := (show Hid _ from wthere_no hv)
  clear hv
  go_enter Tryz.func14, Tryz.ntmps14
  go_wp2_with fail
  go_step3
  go_wp2_with fail
  refine Calls.mono HS.out ?_
  rintro e _ ⟨rfl, rfl⟩
  go_wp2_with fail
  first | rw [Exit.noGoto_ret] | skip
  go_ret
  exact ⟨rfl, rfl⟩
set_option maxRecDepth 8000 in
theorem wCut_no {w : World} {v : Value} (hv : NoW w v) (l : Value) : Calls Tryz.prog 15 #[v, l] w fun e w' => e = .returned (.int .i64 1) ∧ w = w' := by
  have HS := (show Hid _ from wthere_no hv)
  clear hv
  go_enter Tryz.func15, Tryz.ntmps15
  go_wp2_with fail
  refine Calls.mono HS.out ?_
  rintro e _ ⟨rfl, rfl⟩
  go_wp2_with fail
  go_ret
  exact ⟨rfl, rfl⟩
set_option maxRecDepth 8000 in
theorem wPart_no {w : World} {v : Value} (hv : NoW w v) (l m : Value) : Calls Tryz.prog 12 #[v, l, m] w fun e w' => e = .returned (.tuple #[.slice none 0 0, .int .i64 1]) ∧ w = w' := by
  have HS := (show Hid _ from wthere_no hv)
  clear hv
  go_enter Tryz.func12, Tryz.ntmps12
  go_wp2_with fail
  refine Calls.mono HS.out ?_
  rintro e _ ⟨rfl, rfl⟩
  go_wp2_with fail
  go_ret2
  exact ⟨rfl, rfl⟩
set_option maxRecDepth 8000 in
theorem wHalves_no {w : World} {v : Value} (hv : NoW w v) (n : Int) : Calls Tryz.prog 11 #[v, .int .i64 n] w fun e w' => e = .returned (.tuple #[.slice none 0 0, .slice none 0 0, .int .i64 1]) ∧ w = w' := by
  have HS := (show Hid _ from wthere_no hv)
  clear hv
  go_enter Tryz.func11, Tryz.ntmps11
  go_wp2_with fail
  refine Calls.mono HS.out ?_
  rintro e _ ⟨rfl, rfl⟩
  go_wp2_with fail
  go_ret3
  exact ⟨rfl, rfl⟩
set_option maxRecDepth 8000 in
theorem wSees_any (w : World) (q : Option Addr) (a : Int) : Calls Tryz.prog 16 #[.pointer q, .int .i64 a] w fun e w' => e = .returned (.func (.func 43) #[] #[.pointer (some ⟨w.heap.size, 0, none⟩), .pointer (some ⟨w.heap.size + 1, 0, none⟩)]) ∧ w' = (w.alloc (.cells #[.pointer q] 31)).alloc (.cells #[.int .i64 a] 23) := by
  go_enter Tryz.func16, Tryz.ntmps16
  go_wp2
  go_ret
  exact ⟨rfl, rfl⟩
set_option maxHeartbeats 4000000 in
set_option maxRecDepth 100000 in
theorem sees1_no {w0 : World} {q : Option Addr} {Bx Bf n : Nat} (hq : NoW w0 (.pointer q)) (hBx : w0.cell? ⟨Bx, 0, none⟩ = some (.pointer q)) (own : World → Nat → Prop) :
    SeqStopsK Fence.wide n Tryz.prog 43 #[.pointer (some ⟨Bx, 0, none⟩), .pointer (some ⟨Bf, 0, none⟩)] (fun _ : Empty => #[.int .i64 0, .bool false]) (KpO own) (fun xs => xs = []) (fun pre => pre <+: []) 0 w0 := by
  intro l J Jx W hWb hJ hJx hY h0
  have HW : Hid (NoW W (.pointer q)) := hq.below hWb
  have hbx : W.cell? ⟨Bx, 0, none⟩ = some (.pointer q) := (hWb.cell (p := ⟨Bx, 0, none⟩) (World.block_lt_of_cell? _ _ hBx)).trans hBx
  have HJ := (show Hid (AbidesFrom W.heap.size J) from hJ)
  have H0 := (show Hid (J [] W) from h0)
  clear hq hBx hWb hJ hJx hY h0
  refine callsIn_of_wp_marks Tryz.func43 rfl trivial ?_ rfl
  simp only [Tryz.ntmps43, List.size_toArray, List.length_cons, List.length_nil, Nat.reduceAdd, Nat.reduceSub, Array.replicate_succ, Array.replicate_zero, List.push_toArray, List.append_toArray, List.nil_append, List.cons_append]
  gi_wp2_with fail
  refine ⟨trivial, (fun h => by cases h), (callsIn_wide.2 (wthere_no HW.out)).mono ?_⟩
  rintro e _ ⟨rfl, rfl⟩
  gi_wp2_with fail
  refine ⟨trivial, ?_⟩
  gi_wp2_with fail
  exact ⟨_, results_none rfl _ _ _, ⟨_, rfl⟩, .inl ⟨[], rfl, H0.out⟩⟩
set_option maxRecDepth 8000 in
theorem wStop_no {w : World} {v : Value} (hv : NoW w v) (a r : Int) : Calls Tryz.prog 9 #[v, .int .i64 a, .int .i64 r] w fun e w' => e = .returned (stopV none) ∧ Below w.heap.size w w' := by
  obtain ⟨w1, hw1⟩ : ∃ w1, ((w.alloc (.cells #[.int .i64 0, .int .i64 0, .bool false] 47)).alloc (.cells #[.int .i64 0] 3)).alloc (.cells #[.bool false] 4) = w1 := ⟨_, rfl⟩
  have hb1 : Below w.heap.size w w1 := by rw [← hw1]; exact (((Below.refl _ _).alloc (Nat.le_refl _) _).alloc (by simp) _).alloc (by simp; omega) _
  have hs1 : StAt w w.heap.size 0 0 false 0 false w1 := by
    refine ⟨hb1, ?_, ?_, ?_⟩
    · rw [← hw1]; exact blk_old _ _ (blk_old _ _ (blk_new w _))
    · rw [← hw1]; exact blk_old _ _ (blkNew _ _ (by simp))
    · rw [← hw1]; exact blkNew _ _ (by simp)
  have c60 : w1.cell? ⟨w.heap.size, 0, none⟩ = some (.int .i64 0) := by rw [cell_blk hs1.hop]; rfl
  have f60 : w1.frozen? ⟨w.heap.size, 0, none⟩ = false := frozen_blk hs1.hop 0
  have c61 : w1.cell? ⟨w.heap.size, 1, none⟩ = some (.int .i64 0) := by rw [cell_blk hs1.hop]; rfl
  have f61 : w1.frozen? ⟨w.heap.size, 1, none⟩ = false := frozen_blk hs1.hop 1
  have c62 : w1.cell? ⟨w.heap.size, 2, none⟩ = some (.bool false) := by rw [cell_blk hs1.hop]; rfl
  have f62 : w1.frozen? ⟨w.heap.size, 2, none⟩ = false := frozen_blk hs1.hop 2
  have c7 : w1.cell? ⟨w.heap.size + 1, 0, none⟩ = some (.int .i64 0) := by rw [cell_blk hs1.at_]; rfl
  have f7 : w1.frozen? ⟨w.heap.size + 1, 0, none⟩ = false := frozen_blk hs1.at_ 0
  have c8 : w1.cell? ⟨w.heap.size + 1 + 1, 0, none⟩ = some (.bool false) := by rw [cell_blk hs1.is]; rfl
  have f8 : w1.frozen? ⟨w.heap.size + 1 + 1, 0, none⟩ = false := frozen_blk hs1.is 0
  have h1 := wthere_no (hv.below hb1)
  have HS1 := (show Hid (StAt w w.heap.size 0 0 false 0 false w1) from hs1)
  clear hs1 hv hb1
  refine (callsIn_wide (n := 5)).1 ?_
  refine callsIn_of_wp_marks Tryz.func9 rfl trivial ?_ rfl
  simp only [Tryz.ntmps9, List.size_toArray, List.length_cons, List.length_nil, Nat.reduceAdd, Nat.reduceSub, Array.replicate_succ, Array.replicate_zero, List.push_toArray, List.append_toArray, List.nil_append, List.cons_append]
  gi_wp2_with fail
  refine ⟨trivial, (callsIn_wide.2 h1).mono ?_⟩
  rintro e _ ⟨rfl, rfl⟩
  gi_wp2_with fail
  refine ⟨trivial, ?_⟩
  gi_wp2_with fail
  have hs := (StAt.set5 (Nat.le_refl _) 0 0 0 false 0 false HS1.out).1
  exact ⟨_, results_stop rfl _ hs rfl rfl rfl, rfl, hs.below⟩
end Go.Proofs.YtifmifjbebpomaaGreatDoor
/- errors.As, errors.Is of the fault of a number. -/
namespace Go.Proofs.YtifmifjbebpomaaGreatDoor
open Go.RowKit Go.Extern.Stop Go.Stop Go.Extern

set_option maxHeartbeats 4000000 in
theorem as_fault {w : World} {e t : Addr} (ht0 : w.cell? t = some .nilIface) (hf0 : w.frozen? t = false) :
    Calls Tryz.prog 28 #[.iface 235 (.pointer (some e)), .iface 89 (.pointer (some t))] w fun ev w' => ev = .returned (.bool true) ∧ w' = ((((w.alloc (.cells #[.pointer (some t)] 89)).alloc (.cells #[.pointer (some ⟨3, 89, none⟩), .pointer (some ⟨w.heap.size, 0, none⟩), .int .u64 150] 149)).alloc (.cells #[.pointer (some ⟨3, 89, none⟩), .pointer (some ⟨w.heap.size, 0, none⟩), .int .u64 150] 149)).alloc (.cells #[.pointer (some e)] 235)).setCell t (.iface 235 (.pointer (some e))) := by
  have h6 := @run_callFunc_extern Tryz.prog 69 _ (fun args => ReflectliteValue.unpack (args.getD 0 (.tuple #[]))) Tryz.func69 (by kernel_rfl) (by kernel_rfl) (by kernel_rfl) (by kernel_rfl)
  have h7 := @run_callFunc_extern Tryz.prog 70 _ (ReflectliteValue.methodAny (ReflectliteValue.valueError "reflectlite.Value.Type" 0) (fun t _ _ _ => ReflectliteType.toType t)) Tryz.func70 (by kernel_rfl) (by kernel_rfl) (by kernel_rfl) (by kernel_rfl)
  have h8 := @run_callFunc_extern Tryz.prog 71 _ (ReflectliteValue.method (ReflectliteValue.valueError "reflectlite.Value.IsNil" 0) ReflectliteValue.isNil) Tryz.func71 (by kernel_rfl) (by kernel_rfl) (by kernel_rfl) (by kernel_rfl)
  have h27 := @run_callFunc_extern Tryz.prog 215 _ (ReflectliteType.abiMethod fun t => do pure (.int .u8 (← Rtype.kind t))) Tryz.func215 (by kernel_rfl) (by kernel_rfl) (by kernel_rfl) (by kernel_rfl)
  have h37 := @run_callFunc_extern Tryz.prog 226 _ (ReflectliteType.method ReflectliteType.elem) Tryz.func226 (by kernel_rfl) (by kernel_rfl) (by kernel_rfl) (by kernel_rfl)
  have h10 := @run_callFunc_extern Tryz.prog 39 _ ReflectliteType.typeOf Tryz.func39 (by kernel_rfl) (by kernel_rfl) (by kernel_rfl) (by kernel_rfl)
  have h35 := @run_callFunc_extern Tryz.prog 224 _ (ReflectliteType.relation "AssignableTo" ReflectliteType.assignableTo) Tryz.func224 (by kernel_rfl) (by kernel_rfl) (by kernel_rfl) (by kernel_rfl)
  have h11 := @run_callFunc_extern Tryz.prog 115 _ (ReflectliteValue.method (ReflectliteValue.valueError "reflectlite.Value.Elem" 0) ReflectliteValue.elem) Tryz.func115 (by kernel_rfl) (by kernel_rfl) (by kernel_rfl) (by kernel_rfl)
  have h12 := @run_callFunc_extern Tryz.prog 116 _ ReflectliteValue.set Tryz.func116 (by kernel_rfl) (by kernel_rfl) (by kernel_rfl) (by kernel_rfl)
  have tO := Tryz.typeOfPt
  have mA := Tryz.methodAssignableTo
  have a25 := Tryz.assignPt
  have v25 := Tryz.valueOfPt
  have f6 := Tryz.valueOfPF
  have f7 := Tryz.typePF
  have mK := Tryz.methodKind
  have mE := Tryz.methodElem
  have k27 := Tryz.kindPF
  have k25 := Tryz.kindF
  have e27 := Tryz.elemPF
  have n8 := Tryz.isNilPF ⟨w.heap.size, 0, none⟩ t ((w.alloc (.cells #[.pointer (some t)] 89)).alloc (.cells #[.pointer (some ⟨3, 89, none⟩), .pointer (some ⟨w.heap.size, 0, none⟩), .int .u64 150] 149)) (by simp)
  have htl : t.block < w.heap.size := World.block_lt_of_cell? _ _ ht0
  have el := Tryz.elemVPF ⟨w.heap.size, 0, none⟩ t (((w.alloc (.cells #[.pointer (some t)] 89)).alloc (.cells #[.pointer (some ⟨3, 89, none⟩), .pointer (some ⟨w.heap.size, 0, none⟩), .int .u64 150] 149)).alloc (.cells #[.pointer (some ⟨3, 89, none⟩), .pointer (some ⟨w.heap.size, 0, none⟩), .int .u64 150] 149)) (by rw [World.cell?_alloc_lt _ _ ⟨w.heap.size, 0, none⟩ (by simp; omega)]; simp)
  have st := Tryz.setF t ⟨w.heap.size + 1 + 1 + 1, 0, none⟩ e .nilIface ((((w.alloc (.cells #[.pointer (some t)] 89)).alloc (.cells #[.pointer (some ⟨3, 89, none⟩), .pointer (some ⟨w.heap.size, 0, none⟩), .int .u64 150] 149)).alloc (.cells #[.pointer (some ⟨3, 89, none⟩), .pointer (some ⟨w.heap.size, 0, none⟩), .int .u64 150] 149)).alloc (.cells #[.pointer (some e)] 235))
    (by rw [World.cell?_alloc_at _ _ _ _ (by simp)]; rfl)
    (by rw [World.cell?_alloc_lt _ _ t (by simp; omega), World.cell?_alloc_lt _ _ t (by simp; omega), World.cell?_alloc_lt _ _ t (by simp; omega), World.cell?_alloc_lt _ _ t htl]; exact ht0)
    (by rw [World.frozen?_alloc_old _ _ t (by simp; omega), World.frozen?_alloc_old _ _ t (by simp; omega), World.frozen?_alloc_old _ _ t (by simp; omega), World.frozen?_alloc_old _ _ t (Nat.ne_of_lt htl)]; exact hf0)
  go_enter Tryz.func28, Tryz.ntmps28
  go_wp2
  refine wp_loop_rounds 1 ?_
  rw [rounds_succ]
  go_wp2
  go_ret
  exact ⟨rfl, rfl⟩

/-! ### errors.Is -/
theorem Tryz.isTypeOfE (v : Value) (w : World) : (ReflectliteType.typeOf #[.iface 40 v]).run Tryz.prog w = .ok (.iface 164 (.agg #[.pointer (some ⟨3, 40, none⟩)])) w := by kernel_rfl
theorem Tryz.compRun (w : World) : (callFunc 225 #[.agg #[.pointer (some ⟨3, 40, none⟩)]]).run Tryz.prog w = .ok (.value (.bool true)) w := by
  rw [@run_callFunc_extern Tryz.prog 225 _ (ReflectliteType.method fun t => do Rtype.noPackHeld "Comparable" t; pure (.bool (← typeInfo t).comparable)) Tryz.func225 (by kernel_rfl) (by kernel_rfl) (by kernel_rfl) (by kernel_rfl)]
  kernel_rfl
theorem Tryz.isMethodComp (v : Value) (w : World) : (Go.method 450 164 v "Comparable").run Tryz.prog w = .ok (225, v) w := by kernel_rfl
theorem Tryz.noIsT (v : Value) (xT : TypeId) (w : World) : (Instr.typeAssert (.iface 235 v) xT 166 true).run Tryz.prog w = .ok (.tuple #[.nilIface, .bool false]) w := run_typeAssert_lacksB Tryz.underlying166 (by kernel_rfl) (by kernel_rfl) v xT w
theorem Tryz.noUnwrapT (v : Value) (xT : TypeId) (w : World) : (Instr.typeAssert (.iface 235 v) xT 169 true).run Tryz.prog w = .ok (.tuple #[.nilIface, .bool false]) w := run_typeAssert_lacksB Tryz.underlying169 (by kernel_rfl) (by kernel_rfl) v xT w
theorem Tryz.hasUnwrapsT (v : Value) (xT : TypeId) (w : World) : (Instr.typeAssert (.iface 235 v) xT 170 true).run Tryz.prog w = .ok (.tuple #[.iface 235 v, .bool true]) w := run_typeAssert_hasB Tryz.underlying170 (by kernel_rfl) v xT w
theorem Tryz.methodUnwrapT (v : Value) (w : World) : (Go.method 450 235 v "Unwrap").run Tryz.prog w = .ok (236, v) w := by kernel_rfl
theorem Tryz.methodCodeT (v : Value) (w : World) : (Go.method 450 235 v "Code").run Tryz.prog w = .ok (234, v) w := by kernel_rfl
theorem Tryz.eqErr (c : Int) (w : World) : (binOp .eql 51 (.iface 40 (.int .i64 c)) (.iface 40 (.int .i64 c))).run Tryz.prog w = .ok (.bool true) w := by
  have := Go.Lib.run_eql_iface_int (P := Tryz.prog) (k := .i64) w c c Tryz.underlying51 (by kernel_rfl) Tryz.underlying40
  rwa [beq_self_eq_true] at this
set_option maxHeartbeats 4000000 in
theorem eis_same (c : Int) (w : World) : Calls Tryz.prog 40 #[.iface 40 (.int .i64 c), .iface 40 (.int .i64 c), .bool true] w fun e w' => e = .returned (.bool true) ∧ w' = w := by
  have heq := Tryz.eqErr c w
  go_enter Tryz.func40, Tryz.ntmps40
  go_wp2
  refine wp_loop_rounds 1 ?_
  rw [rounds_succ]
  go_wp2
  go_ret
  exact ⟨rfl, rfl⟩
set_option maxHeartbeats 4000000 in
theorem eis_fault {w : World} {g : Nat} {c : Int} (h : FaultAt w g c) : Calls Tryz.prog 40 #[.iface 235 (.pointer (some ⟨g, 0, none⟩)), .iface 40 (.int .i64 c), .bool true] w fun e w' => e = .returned (.bool true) ∧ Below w.heap.size w w' := by
  have hty := run_eql_iface_types (P := Tryz.prog) 235 40 (.pointer (some ⟨g, 0, none⟩)) (.int .i64 c) Tryz.underlying51 (by decide) w
  have nI := Tryz.noIsT
  have nU := Tryz.noUnwrapT
  have hU := Tryz.hasUnwrapsT
  have mU := Tryz.methodUnwrapT
  have hun := fUnwrap_leaf h
  have hs := fun W => eis_same c W
  go_enter Tryz.func40, Tryz.ntmps40
  go_wp2_with fail
  refine wp_loop_rounds 1 ?_
  rw [rounds_succ]
  go_wp2_with fail
  refine hun.mono ?_
  rintro e w1 ⟨b, rfl, hb, hB⟩
  have HB := (show Hid (Below w.heap.size w w1) from hB)
  clear hB
  go_wp2_with fail
  refine wp_loop_rounds 1 ?_
  rw [rounds_succ]
  go_wp2_with fail
  refine (hs _).mono ?_
  rintro e _ ⟨rfl, rfl⟩
  go_wp2_with fail
  go_ret
  exact ⟨rfl, HB.out⟩
set_option maxHeartbeats 4000000 in
theorem is_fault {w : World} {g : Nat} {c : Int} (h : FaultAt w g c) : Calls Tryz.prog 13 #[.iface 235 (.pointer (some ⟨g, 0, none⟩)), .iface 40 (.int .i64 c)] w fun e w' => e = .returned (.bool true) ∧ Below w.heap.size w w' := by
  have h8 := @run_callFunc_extern Tryz.prog 39 _ ReflectliteType.typeOf Tryz.func39 (by kernel_rfl) (by kernel_rfl) (by kernel_rfl) (by kernel_rfl)
  have h32 := Tryz.compRun
  have tT := Tryz.isTypeOfE
  have mR := Tryz.isMethodComp
  have hI := eis_fault h
  go_enter Tryz.func13, Tryz.ntmps13
  go_wp2_with fail
  refine hI.mono ?_
  rintro e w1 ⟨rfl, hb⟩
  go_wp2_with fail
  go_ret
  exact ⟨rfl, hb⟩
end Go.Proofs.YtifmifjbebpomaaGreatDoor
