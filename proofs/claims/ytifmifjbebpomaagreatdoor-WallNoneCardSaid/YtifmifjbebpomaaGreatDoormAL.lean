/- A part of the proof, several texts in one: WaH. -/
import Derived.Test.YtifmifjbebpomaaGreatDoormAG
import Derived.Test.YtifmifjbebpomaaGreatDoormAK
/- Walls: the hops from a side to a thing, by the contract of their iterator: for every loop body that keeps the world and the cells that are not its own. -/
namespace Go.Proofs.YtifmifjbebpomaaGreatDoor
open Go.RowKit Go.Shelf Go.ChangeMaps Go.MapKept
attribute [local go_sem] Oper.semAt_some

/-- What a round keeps: the blocks below n0, all cells that are not the body's own; what is its own was so, or is new. -/
structure KpH (own : World → Nat → Prop) (n0 : Nat) (A B : World) : Prop where
  kp : KpO own A B
  low : ∀ b, b < n0 → B.heap[b]? = A.heap[b]?
  lt : (∀ b, own A b → b < A.heap.size) → ∀ b, own B b → b < B.heap.size
theorem KpH.trans {own : World → Nat → Prop} {n0 : Nat} {A B C : World} (h : KpH own n0 A B) (k : KpH own n0 B C) : KpH own n0 A C :=
  ⟨h.kp.trans k.kp, fun b hb => (k.low b hb).trans (h.low b hb), fun hA => k.lt (h.lt hA)⟩
/-- The rows and boxes that a walk over hops leans on. -/
structure HopI (own : World → Nat → Prop) (n0 p : Nat) (M : WM) (Fw : Nat → Prop) (Bw : Nat) (wr : World) : Prop where
  isW : IsW wr p M Fw
  box : ∃ cs e fr, wr.heap[Bw]? = some (.cells cs e fr) ∧ cs[0]? = some (.pointer (some ⟨p, 0, none⟩))
  ownB : ¬ own wr Bw
  ownL : ∀ b, own wr b → b < wr.heap.size
  own0 : n0 ≤ wr.heap.size
structure HopR (own : World → Nat → Prop) (pa : Option Addr) (l : List Int) (wr : World) : Prop where
  row : ∀ (j : Nat) (x : Int), l[j]? = some x → ∃ g cs e fr, pa = some ⟨g, 0, none⟩ ∧ wr.heap[g]? = some (.cells cs e fr) ∧ cs[j]? = some (.int .i64 x)
  ownP : ∀ g, pa = some ⟨g, 0, none⟩ → ¬ own wr g
/-- What is the body's own stays so while the iterator makes memory. -/
def OwnM (own : World → Nat → Prop) (n : Nat) : Prop := ∀ W W', n ≤ W.heap.size → Below W.heap.size W W' → ∀ b, own W' b → own W b
section
variable {own : World → Nat → Prop} {n0 n p : Nat} {M : WM} {Fw : Nat → Prop} {Bw : Nat} {wr w' : World} {pa : Option Addr} {l : List Int}
theorem HopI.below (h : HopI own n0 p M Fw Bw wr) (hm : OwnM own n) (hn : n ≤ wr.heap.size) (hb : Below wr.heap.size wr w') : HopI own n0 p M Fw Bw w' where
  isW := h.isW.below hb
  box := by
    obtain ⟨cs, e, fr, h1, h2⟩ := h.box
    exact ⟨cs, e, fr, (hb.block _ (blk_lt h1)).trans h1, h2⟩
  ownB := fun ho => h.ownB (hm _ _ hn hb _ ho)
  ownL := fun b ho => Nat.lt_of_lt_of_le (h.ownL b (hm _ _ hn hb _ ho)) hb.size
  own0 := Nat.le_trans h.own0 hb.size
theorem HopI.yield (h : HopI own n0 p M Fw Bw wr) (hF : ∀ b, Fw b → b < n0) (hk : KpH own n0 wr w') : HopI own n0 p M Fw Bw w' where
  isW := by
    obtain ⟨pa, pc, cg, cc, mg, mc, tb, fb, fn, bl, hV⟩ := h.isW
    exact ⟨pa, pc, cg, cc, mg, mc, tb, fb, fn, bl, hV.of_blocks hk.kp.size fun b hb => hk.low b (hF b hb)⟩
  box := by
    obtain ⟨cs, e, fr, h1, h2⟩ := h.box
    exact ⟨cs, e, fr, hk.kp.cells _ _ _ _ h1 h.ownB, h2⟩
  ownB := fun ho => by
    obtain ⟨cs, e, fr, h1, h2⟩ := h.box
    rcases hk.kp.own' _ ho with h3 | h3
    · exact h.ownB h3
    · have := blk_lt h1; omega
  ownL := hk.lt h.ownL
  own0 := Nat.le_trans h.own0 hk.kp.size
theorem HopI.boxCell (h : HopI own n0 p M Fw Bw wr) : wr.cell? ⟨Bw, 0, none⟩ = some (.pointer (some ⟨p, 0, none⟩)) := by
  obtain ⟨cs, e, fr, h1, h2⟩ := h.box
  rw [cell_blk h1, h2]
theorem HopR.below (h : HopR own pa l wr) (hm : OwnM own n) (hn : n ≤ wr.heap.size) (hb : Below wr.heap.size wr w') : HopR own pa l w' where
  row := fun j x hx => by
    obtain ⟨g, cs, e, fr, h0, h1, h2⟩ := h.row j x hx
    exact ⟨g, cs, e, fr, h0, (hb.block _ (blk_lt h1)).trans h1, h2⟩
  ownP := fun g hg ho => h.ownP g hg (hm _ _ hn hb _ ho)
theorem HopR.yield (h : HopR own pa l wr) (hl : ∀ g, pa = some ⟨g, 0, none⟩ → g < wr.heap.size) (hk : KpH own n0 wr w') : HopR own pa l w' where
  row := fun j x hx => by
    obtain ⟨g, cs, e, fr, h0, h1, h2⟩ := h.row j x hx
    exact ⟨g, cs, e, fr, h0, hk.kp.cells _ _ _ _ h1 (h.ownP g h0), h2⟩
  ownP := fun g hg ho => by
    rcases hk.kp.own' _ ho with h3 | h3
    · exact h.ownP g hg h3
    · have := hl g hg; omega
theorem HopR.cell (h : HopR own pa l wr) {j : Nat} {x : Int} (hx : l[j]? = some x) : ∃ g, pa = some ⟨g, 0, none⟩ ∧ wr.cell? ⟨g, j, none⟩ = some (.int .i64 x) := by
  obtain ⟨g, cs, e, fr, h0, h1, h2⟩ := h.row j x hx
  exact ⟨g, h0, by rw [cell_blk h1, h2]⟩
end
/-- A row that the iterator has just made. -/
theorem HopR.of_row {own : World → Nat → Prop} {W W' : World} {base : Nat} {e : TypeId} {v : Value} {l : List Int} (h : W'.ownsRow base e 1 v l.length (l.map (Value.int .i64))) (hbase : W.heap.size ≤ base)
    (hL : ∀ b, own W' b → b < W.heap.size) : ∃ pa c, v = .slice pa l.length c ∧ HopR own pa l W' ∧ ∀ g, pa = some ⟨g, 0, none⟩ → g < W'.heap.size := by
  rcases h.2 with ⟨rfl, h0⟩ | ⟨g, cap, cur, rfl, hbg, hg, h1, h2, h3, h4⟩
  · have : l = [] := List.eq_nil_of_length_eq_zero h0
    subst this
    exact ⟨none, 0, rfl, ⟨fun j x hx => by simp at hx, fun g hg => by cases hg⟩, fun g hg => by cases hg⟩
  · refine ⟨_, cap, rfl, ⟨fun j x hx => ⟨g, cur, e, _, rfl, hg, ?_⟩, fun g' hg' ho => ?_⟩, fun g' hg' => ?_⟩
    · have hj := (List.getElem?_eq_some_iff.1 hx).1
      have e1 : (cur.toList.take (l.length * 1))[j]? = (l.map (Value.int .i64))[j]? := by rw [h4]
      rw [List.getElem?_take, if_pos (by omega), List.getElem?_map, hx] at e1
      simpa using e1
    · cases hg'
      have := hL _ ho
      omega
    · cases hg'
      exact blk_lt hg
/-- What What answers, as far as hops look at it. -/
def WhatOk (p : Nat) (M : WM) (Fw : Nat → Prop) : Prop := ∀ W, IsW W p M Fw → ∀ q t, M.at q = some t → Calls Tryz.prog 58 #[.pointer (some ⟨p, 0, none⟩), .int .i64 q] W fun e w' =>
  ∃ cs : Array Value, e = .returned (.tuple #[.agg cs, .int .i64 0]) ∧ cs.size = 16 ∧ cs.all (·.oneCell') = true ∧ cs[0]? = some (.int .u8 t.kind) ∧ cs[11]? = some (.int .i64 t.bi) ∧ cs[13]? = some (.bool t.full) ∧ Below W.heap.size W w'
theorem HopsIs.inv {M : WM} {a r : Int} {l : List Int} {ys : List Hop} {t : Th} (h : HopsIs M a (r :: l) ys) (ht : M.at r = some t) :
    (t.kind = 14 ∧ ∃ zs, ys = ⟨0, r, true⟩ :: zs ∧ HopsIs M a l zs) ∨ (t.kind ≠ 14 ∧ ∃ u d zs, ys = (u ++ d.reverse).map (edgeH M) ++ ⟨0, r, M.gateB t⟩ :: zs ∧ PathIs M a.toNat t.home.toNat u d ∧ HopsIs M t.home l zs) := by
  cases h with
  | facet h hk hl =>
    rw [ht] at h
    cases h
    exact .inl ⟨hk, _, rfl, hl⟩
  | thing h hk hp hl =>
    rw [ht] at h
    cases h
    exact .inr ⟨hk, _, _, _, rfl, hp, hl⟩
/-- The things of a way are there. -/
theorem way_at {M : WM} {r : Int} {l : List Int} (h : WayIs M r l) : ∀ x ∈ l, ∃ t, M.at x = some t := by
  obtain ⟨f0, h⟩ := h
  have h := h f0 (Nat.le_refl _)
  subst h
  clear h
  induction f0 generalizing r with
  | zero => simp [wayF]
  | succ f ih =>
    intro x hx
    unfold wayF at hx
    split at hx
    · simp at hx
    · rename_i t ht
      rcases List.mem_cons.1 hx with rfl | hx
      · exact ⟨t, ht⟩
      · split at hx
        · exact ih x hx
        · simp at hx

set_option maxHeartbeats 4000000 in
set_option maxRecDepth 100000 in
theorem hops1_seq {w0 : World} {p : Nat} {M : WM} {Fw : Nat → Prop} {Bf Bw Br n n0 : Nat} {a0 r : Int} {l : List Int} {ys : List Hop} (hW0 : IsW w0 p M Fw) (hF : ∀ b, Fw b → b < n0) (hn0 : n0 ≤ w0.heap.size)
    (hBf : w0.cell? ⟨Bf, 0, none⟩ = some (.int .i64 a0)) (hBw : ∃ cs e fr, w0.heap[Bw]? = some (.cells cs e fr) ∧ cs[0]? = some (.pointer (some ⟨p, 0, none⟩))) (hBr : w0.cell? ⟨Br, 0, none⟩ = some (.int .i64 r))
    (hwhat : WhatOk p M Fw) (hr : (Lit.int .i64 r).wf = true) (hl : WayIs M r l) (ha : sideB M a0 = true) (hys : HopsIs M a0 l ys)
    (own : World → Nat → Prop) (hown0 : ∀ W, Below w0.heap.size w0 W → ∀ b, own W b → b < w0.heap.size ∧ b ≠ Bw) (hownm : OwnM own w0.heap.size) :
    SeqStopsK Fence.wide n Tryz.prog 56 #[.pointer (some ⟨Bf, 0, none⟩), .pointer (some ⟨Bw, 0, none⟩), .pointer (some ⟨Br, 0, none⟩)] (fun y : Hop => #[.agg #[.int .i64 y.edge, .int .i64 y.thing, .bool y.free]]) (KpH own n0) (fun xs => xs = ys) (fun pre => pre <+: ys) ys.length w0 := by
  intro lv J Jx W hWb hJ hJx hY h0
  have HI0 : Hid (HopI own n0 p M Fw Bw W) := by
    refine ⟨hW0.below hWb, ?_, fun ho => (hown0 W hWb _ ho).2 rfl, fun b ho => Nat.lt_of_lt_of_le (hown0 W hWb b ho).1 hWb.size, Nat.le_trans hn0 hWb.size⟩
    obtain ⟨cs, e, fr, h1, h2⟩ := hBw
    exact ⟨cs, e, fr, (hWb.block _ (blk_lt h1)).trans h1, h2⟩
  have hbf : W.cell? ⟨Bf, 0, none⟩ = some (.int .i64 a0) := (hWb.cell (p := ⟨Bf, 0, none⟩) (World.block_lt_of_cell? _ _ hBf)).trans hBf
  have hbr : W.cell? ⟨Br, 0, none⟩ = some (.int .i64 r) := (hWb.cell (p := ⟨Br, 0, none⟩) (World.block_lt_of_cell? _ _ hBr)).trans hBr
  have hbw := HI0.out.boxCell
  have HM := (show Hid (OwnM own w0.heap.size) from hownm)
  have HN0 := (show Hid (w0.heap.size ≤ W.heap.size) from hWb.size)
  have HF := (show Hid (∀ b, Fw b → b < n0) from hF)
  have Hat := (show Hid (∀ x ∈ l, ∃ t, M.at x = some t) from way_at hl)
  have Hok := (show Hid M.ok from hW0.ok)
  have HJ := (show Hid (AbidesFrom W.heap.size J) from hJ)
  have HY := (show Hid (∀ (pre : List Hop) (ed th : Int) (fr : Bool) (W1 : World), J pre W1 → pre.length < ys.length → YieldAt Fence.wide (n - 1) Tryz.prog lv #[.agg #[.int .i64 ed, .int .i64 th, .bool fr]] W1 fun e W' => (e = .returned (.bool true) ∧ J (pre ++ [⟨ed, th, fr⟩]) W' ∧ KpH own n0 W1 W') ∨ (e = .returned (.bool false) ∧ Jx (pre ++ [⟨ed, th, fr⟩]) W')) from fun pre ed th fr W1 h1 h2 => hY pre ⟨ed, th, fr⟩ W1 h1 h2)
  have H0 := (show Hid (J [] W) from h0)
  have HWh := (show Hid (WhatOk p M Fw) from hwhat)
  have Hys := (show Hid (HopsIs M a0 l ys) from hys)
  have Ha0 := (show Hid (sideB M a0 = true) from ha)
  have hway := Way_W HI0.out.isW hr hl
  have HLN : Hid ((l.length : Int) ≤ 1099511627777) := by
    obtain ⟨l', h1, h2⟩ := way_ex hW0.ok r
    obtain rfl := hl.uniq h1
    have := hW0.ok.last
    show _ ≤ _
    omega
  clear hW0 hBf hBw hBr hWb hJ hJx hY h0 hownm hF hwhat hys ha hown0 hn0
  refine callsIn_of_wp Tryz.func56 rfl trivial ?_ rfl
  simp only [Tryz.ntmps56, List.size_toArray, List.length_cons, List.length_nil, Nat.reduceAdd, Nat.reduceSub, Array.replicate_succ, Array.replicate_zero, List.push_toArray, List.append_toArray, List.nil_append, List.cons_append]
  gi_wp2_with fail
  refine ⟨trivial, (fun h => by cases h), (callsIn_wide.2 hway).mono ?_⟩
  rintro e w1 ⟨vl, rfl, hrow, hb1⟩
  have HI1 : Hid (HopI own n0 p M Fw Bw w1) := HI0.out.below HM.out HN0.out hb1
  obtain ⟨pa, cp, rfl, hR1, hRl1⟩ := HopR.of_row (own := own) (W := W) hrow (Nat.le_refl _) (fun b ho => HI0.out.ownL b (HM.out W w1 HN0.out hb1 b ho))
  have HR1 := (show Hid (HopR own pa l w1 ∧ ∀ g, pa = some ⟨g, 0, none⟩ → g < w1.heap.size) from ⟨hR1, hRl1⟩)
  have HJ1 : Hid (J [] w1) := HJ.out [] W w1 none H0.out (grownBy_of_below hb1) (fun r h => by cases h)
  have HN1 : Hid (w0.heap.size ≤ w1.heap.size) := Nat.le_trans HN0.out hb1.size
  have HW1 : Hid (W.heap.size ≤ w1.heap.size) := hb1.size
  clear hrow hb1 hR1 hRl1 hbf hbr hbw
  gi_wp2_with fail
  gi_loopw [5, 22] (fun va vk wr => ∃ (a : Int) (k : Nat) (done rest : List Hop), va = .int .i64 a ∧ vk = .int .i64 k ∧ k ≤ l.length ∧ Hid (HopI own n0 p M Fw Bw wr) ∧ Hid (HopR own pa l wr ∧ ∀ g, pa = some ⟨g, 0, none⟩ → g < wr.heap.size) ∧ Hid (J done wr) ∧ Hid (ys = done ++ rest ∧ HopsIs M a (l.drop k) rest ∧ sideB M a = true) ∧ Hid (w0.heap.size ≤ wr.heap.size ∧ W.heap.size ≤ wr.heap.size)) (fun _ vk _ => l.length - (intOf vk).toNat)
  case atStart => exact ⟨a0, 0, [], ys, rfl, rfl, Nat.zero_le _, HI1.out, HR1.out, HJ1.out, ⟨rfl, Hys.out, Ha0.out⟩, HN1.out, HW1.out⟩
  case round =>
    obtain ⟨a, k, done, rest, rfl, rfl, hk, HI, HR, HJd, HE, HN⟩ := hrel
    by_cases hkm : k < l.length
    · have hkz : (k : Int) < (l.length : Int) := by omega
      obtain ⟨x, hx⟩ : ∃ x, l[k]? = some x := ⟨_, List.getElem?_eq_getElem hkm⟩
      have hdrop : l.drop k = x :: l.drop (k + 1) := by
        rw [List.drop_eq_getElem_cons hkm]
        congr 1
        rw [List.getElem?_eq_getElem hkm] at hx
        exact Option.some.inj hx
      obtain ⟨t, ht⟩ := Hat.out x (List.mem_of_getElem? hx)
      have Ht := (show Hid (M.at x = some t) from ht)
      obtain ⟨gp, hpa, hc⟩ := HR.out.1.cell hx
      have hbw := HI.out.boxCell
      have hwk : wrap64 ((k : Int) + 1) = (k : Int) + 1 := by have := HLN.out; unfold wrap64; omega
      have hxw := Hok.out.at_wf ht
      have hinv := HE.out.2.1
      rw [hdrop] at hinv
      have hpa0 := hpa
      subst hpa
      clear hdrop hx hpa0
      rcases hinv.inv ht with ⟨hk14, zs, hrest, hzs⟩ | ⟨hk14, u, d, zs, hrest, hpath, hzs⟩
      · have HZ := (show Hid (rest = ⟨0, x, true⟩ :: zs ∧ HopsIs M a (l.drop (k + 1)) zs) from ⟨hrest, hzs⟩)
        have hhome := Home_W HI.out.isW hxw
        rw [show M.homeOf x = 0 by simp [WM.homeOf, ht, hk14], show M.hasHome x = false by simp [WM.hasHome, ht, hk14]] at hhome
        have hk15 : (t.kind == 15) = false := by rw [hk14]; rfl
        clear hinv hrest hzs ht hk14
        gi_wp2_with fail
        refine ⟨trivial, (fun h => by cases h), (callsIn_wide.2 hhome).mono ?_⟩
        rintro e _ ⟨rfl, rfl⟩
        clear hhome
        gi_wp2_with fail
        refine ⟨trivial, (fun h => by cases h), (callsIn_wide.2 (HWh.out wr HI.out.isW x t Ht.out)).mono ?_⟩
        rintro e w2 ⟨cs, rfl, hsz, hc1, k0, k11, k13, hb2⟩
        obtain ⟨w3, hst, hb3, hg3, hs3⟩ := boxed_what' w2 cs hsz hc1
        have HB3 : Hid (Below wr.heap.size wr w3) := hb2.trans (hb3.mono hb2.size)
        have HI3 : Hid (HopI own n0 p M Fw Bw w3) := HI.out.below HM.out HN.out.1 HB3.out
        have HR3 : Hid (HopR own (some ⟨gp, 0, none⟩) l w3 ∧ ∀ g, some (⟨gp, 0, none⟩ : Addr) = some ⟨g, 0, none⟩ → g < w3.heap.size) := ⟨HR.out.1.below HM.out HN.out.1 HB3.out, fun g hg => Nat.lt_of_lt_of_le (HR.out.2 g hg) HB3.out.size⟩
        have HJ3 : Hid (J (done) w3) := HJ.out _ wr w3 none HJd.out (grownBy_of_below HB3.out) (fun r h => by cases h)
        have c0 : w3.cell? ⟨w2.heap.size, 0, none⟩ = some (.int .u8 t.kind) := by rw [cell_blk hg3, k0]
        have HN3 : Hid (w0.heap.size ≤ w3.heap.size ∧ W.heap.size ≤ w3.heap.size) := ⟨Nat.le_trans HN.out.1 HB3.out.size, Nat.le_trans HN.out.2 HB3.out.size⟩
        clear hb2 hb3 hg3 hs3 hsz hc1 k0 k11 k13
        obtain ⟨fn, tmps, assign, body, hy, hYR⟩ := HY.out (done) 0 x true w3 HJ3.out (by rw [HE.out.1, HZ.out.1]; simp)
        gi_wp2_with fail
        refine ⟨(fun h => by cases h), hYR.mono ?_⟩
        rintro e W3 (⟨rfl, hJ3, hk3⟩ | ⟨rfl, hJx3⟩)
        · gi_wp2_with fail
          go_roundw
          case rel =>
            refine ⟨a, k + 1, (done) ++ [({ edge := 0, thing := x, free := true } : Hop)], zs, rfl, by go_num, by omega, HI3.out.yield HF.out hk3, ⟨HR3.out.1.yield HR3.out.2 hk3, fun g hg => Nat.lt_of_lt_of_le (HR3.out.2 g hg) hk3.kp.size⟩, hJ3, ⟨by rw [HE.out.1, HZ.out.1]; simp, HZ.out.2, HE.out.2.2⟩, Nat.le_trans HN3.out.1 hk3.kp.size, Nat.le_trans HN3.out.2 hk3.kp.size⟩
          case measure => first | exact measure_down hkm | (rw [hwk]; exact measure_down hkm)
        · gi_wp2_with fail
          refine bodyPost_ret (results_none rfl _ _ _) rfl ?_
          exact ⟨⟨_, rfl⟩, .inr ⟨(done) ++ [({ edge := 0, thing := x, free := true } : Hop)], by rw [HE.out.1, HZ.out.1]; exact ⟨zs, by simp⟩, hJx3⟩⟩
      · have hhm := Hok.out.homes x t ht hk14
        obtain ⟨hn, hhn⟩ := Int.eq_ofNat_of_zero_le hhm.1
        have ha2 := sideB_iff.1 HE.out.2.2
        obtain ⟨an, rfl⟩ := Int.eq_ofNat_of_zero_le ha2.1
        rw [hhn] at hhm hpath hzs
        simp only [Int.toNat_natCast] at hpath
        have hhome := Home_W HI.out.isW hxw
        rw [show M.homeOf x = (hn : Int) by simp [WM.homeOf, ht, hk14, hhn], show M.hasHome x = true by simp [WM.hasHome, ht, hk14]] at hhome
        obtain ⟨es, hes⟩ : ∃ es, u ++ d.reverse = es := ⟨_, rfl⟩
        have hwp := wpath_W HI.out.isW (a := an) (b := hn) (by omega) (by omega) hpath
        rw [hes] at hwp hrest
        have HZ := (show Hid (rest = es.map (edgeH M) ++ ⟨0, x, M.gateB t⟩ :: zs ∧ HopsIs M (hn : Int) (l.drop (k + 1)) zs ∧ sideB M (hn : Int) = true ∧ es.length ≤ 1000) from ⟨hrest, hzs, sideB_iff.2 hhm, by
          have h1 := hpath.len Hok.out (by omega) (by omega)
          have h2 := Hok.out.sides_le
          rw [← hes, List.length_append, List.length_reverse]
          omega⟩)
        clear hinv hrest hzs hpath hhm ha2 hes ht
        gi_wp2_with fail
        refine ⟨trivial, (fun h => by cases h), (callsIn_wide.2 hhome).mono ?_⟩
        rintro e _ ⟨rfl, rfl⟩
        clear hhome
        gi_wp2_with fail
        refine ⟨trivial, (fun h => by cases h), (callsIn_wide.2 hwp).mono ?_⟩
        rintro e w9 ⟨v2, rfl, hrow2, hb9⟩
        obtain ⟨pb, cb, rfl, hR9, hRl9⟩ := HopR.of_row (own := own) (W := wr) hrow2 (Nat.le_refl _) (fun b ho => HI.out.ownL b (HM.out wr w9 HN.out.1 hb9 b ho))
        have HI9 : Hid (HopI own n0 p M Fw Bw w9) := HI.out.below HM.out HN.out.1 hb9
        have HQ9 := (show Hid (HopR own pb es w9 ∧ ∀ g, pb = some ⟨g, 0, none⟩ → g < w9.heap.size) from ⟨hR9, hRl9⟩)
        have HR9 : Hid (HopR own (some ⟨gp, 0, none⟩) l w9 ∧ ∀ g, some (⟨gp, 0, none⟩ : Addr) = some ⟨g, 0, none⟩ → g < w9.heap.size) := ⟨HR.out.1.below HM.out HN.out.1 hb9, fun g hg => Nat.lt_of_lt_of_le (HR.out.2 g hg) hb9.size⟩
        have HJ9 : Hid (J done w9) := HJ.out _ wr w9 none HJd.out (grownBy_of_below hb9) (fun r h => by cases h)
        have HN9 : Hid (w0.heap.size ≤ w9.heap.size ∧ W.heap.size ≤ w9.heap.size) := ⟨Nat.le_trans HN.out.1 hb9.size, Nat.le_trans HN.out.2 hb9.size⟩
        clear hwp hrow2 hb9 hR9 hRl9 hc hbw HI HR HJd HN
        clear wr
        gi_wp2_with fail
        gi_loopw [38] (fun vi wq => ∃ i : Nat, vi = .int .i64 i ∧ i ≤ es.length ∧ Hid (HopI own n0 p M Fw Bw wq) ∧ Hid (HopR own (some ⟨gp, 0, none⟩) l wq ∧ ∀ g, some (⟨gp, 0, none⟩ : Addr) = some ⟨g, 0, none⟩ → g < wq.heap.size) ∧ Hid (HopR own pb es wq ∧ ∀ g, pb = some ⟨g, 0, none⟩ → g < wq.heap.size) ∧ Hid (J (done ++ (es.take i).map (edgeH M)) wq) ∧ Hid (w0.heap.size ≤ wq.heap.size ∧ W.heap.size ≤ wq.heap.size)) (fun vi _ => es.length - (intOf vi).toNat)
        case atStart => exact ⟨0, rfl, Nat.zero_le _, HI9.out, HR9.out, HQ9.out, by show J _ _; simpa using HJ9.out, HN9.out⟩
        case round =>
          obtain ⟨i, rfl, hi, HIq, HRq, HQq, HJq, HNq⟩ := hrel
          by_cases him : i < es.length
          · have hiz : (i : Int) < (es.length : Int) := by omega
            obtain ⟨y, hy0⟩ : ∃ y, es[i]? = some y := ⟨_, List.getElem?_eq_getElem him⟩
            obtain ⟨gq, hpb, hcq⟩ := HQq.out.1.cell hy0
            have Htk : Hid (es.take (i + 1) = es.take i ++ [y]) := by show _ = _; rw [List.take_add_one, hy0]; rfl
            have hpb0 := hpb
            subst hpb
            clear hy0 hpb0
            have hbw := HIq.out.boxCell
            have hwi : wrap64 ((i : Int) + 1) = (i : Int) + 1 := by have := HZ.out.2.2.2; unfold wrap64; omega
            have hcut := IsCut_W HIq.out.isW y
            obtain ⟨bc, hbc⟩ : ∃ bc, (edgeB M y && M.cutAt y.toNat) = bc := ⟨_, rfl⟩
            rw [hbc] at hcut
            have Hbc : Hid (edgeH M y = ({ edge := y, thing := 0, free := !bc } : Hop)) := by show _ = _; rw [edgeH, hbc]
            clear hbc
            obtain ⟨fn, tmps, assign, body, hy, hYR⟩ := HY.out (done ++ (es.take i).map (edgeH M)) y 0 (!bc) wr HJq.out (by rw [HE.out.1, HZ.out.1]; simp; omega)
            gi_wp2_with fail
            refine ⟨trivial, (fun h => by cases h), (callsIn_wide.2 hcut).mono ?_⟩
            rintro e _ ⟨rfl, rfl⟩
            clear hcut
            gi_wp2_with fail
            refine ⟨(fun h => by cases h), hYR.mono ?_⟩
            rintro e W3 (⟨rfl, hJ3, hk3⟩ | ⟨rfl, hJx3⟩)
            · gi_wp2_with fail
              go_roundw
              case rel =>
                refine ⟨i + 1, by go_num, by omega, HIq.out.yield HF.out hk3, ⟨HRq.out.1.yield HRq.out.2 hk3, fun g hg => Nat.lt_of_lt_of_le (HRq.out.2 g hg) hk3.kp.size⟩, ⟨HQq.out.1.yield HQq.out.2 hk3, fun g hg => Nat.lt_of_lt_of_le (HQq.out.2 g hg) hk3.kp.size⟩, ?_, Nat.le_trans HNq.out.1 hk3.kp.size, Nat.le_trans HNq.out.2 hk3.kp.size⟩
                show J _ _
                rw [Htk.out, List.map_append, ← List.append_assoc, List.map_cons, List.map_nil, Hbc.out]
                exact hJ3
              case measure => first | exact measure_down him | (rw [hwi]; exact measure_down him)
            · gi_wp2_with fail
              refine bodyPost_ret (results_none rfl _ _ _) rfl ?_
              refine ⟨⟨_, rfl⟩, .inr ⟨_, ?_, hJx3⟩⟩
              rw [HE.out.1, HZ.out.1, ← Hbc.out, List.append_assoc, ← List.map_singleton (f := edgeH M), ← List.map_append, ← Htk.out]
              refine List.prefix_append_right_inj _ |>.2 ?_
              exact (List.IsPrefix.map _ (List.take_prefix _ _)).trans (List.prefix_append _ _)
          · obtain rfl : i = es.length := by omega
            have hiz : ¬ ((es.length : Nat) : Int) < ((es.length : Nat) : Int) := by omega
            rw [List.take_length] at HJq
            have hbw := HIq.out.boxCell
            clear HQq hi him
            rcases Decidable.em (t.kind = 15) with h15 | h15
            · obtain ⟨s, hs, -⟩ := Hok.out.gate x t Ht.out h15
              have Hs := (show Hid (M.at t.bi = some s) from hs)
              have Hg : Hid (M.gateB t = !s.full) := by show _ = _; rw [WM.gateB, if_pos h15, hs]; rfl
              have hk15 : (t.kind == 15) = true := by simpa using h15
              clear hs h15
              gi_wp2_with fail
              refine ⟨trivial, (fun h => by cases h), (callsIn_wide.2 (HWh.out wr HIq.out.isW x t Ht.out)).mono ?_⟩
              rintro e w2 ⟨cs, rfl, hsz, hc1, k0, k11, k13, hb2⟩
              obtain ⟨w3, hst, hb3, hg3, hs3⟩ := boxed_what' w2 cs hsz hc1
              have HB3 : Hid (Below wr.heap.size wr w3) := hb2.trans (hb3.mono hb2.size)
              have HI3 : Hid (HopI own n0 p M Fw Bw w3) := HIq.out.below HM.out HNq.out.1 HB3.out
              have HR3 : Hid (HopR own (some ⟨gp, 0, none⟩) l w3 ∧ ∀ g, some (⟨gp, 0, none⟩ : Addr) = some ⟨g, 0, none⟩ → g < w3.heap.size) := ⟨HRq.out.1.below HM.out HNq.out.1 HB3.out, fun g hg => Nat.lt_of_lt_of_le (HRq.out.2 g hg) HB3.out.size⟩
              have HJ3 : Hid (J (done ++ es.map (edgeH M)) w3) := HJ.out _ wr w3 none HJq.out (grownBy_of_below HB3.out) (fun r h => by cases h)
              have c0 : w3.cell? ⟨w2.heap.size, 0, none⟩ = some (.int .u8 t.kind) := by rw [cell_blk hg3, k0]
              have HN3 : Hid (w0.heap.size ≤ w3.heap.size ∧ W.heap.size ≤ w3.heap.size) := ⟨Nat.le_trans HNq.out.1 HB3.out.size, Nat.le_trans HNq.out.2 HB3.out.size⟩
              have c11 : w3.cell? ⟨w2.heap.size, 11, none⟩ = some (.int .i64 t.bi) := by rw [cell_blk hg3, k11]
              have hbw3 := HI3.out.boxCell
              clear hb2 hb3 hg3 hs3 hsz hc1 k0 k11 k13
              gi_wp2_with fail
              refine ⟨trivial, (fun h => by cases h), (callsIn_wide.2 (HWh.out w3 HI3.out.isW t.bi s Hs.out)).mono ?_⟩
              rintro e w4 ⟨cs', rfl, hsz, hc1, k0, k11, k13, hb2⟩
              obtain ⟨w5, hst', hb3, hg3, hs3⟩ := boxed_what' w4 cs' hsz hc1
              have HB5 : Hid (Below w3.heap.size w3 w5) := hb2.trans (hb3.mono hb2.size)
              have HI5 : Hid (HopI own n0 p M Fw Bw w5) := HI3.out.below HM.out HN3.out.1 HB5.out
              have HR5 : Hid (HopR own (some ⟨gp, 0, none⟩) l w5 ∧ ∀ g, some (⟨gp, 0, none⟩ : Addr) = some ⟨g, 0, none⟩ → g < w5.heap.size) := ⟨HR3.out.1.below HM.out HN3.out.1 HB5.out, fun g hg => Nat.lt_of_lt_of_le (HR3.out.2 g hg) HB5.out.size⟩
              have HJ5 : Hid (J (done ++ es.map (edgeH M)) w5) := HJ.out _ w3 w5 none HJ3.out (grownBy_of_below HB5.out) (fun r h => by cases h)
              have c13 : w5.cell? ⟨w4.heap.size, 13, none⟩ = some (.bool s.full) := by rw [cell_blk hg3, k13]
              have HN5 : Hid (w0.heap.size ≤ w5.heap.size ∧ W.heap.size ≤ w5.heap.size) := ⟨Nat.le_trans HN3.out.1 HB5.out.size, Nat.le_trans HN3.out.2 HB5.out.size⟩
              clear hb2 hb3 hg3 hs3 hsz hc1 k0 k11 k13
              obtain ⟨fn, tmps, assign, body, hy, hYR⟩ := HY.out (done ++ es.map (edgeH M)) 0 x (!s.full) w5 HJ5.out (by rw [HE.out.1, HZ.out.1]; simp)
              gi_wp2_with fail
              refine ⟨(fun h => by cases h), hYR.mono ?_⟩
              rintro e W3 (⟨rfl, hJ3, hk3⟩ | ⟨rfl, hJx3⟩)
              · gi_wp2_with fail
                go_roundw
                case rel =>
                  refine ⟨(hn : Int), k + 1, (done ++ es.map (edgeH M)) ++ [({ edge := 0, thing := x, free := (!s.full) } : Hop)], zs, rfl, by go_num, by omega, HI5.out.yield HF.out hk3, ⟨HR5.out.1.yield HR5.out.2 hk3, fun g hg => Nat.lt_of_lt_of_le (HR5.out.2 g hg) hk3.kp.size⟩, hJ3, ⟨by rw [HE.out.1, HZ.out.1, Hg.out]; simp, HZ.out.2.1, HZ.out.2.2.1⟩, Nat.le_trans HN5.out.1 hk3.kp.size, Nat.le_trans HN5.out.2 hk3.kp.size⟩
                case measure => first | exact measure_down hkm | (rw [hwk]; exact measure_down hkm)
              · gi_wp2_with fail
                refine bodyPost_ret (results_none rfl _ _ _) rfl ?_
                exact ⟨⟨_, rfl⟩, .inr ⟨(done ++ es.map (edgeH M)) ++ [({ edge := 0, thing := x, free := (!s.full) } : Hop)], by rw [HE.out.1, HZ.out.1, Hg.out]; exact ⟨zs, by simp⟩, hJx3⟩⟩
            · have Hg : Hid (M.gateB t = true) := by show _ = _; rw [WM.gateB, if_neg h15]
              have hk15 : (t.kind == 15) = false := by simpa using h15
              clear h15
              gi_wp2_with fail
              refine ⟨trivial, (fun h => by cases h), (callsIn_wide.2 (HWh.out wr HIq.out.isW x t Ht.out)).mono ?_⟩
              rintro e w2 ⟨cs, rfl, hsz, hc1, k0, k11, k13, hb2⟩
              obtain ⟨w3, hst, hb3, hg3, hs3⟩ := boxed_what' w2 cs hsz hc1
              have HB3 : Hid (Below wr.heap.size wr w3) := hb2.trans (hb3.mono hb2.size)
              have HI3 : Hid (HopI own n0 p M Fw Bw w3) := HIq.out.below HM.out HNq.out.1 HB3.out
              have HR3 : Hid (HopR own (some ⟨gp, 0, none⟩) l w3 ∧ ∀ g, some (⟨gp, 0, none⟩ : Addr) = some ⟨g, 0, none⟩ → g < w3.heap.size) := ⟨HRq.out.1.below HM.out HNq.out.1 HB3.out, fun g hg => Nat.lt_of_lt_of_le (HRq.out.2 g hg) HB3.out.size⟩
              have HJ3 : Hid (J (done ++ es.map (edgeH M)) w3) := HJ.out _ wr w3 none HJq.out (grownBy_of_below HB3.out) (fun r h => by cases h)
              have c0 : w3.cell? ⟨w2.heap.size, 0, none⟩ = some (.int .u8 t.kind) := by rw [cell_blk hg3, k0]
              have HN3 : Hid (w0.heap.size ≤ w3.heap.size ∧ W.heap.size ≤ w3.heap.size) := ⟨Nat.le_trans HNq.out.1 HB3.out.size, Nat.le_trans HNq.out.2 HB3.out.size⟩
              clear hb2 hb3 hg3 hs3 hsz hc1 k0 k11 k13
              obtain ⟨fn, tmps, assign, body, hy, hYR⟩ := HY.out (done ++ es.map (edgeH M)) 0 x true w3 HJ3.out (by rw [HE.out.1, HZ.out.1]; simp)
              gi_wp2_with fail
              refine ⟨(fun h => by cases h), hYR.mono ?_⟩
              rintro e W3 (⟨rfl, hJ3, hk3⟩ | ⟨rfl, hJx3⟩)
              · gi_wp2_with fail
                go_roundw
                case rel =>
                  refine ⟨(hn : Int), k + 1, (done ++ es.map (edgeH M)) ++ [({ edge := 0, thing := x, free := true } : Hop)], zs, rfl, by go_num, by omega, HI3.out.yield HF.out hk3, ⟨HR3.out.1.yield HR3.out.2 hk3, fun g hg => Nat.lt_of_lt_of_le (HR3.out.2 g hg) hk3.kp.size⟩, hJ3, ⟨by rw [HE.out.1, HZ.out.1, Hg.out]; simp, HZ.out.2.1, HZ.out.2.2.1⟩, Nat.le_trans HN3.out.1 hk3.kp.size, Nat.le_trans HN3.out.2 hk3.kp.size⟩
                case measure => first | exact measure_down hkm | (rw [hwk]; exact measure_down hkm)
              · gi_wp2_with fail
                refine bodyPost_ret (results_none rfl _ _ _) rfl ?_
                exact ⟨⟨_, rfl⟩, .inr ⟨(done ++ es.map (edgeH M)) ++ [({ edge := 0, thing := x, free := true } : Hop)], by rw [HE.out.1, HZ.out.1, Hg.out]; exact ⟨zs, by simp⟩, hJx3⟩⟩
    · have hkz : ¬ (k : Int) < (l.length : Int) := by omega
      obtain rfl : k = l.length := by omega
      have Hnil : Hid (ys = done) := by
        have h1 := HE.out
        rw [List.drop_length] at h1
        cases h1.2.1
        show _ = _
        simpa using h1.1
      gi_wp2_with fail
      go_end0
      exact ⟨⟨_, rfl⟩, .inl (by rw [Hnil.out]; exact HJd.out)⟩
end Go.Proofs.YtifmifjbebpomaaGreatDoor
