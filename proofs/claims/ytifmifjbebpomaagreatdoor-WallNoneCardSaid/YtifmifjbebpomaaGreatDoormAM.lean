/- A part of the proof, several texts in one: WaC. -/
import Derived.Test.YtifmifjbebpomaaGreatDoormAL
/- Walls: Collect of hops; Hops. -/
namespace Go.Proofs.YtifmifjbebpomaaGreatDoor
open Go.RowKit Go.Shelf Go.ChangeMaps Go.MapKept
attribute [local go_sem] Oper.semAt_some

def hflat (xs : List Hop) : List Value := xs.flatMap Hop.cs
theorem hflat_len (xs : List Hop) : (hflat xs).length = xs.length * 3 := by
  induction xs with
  | nil => rfl
  | cons x r ih =>
    show (x.cs ++ hflat r).length = _
    rw [List.length_append, ih, List.length_cons]
    show 3 + _ = _
    omega
theorem hflat_snoc (xs : List Hop) (x : Hop) : hflat (xs ++ [x]) = hflat xs ++ x.cs := by simp [hflat]
theorem infoHop : (Tryz.prog.info? 47).map (fun i => (i.zero, i.size, i.bytes)) = some (some (.agg #[.int .i64 0, .int .i64 0, .bool false]), 3, 24) := by kernel_rfl
/-- A list of hops that a call makes grows by one. -/
theorem append_hopA {F : Fence} {nF : Nat} {w : World} {ops : Array Oper} {rest : List Oper} {o : Oper} {a : Act} {Q : Exit → Act → World → Prop} (hgd : o.guard = none) (s x : Operand)
    (ho : o.op = .call { callee := .builtin .append, args := #[s, x], argTypes := #[43, 43] }) (base : Nat)
    (v : Value) (n : Nat) (xs : List Value) (hs : a.eval s = v) (hown : Hid (w.ownsRow base 47 3 v n xs)) (y0 y1 : Int) (y2 : Bool) (hx : a.eval x = .slice (some ⟨w.heap.size, 0, none⟩) 1 1)
    (hn : Hid ((n : Int) ≤ 1099511627777)) (hbase : Hid (base ≤ w.heap.size))
    (h : ∀ v' w', Hid (w'.ownsRow base 47 3 v' (n + 1) (xs ++ [.int .i64 y0, .int .i64 y1, .bool y2])) → Hid (w.grownBy w' v.ownBlock) → Hid (Below base w w') → Hid (v'.ownBlock = v.ownBlock ∨ v'.ownBlock = some (w.heap.size + 1)) → wpListIn F nF Tryz.prog ops Q rest (a.put o.dst v') w') : wpListIn F nF Tryz.prog ops Q (o :: rest) a (w.alloc (.cells #[.int .i64 y0, .int .i64 y1, .bool y2] 47)) := by
  obtain ⟨i, hi, hz, h1, h2⟩ := info_parts infoHop
  have hn' := hn.out
  refine wpListIn_append_own_at _ hgd s x 43 ho base 47 i _ 3 24 Tryz.underlying43 hi hz h1 h2 rfl (by decide) v n xs hs (hown.out.alloc _) ⟨w.heap.size, 0, none⟩ 1 1 [.int .i64 y0, .int .i64 y1, .bool y2] hx rfl (fun j u hu => ?_) (by simp [Value.oneCell']) (by unfold maxLen; omega) (by omega) (by have := hbase.out; simp; omega) ?_
  · have e : (⟨w.heap.size, 0, none⟩ : Addr).add j = ⟨w.heap.size, j, none⟩ := by unfold Addr.add; split <;> simp_all
    rw [e, cell_blk (blk_new w _)]
    simpa using hu
  intro v' w' r1 r2 _ r4
  have hg : w.grownBy w' v.ownBlock := (World.grownBy_alloc w _ _).trans r2
  exact h v' w' r1 hg ⟨hg.os, hg.tape, hg.output, hg.size, fun k hk => hg.block k (by have := hbase.out; omega) (fun e => by have := hown.out.lt k e.symm; omega)⟩ (by show _ ∨ _; simpa using r4)

/-- Between two rounds of AppendSeq. -/
structure HcAt (w : World) (B : Nat) (xs : List Hop) (W : World) : Prop where
  below : Below w.heap.size w W
  size : B + 1 ≤ W.heap.size
  row : ∃ v, W.heap[B]? = some (.cells #[v] 43 (0, 0)) ∧ W.ownsRow (B + 1) 47 3 v xs.length (hflat xs)
theorem row_from3 {W W' : World} {row : Option Nat} {base k s : Nat} {e : TypeId} {v : Value} {xs : List Value} (h : W.ownsRow base e s v k xs) (hg : W.grownBy W' row)
    (hr : ∀ r, row = some r → ∃ o : Obj, W.heap[r]? = some o ∧ o.isCells = false) : W'.ownsRow base e s v k xs := by
  refine h.kept hg ?_
  rcases h.2 with ⟨rfl, _⟩ | ⟨g, cap, cur, rfl, _, hgb, _⟩
  · exact .inl rfl
  · refine .inr fun e' => ?_
    obtain ⟨o, ho, hc⟩ := hr g e'.symm
    rw [hgb] at ho
    cases ho
    cases hc
theorem row_base3 {W : World} {base base' k s : Nat} {e : TypeId} {v : Value} {xs : List Value} (hb : base' ≤ base) (h : W.ownsRow base e s v k xs) : W.ownsRow base' e s v k xs := ⟨h.1, by
  rcases h.2 with h | ⟨g, cap, cur, h1, h2, h3⟩
  · exact .inl h
  · exact .inr ⟨g, cap, cur, h1, by omega, h3⟩⟩
theorem HcAt.grown {w W W' : World} {B : Nat} {xs : List Hop} {row : Option Nat} (h : HcAt w B xs W) (hw : w.heap.size ≤ B) (hg : W.grownBy W' row)
    (hr : ∀ x, row = some x → B + 1 ≤ x ∧ ∃ o : Obj, W.heap[x]? = some o ∧ o.isCells = false) : HcAt w B xs W' := by
  obtain ⟨v, hv, hrow⟩ := h.row
  refine ⟨h.below.grown hg h.below.size (fun k e => by have := (hr k e).1; omega), Nat.le_trans h.size hg.size, v, (hg.block B (blk_lt hv) (fun e => by have := (hr B e.symm).1; omega)).trans hv, row_from3 hrow hg (fun x e => (hr x e).2)⟩
/-- A hop is written down. -/
theorem HcAt.push {w : World} {B n0 : Nat} {xs : List Hop} {x : Hop} {W2 W3 : World} {v v3 : Value} (h : HcAt w B xs W2) (hw : w.heap.size ≤ B) (hn : n0 ≤ B)
    (hv : W2.heap[B]? = some (.cells #[v] 43 (0, 0))) (hrow : W2.ownsRow (B + 1) 47 3 v xs.length (hflat xs))
    (r1 : W3.ownsRow (B + 1) 47 3 v3 (xs.length + 1) (hflat xs ++ x.cs)) (r2 : W2.grownBy W3 v.ownBlock) (r3 : Below (B + 1) W2 W3)
    (r4 : v3.ownBlock = v.ownBlock ∨ v3.ownBlock = some (W2.heap.size + 1)) :
    HcAt w B (xs ++ [x]) (W3.setCell ⟨B, 0, none⟩ v3) ∧ KeepsOthers W2 (W3.setCell ⟨B, 0, none⟩ v3) ∧ KpH (boxOwn B) n0 W2 (W3.setCell ⟨B, 0, none⟩ v3) := by
  have hv3 := (r3.block B (by omega)).trans hv
  have hs := heap_setCell_box v3 hv3
  have hz : (W3.setCell ⟨B, 0, none⟩ v3).heap.size = W3.heap.size := by simp [World.setCell]
  have ho : ∀ k, k ≠ B → (W3.setCell ⟨B, 0, none⟩ v3).heap[k]? = W3.heap[k]? := fun k hk => Below.heap_setCell _ _ _ _ hk
  have hsize := r3.size
  have hcB : (W3.setCell ⟨B, 0, none⟩ v3).cell? ⟨B, 0, none⟩ = some v3 := by rw [cell_blk hs]; rfl
  have hcB2 : W2.cell? ⟨B, 0, none⟩ = some v := by rw [cell_blk hv]; rfl
  refine ⟨⟨(h.below.trans (r3.mono (by omega))).setCell (by show w.heap.size ≤ B; omega) _, by rw [hz]; exact Nat.le_trans h.size hsize, v3, hs, ?_⟩, ⟨by rw [hz]; exact hsize, fun k o hk hc => ?_⟩, ⟨⟨by rw [hz]; exact hsize, fun b cs e fr hb hn => ?_, fun b hb => ?_⟩, fun b hb => ?_, fun hA b hb => ?_⟩⟩
  · rw [hflat_snoc, List.length_append]
    refine r1.kept (grownBy_setCell' W3 B v3) (.inr fun e => ?_)
    have := r1.lt B e
    omega
  · have hkB : k ≠ B := fun e => by
      subst e
      rw [hv] at hk
      cases hk
      cases hc
    rw [ho k hkB, r2.block k (blk_lt hk) (fun e => ?_)]
    · exact hk
    · rcases hrow.2 with ⟨rfl, -⟩ | ⟨g, cap, cur, rfl, -, hg, -⟩
      · cases e
      · simp only [Value.ownBlock, Option.some.injEq] at e
        subst e
        rw [hg] at hk
        cases hk
        cases hc
  · have hbB : b ≠ B := fun e => hn (.inl e)
    rw [ho b hbB, r2.block b (blk_lt hb) (fun e => hn (.inr ⟨v, hcB2, e.symm⟩))]
    exact hb
  · rcases hb with rfl | ⟨u, hu, hub⟩
    · exact .inl (.inl rfl)
    · obtain rfl : v3 = u := by rw [hcB] at hu; exact Option.some.inj hu
      rcases r4 with h4 | h4
      · exact .inl (.inr ⟨v, hcB2, h4.symm.trans hub⟩)
      · rw [h4] at hub
        cases hub
        exact .inr (by omega)
  · rw [ho b (by omega)]
    exact r3.block b (by omega)
  · rw [hz]
    rcases hb with rfl | ⟨u, hu, hub⟩
    · exact blk_lt hv3
    · obtain rfl : v3 = u := by rw [hcB] at hu; exact Option.some.inj hu
      exact (r1.lt b hub).2
theorem KpH_of_below {B n0 : Nat} {W W' : World} (hB : B < W.heap.size) (hn : n0 ≤ W.heap.size) (h : Below W.heap.size W W') : KpH (boxOwn B) n0 W W' where
  kp := KpO_of_below hB h
  low := fun b hb => h.block b (by omega)
  lt := fun hA b hb => Nat.lt_of_lt_of_le (hA b (by
    rcases hb with rfl | ⟨v, hv, hb⟩
    · exact .inl rfl
    · have : W'.cell? ⟨B, 0, none⟩ = W.cell? ⟨B, 0, none⟩ := World.cell?_of_block (h.block B hB)
      exact .inr ⟨v, this ▸ hv, hb⟩)) h.size
theorem KpH_put {B n n0 : Nat} (hB : B < n) (hn0 : n0 ≤ n) (W : World) (l : Nat) (o o' : Obj) (hl : n ≤ l) (ho : W.heap[l]? = some o) (hc : o.isCells = false) : KpH (boxOwn B) n0 W (W.putObj l o') where
  kp := boxOwn_put hB W l o o' hl ho hc
  low := fun b hb => World.putObj_heap_other (by omega)
  lt := fun hA b hb => by
    rw [show (W.putObj l o').heap.size = W.heap.size by simp]
    refine hA b ?_
    rcases hb with rfl | ⟨v, hv, hb⟩
    · exact .inl rfl
    · have : (W.putObj l o').cell? ⟨B, 0, none⟩ = W.cell? ⟨B, 0, none⟩ := World.cell?_of_block (World.putObj_heap_other (by show B ≠ l; omega))
      exact .inr ⟨v, this ▸ hv, hb⟩
theorem ownM_box {B n : Nat} (hB : B < n) : OwnM (boxOwn B) n := fun W W' hn hb b ho => by
  rcases ho with rfl | ⟨v, hv, hv2⟩
  · exact .inl rfl
  · have : W'.cell? ⟨B, 0, none⟩ = W.cell? ⟨B, 0, none⟩ := World.cell?_of_block (hb.block B (by omega))
    exact .inr ⟨v, this ▸ hv, hv2⟩

set_option maxHeartbeats 4000000 in
set_option maxRecDepth 100000 in
theorem collect_W {w : World} {p : Nat} {M : WM} {Fw : Nat → Prop} {Bf Bw Br : Nat} {a0 r : Int} {l : List Int} {ys : List Hop} (hW : IsW w p M Fw)
    (hBf : w.cell? ⟨Bf, 0, none⟩ = some (.int .i64 a0)) (hBw : ∃ cs e fr, w.heap[Bw]? = some (.cells cs e fr) ∧ cs[0]? = some (.pointer (some ⟨p, 0, none⟩))) (hBr : w.cell? ⟨Br, 0, none⟩ = some (.int .i64 r))
    (hwhat : WhatOk p M Fw) (hr : (Lit.int .i64 r).wf = true) (hl : WayIs M r l) (ha : sideB M a0 = true) (hys : HopsIs M a0 l ys) (hlen : (ys.length : Int) ≤ 1099511627777) :
    Calls Tryz.prog 55 #[.slice none 0 0, .func (.func 56) #[] #[.pointer (some ⟨Bf, 0, none⟩), .pointer (some ⟨Bw, 0, none⟩), .pointer (some ⟨Br, 0, none⟩)]] w fun e w' => ∃ v, e = .returned v ∧
      w'.ownsRow w.heap.size 47 3 v ys.length (hflat ys) ∧ Below w.heap.size w w' := by
  have hb1 : Below w.heap.size w (w.alloc (.cells #[.slice none 0 0] 43)) := (Below.refl _ _).alloc (Nat.le_refl _) _
  have hv1 : (w.alloc (.cells #[.slice none 0 0] 43)).heap[w.heap.size]? = some (.cells #[.slice none 0 0] 43 (0, 0)) := blk_new w _
  have hseq := hops1_seq (n := 4) (n0 := w.heap.size) (w0 := w.alloc (.cells #[.slice none 0 0] 43)) (hW.below hb1) (fun b hb => hW.lt b hb) hb1.size
    ((hb1.cell (p := ⟨Bf, 0, none⟩) (World.block_lt_of_cell? _ _ hBf)).trans hBf)
    (by obtain ⟨cs, e, fr, h1, h2⟩ := hBw; exact ⟨cs, e, fr, (hb1.block _ (blk_lt h1)).trans h1, h2⟩)
    ((hb1.cell (p := ⟨Br, 0, none⟩) (World.block_lt_of_cell? _ _ hBr)).trans hBr) hwhat hr hl ha hys (boxOwn w.heap.size)
    (by
      rintro W hb b (rfl | ⟨v, hv, hv2⟩)
      · refine ⟨by simp, fun e => ?_⟩
        obtain ⟨cs, e', fr, h1, h2⟩ := hBw
        have := blk_lt h1
        omega
      · rw [cell_blk ((hb.block _ (by simp)).trans hv1)] at hv
        cases hv
        cases hv2)
    (ownM_box (by simp))
  have HSQ := (show Hid _ from hseq)
  have HIn : Hid (HcAt w w.heap.size [] (w.alloc (.cells #[.slice none 0 0] 43))) := ⟨hb1, by simp, _, hv1, World.ownsRow_nil _ _ _ _⟩
  have HLen := (show Hid ((ys.length : Int) ≤ 1099511627777) from hlen)
  clear hseq hb1 hv1 hW hBf hBw hBr hwhat hr hl ha hys hlen
  refine (callsIn_wide (n := 5)).1 ?_
  refine callsIn_of_wp_marks Tryz.func55 rfl trivial ?_ rfl
  simp only [Tryz.ntmps55, List.size_toArray, List.length_cons, List.length_nil, Nat.reduceAdd, Nat.reduceSub, Array.replicate_succ, Array.replicate_zero, List.push_toArray, List.append_toArray, List.nil_append, List.cons_append]
  gi_wp2_with fail
  have hsz1 : (w.alloc (.cells #[.slice none 0 0] 43)).heap.size = w.heap.size + 1 := by simp
  revert HSQ HIn hsz1
  generalize w.alloc (.cells #[.slice none 0 0] 43) = w1
  intro HSQ HIn hsz1
  refine wpIn_rangeFunc_ownH rfl (by decide) (gf := 56) (lb := #[.pointer (some ⟨Bf, 0, none⟩), .pointer (some ⟨Bw, 0, none⟩), .pointer (some ⟨Br, 0, none⟩)]) rfl trivial (enters_of Tryz.func56 (by kernel_rfl) rfl) HSQ.out (fun h k => h.trans k)
    (fun W l o o' hl ho hc _ => KpH_put (n := w1.heap.size) (by omega) (by omega) W l o o' hl ho hc) (Below.refl _ _) (fun _ => rfl)
    (fun (pre : List Hop) W => HcAt w w.heap.size pre W) (fun _ _ _ => False)
    (fun s W W' row hs hg hr => HcAt.grown hs (Nat.le_refl _) hg (fun x e => ⟨by have := (hr x e).1; omega, (hr x e).2⟩)) (fun _ _ _ _ _ hs _ _ => hs) HIn.out
    (fun x a' W => ∃ g, a' = { tmps := #[.slice none 0 0, .func (.func 56) #[] #[.pointer (some ⟨Bf, 0, none⟩), .pointer (some ⟨Bw, 0, none⟩), .pointer (some ⟨Br, 0, none⟩)], .pointer (some ⟨w.heap.size, 0, none⟩), undef, .slice none 0 0, .pointer (some ⟨g, 0, none⟩), .func (.func 56) #[] #[.pointer (some ⟨Bf, 0, none⟩), .pointer (some ⟨Bw, 0, none⟩), .pointer (some ⟨Br, 0, none⟩)], .agg #[.int .i64 x.edge, .int .i64 x.thing, .bool x.free], undef, undef, undef, undef, undef], defers := [] } ∧ W.heap[g]? = some (.cells #[.int .i64 x.edge, .int .i64 x.thing, .bool x.free] 47 (0, 0)) ∧ w.heap.size < g)
    (fun x a' s W W' row hs hg hr => by
      obtain ⟨g, h1, h2, h3⟩ := hs
      refine ⟨g, h1, (hg.block g (blk_lt h2) (fun e => ?_)).trans h2, h3⟩
      obtain ⟨o, ho, hc⟩ := (hr g e.symm).2
      rw [h2] at ho
      cases ho
      cases hc) ?assign ?body ?done ?stop
  case assign =>
    intro l pre x W K hI hK
    have hsz := hI.size
    have hb : Below W.heap.size W (W.alloc (.cells #[.int .i64 x.edge, .int .i64 x.thing, .bool x.free] 47)) := (Below.refl _ _).alloc (Nat.le_refl _) _
    have HA : Hid (KeepsFrom w1.heap.size W (W.alloc (.cells #[.int .i64 x.edge, .int .i64 x.thing, .bool x.free] 47)) ∧ KpH (boxOwn w.heap.size) w.heap.size W (W.alloc (.cells #[.int .i64 x.edge, .int .i64 x.thing, .bool x.free] 47)) ∧ HcAt w w.heap.size pre (W.alloc (.cells #[.int .i64 x.edge, .int .i64 x.thing, .bool x.free] 47)) ∧ w.heap.size < W.heap.size) :=
      ⟨(keepsOthers_of_below hb).from _, KpH_of_below (by omega) (by omega) hb, hI.grown (Nat.le_refl _) (grownBy_of_below hb) (fun _ e => by cases e), by omega⟩
    clear hb hI hsz
    gi_wp2_with fail
    exact hK _ _ HA.out.1 HA.out.2.1 HA.out.2.2.1 ⟨_, rfl, blk_new _ _, HA.out.2.2.2⟩
  case body =>
    rintro l pre x a' W hl - hI ⟨g, rfl, hg, hgs⟩ hlen
    obtain ⟨vB, hv, hrow⟩ := hI.row
    have HI := (show Hid _ from hI)
    have HV := (show Hid _ from hv)
    have HRow := (show Hid (W.ownsRow (w.heap.size + 1) 47 3 vB pre.length (hflat pre)) from hrow)
    have cB : W.cell? ⟨w.heap.size, 0, none⟩ = some vB := by rw [cell_blk hv]; rfl
    have g0 : W.cell? ⟨g, 0, none⟩ = some (.int .i64 x.edge) := by rw [cell_blk hg]; rfl
    have g1 : W.cell? ⟨g, 1, none⟩ = some (.int .i64 x.thing) := by rw [cell_blk hg]; rfl
    have g2 : W.cell? ⟨g, 2, none⟩ = some (.bool x.free) := by rw [cell_blk hg]; rfl
    have Hk1 : Hid ((pre.length : Int) ≤ 1099511627777) := by have := HLen.out; show _ ≤ _; omega
    have Hbase : Hid (w.heap.size + 1 ≤ W.heap.size) := hI.size
    clear hI hv hrow hg hlen hgs hl
    gi_wp2_with (gi_at_builtin; refine append_hopA rfl _ _ rfl (w.heap.size + 1) vB pre.length _ rfl HRow x.edge x.thing x.free rfl Hk1 Hbase ?_; intro v3 W3 r1 r2 r3 r4
                 have hB3' : W3.heap[w.heap.size]? = some (.cells #[vB] 43 (0, 0)) := (r3.out.block _ (by omega)).trans HV.out
                 obtain ⟨cB3, fB3⟩ := box_facts hB3'
                 obtain ⟨sa, sn, sc, rfl⟩ : ∃ sa sn sc, v3 = .slice sa sn sc := by rcases r1.out.2 with ⟨e, -⟩ | ⟨g, cap, cur, e, -⟩ <;> exact ⟨_, _, _, e⟩)
    obtain ⟨p1, p2, p3⟩ := HcAt.push (n0 := w.heap.size) HI.out (Nat.le_refl _) (Nat.le_refl _) HV.out HRow.out r1.out r2.out r3.out r4.out
    exact ⟨p2.from _, p3, p1⟩
  case done =>
    rintro D xs W hD rfl hI hK
    obtain ⟨vB, hv, hrow⟩ := hI.row
    have cB : W.cell? ⟨w.heap.size, 0, none⟩ = some vB := by rw [cell_blk hv]; rfl
    have HI := (show Hid _ from hI)
    have HRow := (show Hid (W.ownsRow (w.heap.size + 1) 47 3 vB xs.length (hflat xs)) from hrow)
    clear hI hv hrow
    gi_wp2_with fail
    refine ⟨by simp, .inl ⟨_, _, rfl, run_takeDeferred hK, ?_⟩⟩
    refine ⟨_, results_tmp rfl _ _ _, vB, rfl, row_base3 (by omega) (row_from3 HRow.out (grownBy_putObj' W D _) (fun x e => by cases e; exact ⟨_, hK, rfl⟩)), ?_⟩
    exact (HI.out.grown (Nat.le_refl _) (grownBy_putObj' W D _) (fun x e => by cases e; exact ⟨by omega, _, hK, rfl⟩)).below
  case stop =>
    rintro D c pre W _ _ h _
    exact h.elim
theorem whops_W (w : World) (p : Nat) (a r : Int) : Calls Tryz.prog 25 #[.pointer (some ⟨p, 0, none⟩), .int .i64 a, .int .i64 r] w fun e w' => e = .returned (.func (.func 56) #[] #[.pointer (some ⟨w.heap.size + 1, 0, none⟩), .pointer (some ⟨w.heap.size, 0, none⟩), .pointer (some ⟨w.heap.size + 2, 0, none⟩)]) ∧
    w' = ((w.alloc (.cells #[.pointer (some ⟨p, 0, none⟩)] 31)).alloc (.cells #[.int .i64 a] 23)).alloc (.cells #[.int .i64 r] 24) := by
  go_enter Tryz.func25, Tryz.ntmps25
  go_wp2
  go_ret
  exact ⟨rfl, rfl⟩
/-- The boxes that hops makes. -/
theorem boxes3 {w : World} {p : Nat} {a r : Int} : ∃ w1, ((w.alloc (.cells #[.pointer (some ⟨p, 0, none⟩)] 31)).alloc (.cells #[.int .i64 a] 23)).alloc (.cells #[.int .i64 r] 24) = w1 ∧ Below w.heap.size w w1 ∧ w1.heap.size = w.heap.size + 3 ∧
    w1.cell? ⟨w.heap.size + 1, 0, none⟩ = some (.int .i64 a) ∧ (∃ cs e fr, w1.heap[w.heap.size]? = some (.cells cs e fr) ∧ cs[0]? = some (.pointer (some ⟨p, 0, none⟩))) ∧ w1.cell? ⟨w.heap.size + 2, 0, none⟩ = some (.int .i64 r) := by
  refine ⟨_, rfl, (((Below.refl _ _).alloc (Nat.le_refl _) _).alloc (by simp) _).alloc (by simp; omega) _, by simp, ?_, ⟨_, _, _, blk_old _ _ (blk_old _ _ (blk_new w _)), rfl⟩, ?_⟩
  · rw [cell_blk (blk_old _ _ (blkNew _ _ (by simp)))]; rfl
  · rw [cell_blk (blkNew _ _ (by simp))]; rfl
theorem colHop_W {w : World} {p : Nat} {M : WM} {Fw : Nat → Prop} {Bf Bw Br : Nat} {a0 r : Int} {l : List Int} {ys : List Hop} (hW : IsW w p M Fw)
    (hBf : w.cell? ⟨Bf, 0, none⟩ = some (.int .i64 a0)) (hBw : ∃ cs e fr, w.heap[Bw]? = some (.cells cs e fr) ∧ cs[0]? = some (.pointer (some ⟨p, 0, none⟩))) (hBr : w.cell? ⟨Br, 0, none⟩ = some (.int .i64 r))
    (hwhat : WhatOk p M Fw) (hr : (Lit.int .i64 r).wf = true) (hl : WayIs M r l) (ha : sideB M a0 = true) (hys : HopsIs M a0 l ys) (hlen : (ys.length : Int) ≤ 1099511627777) :
    Calls Tryz.prog 24 #[.func (.func 56) #[] #[.pointer (some ⟨Bf, 0, none⟩), .pointer (some ⟨Bw, 0, none⟩), .pointer (some ⟨Br, 0, none⟩)]] w fun e w' => ∃ v, e = .returned v ∧
      w'.ownsRow w.heap.size 47 3 v ys.length (hflat ys) ∧ Below w.heap.size w w' := by
  have h := collect_W hW hBf hBw hBr hwhat hr hl ha hys hlen
  go_enter Tryz.func24, Tryz.ntmps24
  go_wp2_with fail
  refine h.mono ?_
  rintro e w1 ⟨v, rfl, h1, h2⟩
  have H := (show Hid (w1.ownsRow w.heap.size 47 3 v ys.length (hflat ys) ∧ Below w.heap.size w w1) from ⟨h1, h2⟩)
  clear h1 h2 hys
  go_wp2_with fail
  go_ret
  exact ⟨v, rfl, H.out⟩
set_option maxRecDepth 8000 in
theorem wHops_W {w : World} {p : Nat} {M : WM} {Fw : Nat → Prop} {a r : Int} {l : List Int} {ys : List Hop} {t : Th} (hW : IsW w p M Fw) (hwhat : WhatOk p M Fw) (hr : (Lit.int .i64 r).wf = true) (ht : M.at r = some t) (hl : WayIs M r l) (ha : sideB M a = true) (hys : HopsIs M a l ys) (hlen : (ys.length : Int) ≤ 1099511627777) :
    Calls Tryz.prog 8 #[.pointer (some ⟨p, 0, none⟩), .int .i64 a, .int .i64 r] w fun e w' => ∃ v, e = .returned (.tuple #[v, .int .i64 0]) ∧ w'.ownsRow w.heap.size 47 3 v ys.length (hflat ys) ∧ Below w.heap.size w w' := by
  have h1 := wthere_W hW
  have h2 := wside_W hW a
  rw [ha] at h2
  have h3 := Is_W hW hr
  rw [ht] at h3
  have h4 := whops_W w p a r
  obtain ⟨w1, hw1, hb1, hs1, hbf, hbw, hbr⟩ := boxes3 (w := w) (p := p) (a := a) (r := r)
  rw [hw1] at h4
  have h5 := colHop_W (hW.below hb1) hbf hbw hbr hwhat hr hl ha hys hlen
  have HB := (show Hid (Below w.heap.size w w1) from hb1)
  clear hW hwhat hl hys hbf hbw hbr hw1 hb1
  go_enter Tryz.func8, Tryz.ntmps8
  go_wp2_with fail
  refine h1.mono ?_
  rintro e _ ⟨rfl, rfl⟩
  go_wp2_with fail
  refine h2.mono ?_
  rintro e _ ⟨rfl, rfl⟩
  go_wp2_with fail
  refine h3.mono ?_
  rintro e _ ⟨rfl, rfl⟩
  go_wp2_with fail
  refine h4.mono ?_
  rintro e _ ⟨rfl, rfl⟩
  go_wp2_with fail
  refine h5.mono ?_
  rintro e w2 ⟨v, rfl, k1, k2⟩
  have H : Hid (w2.ownsRow w.heap.size 47 3 v ys.length (hflat ys) ∧ Below w.heap.size w w2) := ⟨row_base3 HB.out.size k1, HB.out.trans (k2.mono HB.out.size)⟩
  clear k1 k2
  go_wp2_with fail
  go_ret2
  exact ⟨v, rfl, H.out⟩
end Go.Proofs.YtifmifjbebpomaaGreatDoor
