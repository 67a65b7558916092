/- A part of the proof, several texts in one: Things, Box. -/
import Derived.RangeFuncNested
import Derived.RangeFuncBound
import Derived.RangeFuncCalls
import Derived.RangeFuncLeaves
import Derived.RangeFuncFrom
import Derived.Shelf.Abstract
import Derived.Shelf.RegionOpen
import Derived.WalkKit
import Derived.OwnWalkIn
import Derived.TacticsInMore
import Derived.LoopNIn
import Derived.LoopIn
import Derived.Maps.OwnIn
import Derived.Test.YtifmifjbebpomaaGreatDoormAJ
import Derived.Test.YtifmifjbebpomaaGreatDoormAG
/- Things: the iterator over all things of a world, by its contract: for every loop body that keeps the cells that are not its own. -/
namespace Go.Proofs.YtifmifjbebpomaaGreatDoor
open Go.RowKit Go.Shelf Go.ChangeMaps Go.MapKept
attribute [local go_sem] Oper.semAt_some

/-- What a round keeps: all cells that are not the body's own; what is its own was so, or is new. -/
structure KpO (own : World → Nat → Prop) (W W' : World) : Prop where
  size : W.heap.size ≤ W'.heap.size
  cells : ∀ b cs e fr, W.heap[b]? = some (.cells cs e fr) → ¬ own W b → W'.heap[b]? = some (.cells cs e fr)
  own' : ∀ b, own W' b → own W b ∨ W.heap.size ≤ b
theorem KpO.trans {own : World → Nat → Prop} {A B C : World} (h : KpO own A B) (k : KpO own B C) : KpO own A C where
  size := Nat.le_trans h.size k.size
  cells := fun b cs e fr hb ho => k.cells b cs e fr (h.cells b cs e fr hb ho) (fun hB => by
    rcases h.own' b hB with h1 | h1
    · exact ho h1
    · have := (Array.getElem?_eq_some_iff.1 hb).1; omega)
  own' := fun b hb => by
    rcases k.own' b hb with h1 | h1
    · rcases h.own' b h1 with h2 | h2
      · exact .inl h2
      · exact .inr h2
    · have := h.size
      exact .inr (by omega)

theorem infoKind : (Tryz.prog.info? 69).map (fun i => (i.zero, i.size, i.bytes)) = some (some (.int .u8 0), 1, 1) := by kernel_rfl

theorem append_oneI {F : Fence} {nF : Nat} {P : Program} {w : World} {ops : Array Oper} {rest : List Oper} {o : Oper} {a : Act} {Q : Exit → Act → World → Prop} (hgd : o.guard = none) (s x : Operand) (t : TypeId)
    (ho : o.op = .call { callee := .builtin .append, args := #[s, x], argTypes := #[t, t] }) (base : Nat) (e : TypeId) (z : Value) (bytes : Nat) (ht : P.underlying t = some (.slice e))
    (hinfo : (P.info? e).map (fun i => (i.zero, i.size, i.bytes)) = some (some z, 1, bytes)) (hzs : z.cells.size = 1)
    (v : Value) (n : Nat) (xs : List Value) (hs : a.eval s = v) (hown : Hid (w.ownsRow base e 1 v n xs)) (y : Value) (hx : a.eval x = .slice (some ⟨w.heap.size, 0, none⟩) 1 1) (hy : y.oneCell' = true)
    (hn : Hid ((n : Int) ≤ 1099511627777)) (hb : bytes ≤ 64) (hbase : Hid (base ≤ w.heap.size))
    (h : ∀ v' w', Hid (w'.ownsRow base e 1 v' (n + 1) (xs ++ [y])) → Hid (w.grownBy w' v.ownBlock) → Hid (Below base w w') → wpListIn F nF P ops Q rest (a.put o.dst v') w') : wpListIn F nF P ops Q (o :: rest) a (w.alloc (.cells #[y] e)) := by
  obtain ⟨i, hi, hz, h1, h2⟩ := info_parts hinfo
  have hn' := hn.out
  have hb2 : (n + 1) * bytes ≤ (n + 1) * 64 := Nat.mul_le_mul_left _ hb
  refine wpListIn_append_own _ hgd s x t ho base e i z 1 bytes ht hi hz h1 h2 hzs (by decide) v n xs hs (hown.out.alloc _) ⟨w.heap.size, 0, none⟩ 1 1 [y] hx rfl (cell_one_new _ _ _) (by simp [hy]) (by unfold maxLen; omega) (by omega) (by have := hbase.out; simp; omega) ?_
  intro v' w' r1 r2 _
  have hg : w.grownBy w' v.ownBlock := (World.grownBy_alloc w _ _).trans r2
  exact h v' w' r1 hg ⟨hg.os, hg.tape, hg.output, hg.size, fun k hk => hg.block k (by have := hbase.out; omega) (fun e => by have := hown.out.lt k e.symm; omega)⟩
/-- Rows of two kinds of elements are two blocks. -/
theorem row_ne_row {w : World} {base base' n n' : Nat} {e e' : TypeId} {v v' : Value} {xs xs' : List Value} (hne : e ≠ e') (h : w.ownsRow base e 1 v n xs) (h' : w.ownsRow base' e' 1 v' n' xs') : v.ownBlock = none ∨ v.ownBlock ≠ v'.ownBlock := by
  rcases h.2 with ⟨rfl, -⟩ | ⟨g, cap, cur, rfl, -, hb, -⟩
  · exact .inl rfl
  · right
    rcases h'.2 with ⟨rfl, -⟩ | ⟨g', cap', cur', rfl, -, hb', -⟩
    · simp [Value.ownBlock]
    · simp only [Value.ownBlock, ne_eq, Option.some.injEq]
      rintro rfl
      rw [hb] at hb'
      injection hb' with hb'
      injection hb' with _ he
      exact hne he

theorem grownBy_of_below {A B : World} (h : Below A.heap.size A B) : A.grownBy B none := ⟨h.os, h.tape, h.output, h.size, fun k hk _ => h.block k hk⟩
theorem row_KpO {own : World → Nat → Prop} {A B : World} {base g n cap : Nat} {e : TypeId} {xs : List Value} (h : A.ownsRow base e 1 (.slice (some ⟨g, 0, none⟩) n cap) n xs) (hk : KpO own A B) (ho : ¬ own A g) :
    B.ownsRow base e 1 (.slice (some ⟨g, 0, none⟩) n cap) n xs := by
  refine ⟨h.1, ?_⟩
  rcases h.2 with ⟨h0, -⟩ | ⟨g', cap', cur, h0, hb, hg, rest⟩
  · cases h0
  · cases h0
    exact .inr ⟨g, cap, cur, rfl, hb, hk.cells _ _ _ _ hg ho, rest⟩
theorem measure_down {n k : Nat} (h : k < n) : n - ((k : Int) + 1).toNat < n - (k : Int).toNat := by omega

set_option maxHeartbeats 4000000 in
set_option maxRecDepth 100000 in
theorem things1_seq {w0 : World} {p : Nat} {M : WM} {Fw : Nat → Prop} {Bx n : Nat} (hW0 : IsW w0 p M Fw) (hBx : w0.cell? ⟨Bx, 0, none⟩ = some (.pointer (some ⟨p, 0, none⟩))) (own : World → Nat → Prop)
    (hown0 : ∀ W, Below w0.heap.size w0 W → ∀ b, own W b → b < w0.heap.size)
    {β : Type} (f : β → Int × Th) (ys : List β) (hys : ys.map f = M.things) :
    SeqStopsK Fence.wide n Tryz.prog 79 #[.pointer (some ⟨Bx, 0, none⟩)] (fun y : β => #[.int .i64 (f y).1, .int .u8 (f y).2.kind]) (KpO own) (fun xs => xs = ys) (fun pre => pre <+: ys) M.things.length w0 := by
  intro l J Jx W hWb hJ hJx hY h0
  have HW0 := (show Hid (IsW w0 p M Fw) from hW0)
  have HW : Hid (IsW W p M Fw) := hW0.below hWb
  have hbx : W.cell? ⟨Bx, 0, none⟩ = some (.pointer (some ⟨p, 0, none⟩)) := (hWb.cell (p := ⟨Bx, 0, none⟩) (World.block_lt_of_cell? _ _ hBx)).trans hBx
  have HWb := (show Hid (Below w0.heap.size w0 W) from hWb)
  have HBx : Hid (∀ W', Below W.heap.size W W' → W'.cell? ⟨Bx, 0, none⟩ = some (.pointer (some ⟨p, 0, none⟩))) := fun W' hb => (hb.cell (p := ⟨Bx, 0, none⟩) (World.block_lt_of_cell? _ _ hbx)).trans hbx
  have HJ := (show Hid (AbidesFrom W.heap.size J) from hJ)
  have HY := (show Hid _ from hY)
  have H0 := (show Hid (J [] W) from h0)
  have Ho := (show Hid _ from hown0)
  have Hys := (show Hid (ys.map f = M.things ∧ ys.length = M.things.length) from ⟨hys, by rw [← hys, List.length_map]⟩)
  clear hW0 hBx hWb hJ hY h0 hown0 hys
  refine callsIn_of_wp Tryz.func79 rfl trivial ?_ rfl
  simp only [Tryz.ntmps79, List.size_toArray, List.length_cons, List.length_nil, Nat.reduceAdd, Nat.reduceSub, Array.replicate_succ, Array.replicate_zero, List.push_toArray, List.append_toArray, List.nil_append, List.cons_append]
  gi_wp2_with fail
  refine ⟨trivial, (fun h => by cases h), (callsIn_wide.2 (none_W HW.out)).mono ?_⟩
  rintro e _ ⟨rfl, rfl⟩
  gi_wp2_with fail
  refine ⟨trivial, (fun h => by cases h), (callsIn_wide.2 (refs_W HW.out)).mono ?_⟩
  rintro e w1 ⟨g, cap, rfl, hrow, hb1⟩
  have HR1 : Hid (w1.ownsRow W.heap.size 24 1 (.slice (some ⟨g, 0, none⟩) M.things.length cap) M.things.length ((M.things.map (·.1)).map (Value.int .i64))) := hrow
  have HB1 := (show Hid (Below W.heap.size W w1) from hb1)
  clear hrow hb1
  have hlen := HW.out.ok.len_le
  have hlast := HW.out.ok.last.2
  have HN : Hid ((M.things.length : Int) ≤ 1099511627776) := by show _ ≤ _; omega
  have hg1 := HR1.out.lt g rfl
  have HG1 := (show Hid (W.heap.size ≤ g ∧ g < w1.heap.size) from hg1)
  clear hlen hlast hg1
  gi_wp2_with fail
  gi_loopw [3, 4, 14] (fun v3 v4 vi wr => ∃ k : Nat, vi = .int .i64 k ∧ k ≤ M.things.length ∧ Hid (wr.ownsRow w1.heap.size 24 1 v3 k ((M.things.take k).map fun x => Value.int .i64 x.1)) ∧ Hid (wr.ownsRow w1.heap.size 69 1 v4 k ((M.things.take k).map fun x => Value.int .u8 x.2.kind)) ∧
      Hid (wr.ownsRow W.heap.size 24 1 (.slice (some ⟨g, 0, none⟩) M.things.length cap) M.things.length ((M.things.map (·.1)).map (Value.int .i64))) ∧ Hid (Below W.heap.size W wr) ∧ Hid (w1.heap.size ≤ wr.heap.size)) (fun _ _ vi _ => M.things.length - (intOf vi).toNat)
  case atStart => exact ⟨0, rfl, Nat.zero_le _, World.ownsRow_nil _ _ _ _, World.ownsRow_nil _ _ _ _, HR1.out, HB1.out, Nat.le_refl _⟩
  case round =>
    obtain ⟨k, rfl, hk, H3, H4, HR, HB, HS⟩ := hrel
    by_cases hkm : k < M.things.length
    · have hkz : (k : Int) < (M.things.length : Int) := by omega
      obtain ⟨x, hx⟩ : ∃ x, M.things[k]? = some x := ⟨_, List.getElem?_eq_getElem hkm⟩
      have hat : M.at x.1 = some x.2 := HW.out.ok.at_of_mem (List.mem_of_getElem? hx)
      have Hat := (show Hid (M.at x.1 = some x.2) from hat)
      have Htk : Hid (M.things.take (k + 1) = M.things.take k ++ [x]) := by show _ = _; rw [List.take_add_one, hx]; rfl
      have hcx : wr.cell? ⟨g, k, none⟩ = some (.int .i64 x.1) := by
        have := HR.out.cellAt k (by omega)
        rw [this]
        simp [hx]
      have Hk1 : Hid ((k : Int) ≤ 1099511627777) := by have := HN.out; show _ ≤ _; omega
      have hwx := HW.out.ok.at_wf hat
      have Hwx := (show Hid _ from hwx)
      clear hx hat hwx
      have hwk : wrap64 ((k : Int) + 1) = (k : Int) + 1 := by have := HN.out; unfold wrap64; omega
      gi_wp2_with (first
        | (gi_at_builtin; refine append_oneI rfl _ _ 112 rfl w1.heap.size 24 (.int .i64 0) 8 Tryz.underlying112 infoRef rfl _ k _ rfl H3 (.int .i64 x.1) rfl rfl Hk1 (by decide) HS ?_; intro v3' w2 r1 r2 r3
           have HB2 : Hid (Below W.heap.size W w2) := HB.out.trans (r3.out.mono HB1.out.size)
           have q1 := HBx.out w2 HB2.out
           have HV2 := (show Hid (∃ pa pc cg cc mg mc tb fb fn bl, WV w2 p M Fw pa pc cg cc mg mc tb fb fn bl) from HW.out.below HB2.out)
           obtain ⟨tb, hc2, b0, hlk, hk0⟩ : ∃ tb, w2.cell? ⟨p, 2, none⟩ = some (.map (some tb)) ∧ ∃ b0, (Instr.lookup 34 (.map (some tb)) (.int .i64 x.1) false).run Tryz.prog w2 = .ok (.pointer (some ⟨b0, 0, none⟩)) w2 ∧ w2.cell? ⟨b0, 0, none⟩ = some (.int .u8 x.2.kind) := by
             obtain ⟨pa, pc, cg, cc, mg, mc, tb, fb, fn, bl, hV⟩ := HV2.out
             have hlk := hV.look Hwx.out
             rw [Hat.out] at hlk
             exact ⟨tb, hV.c2, bl x.1, hlk, (thc_cell (hV.blk _ _ Hat.out).1).1⟩
           have H4' : Hid (w2.ownsRow w1.heap.size 69 1 u4 k ((M.things.take k).map fun x => Value.int .u8 x.2.kind)) := World.ownsRow.kept H4.out r2.out (row_ne_row (by decide) H4.out H3.out)
           have HR' : Hid (w2.ownsRow W.heap.size 24 1 (.slice (some ⟨g, 0, none⟩) M.things.length cap) M.things.length ((M.things.map (·.1)).map (Value.int .i64))) := World.ownsRow.kept HR.out r2.out (.inr (fun e => by have := H3.out.lt g e.symm; have := HG1.out; omega))
           have HS2 : Hid (w1.heap.size ≤ w2.heap.size) := Nat.le_trans HS.out r3.out.size)
        | (gi_at_builtin; refine append_oneI rfl _ _ 175 rfl w1.heap.size 69 (.int .u8 0) 1 Tryz.underlying175 infoKind rfl _ k _ rfl H4' (.int .u8 x.2.kind) rfl rfl Hk1 (by decide) HS2 ?_; intro v4' w3 s1 s2 s3))
      have HB3 : Hid (Below W.heap.size W w3) := HB2.out.trans (s3.out.mono HB1.out.size)
      have H3' : Hid (w3.ownsRow w1.heap.size 24 1 v3' (k + 1) ((M.things.take (k + 1)).map fun x => Value.int .i64 x.1)) := by
        show World.ownsRow _ _ _ _ _ _ _
        rw [Htk.out, List.map_append]
        exact World.ownsRow.kept r1.out s2.out (row_ne_row (by decide) r1.out H4'.out)
      have H4'' : Hid (w3.ownsRow w1.heap.size 69 1 v4' (k + 1) ((M.things.take (k + 1)).map fun x => Value.int .u8 x.2.kind)) := by
        show World.ownsRow _ _ _ _ _ _ _
        rw [Htk.out, List.map_append]
        exact s1.out
      have HR'' : Hid (w3.ownsRow W.heap.size 24 1 (.slice (some ⟨g, 0, none⟩) M.things.length cap) M.things.length ((M.things.map (·.1)).map (Value.int .i64))) := World.ownsRow.kept HR'.out s2.out (.inr (fun e => by have := H4'.out.lt g e.symm; have := HG1.out; omega))
      have HS3 : Hid (w1.heap.size ≤ w3.heap.size) := Nat.le_trans HS2.out s3.out.size
      go_roundw
      case rel => exact ⟨k + 1, by go_num, by omega, H3', H4'', HR'', HB3, HS3⟩
      case measure => rw [hwk]; exact measure_down hkm
    · have hkz : ¬ (k : Int) < (M.things.length : Int) := by omega
      obtain rfl : k = M.things.length := by omega
      rw [List.take_length] at H3 H4
      have HB1' := HB
      rcases H3.out.2 with ⟨rfl, h30⟩ | ⟨g3, cap3, cur3, rfl, hl3, hb3, ha3⟩
      · have Hl0 : Hid (ys = []) := List.eq_nil_of_length_eq_zero (Hys.out.2.trans h30)
        have hJr : Hid (J [] wr) := HJ.out [] W wr none H0.out (grownBy_of_below HB.out) (fun r h => by cases h)
        have hkz0 : ¬ (0 : Int) < ((M.things.length : Nat) : Int) := by omega
        clear h30 hkz
        gi_wp2_with fail
        gi_loopw [37] (fun vi w2 => vi = .int .i64 0 ∧ Hid (J [] w2)) (fun _ _ => 0)
        case atStart => exact ⟨rfl, hJr⟩
        case round =>
          obtain ⟨rfl, hJs⟩ := hrel
          gi_wp2_with fail
          go_end0
          exact ⟨⟨_, rfl⟩, .inl (by first | exact ⟨ys, rfl, by rw [Hl0.out]; exact hJs⟩ | (rw [Hl0.out]; exact hJs))⟩
      · rcases H4.out.2 with ⟨rfl, h40⟩ | ⟨g4, cap4, cur4, rfl, hl4, hb4, ha4⟩
        · have Hl0 : Hid (ys = []) := List.eq_nil_of_length_eq_zero (Hys.out.2.trans h40)
          have hJr : Hid (J [] wr) := HJ.out [] W wr none H0.out (grownBy_of_below HB.out) (fun r h => by cases h)
          have hkz0 : ¬ (0 : Int) < ((M.things.length : Nat) : Int) := by omega
          clear h40 hkz hl3 hb3 ha3
          gi_wp2_with fail
          gi_loopw [37] (fun vi w2 => vi = .int .i64 0 ∧ Hid (J [] w2)) (fun _ _ => 0)
          case atStart => exact ⟨rfl, hJr⟩
          case round =>
            obtain ⟨rfl, hJs⟩ := hrel
            gi_wp2_with fail
            go_end0
            exact ⟨⟨_, rfl⟩, .inl (by first | exact ⟨ys, rfl, by rw [Hl0.out]; exact hJs⟩ | (rw [Hl0.out]; exact hJs))⟩
        · have hg3 := H3.out.lt g3 rfl
          have hg4 := H4.out.lt g4 rfl
          have HG3 := (show Hid (w1.heap.size ≤ g3 ∧ g3 < wr.heap.size) from hg3)
          have HG4 := (show Hid (w1.heap.size ≤ g4 ∧ g4 < wr.heap.size) from hg4)
          have hJr : Hid (J [] wr) := HJ.out [] W wr none H0.out (grownBy_of_below HB.out) (fun r h => by cases h)
          have Ho1 : Hid (∀ b, own wr b → b < w0.heap.size ∨ wr.heap.size ≤ b) := fun b hb => .inl (Ho.out wr (HWb.out.trans (HB.out.mono HWb.out.size)) b hb)
          clear hl3 hb3 ha3 hl4 hb4 ha4 hg3 hg4 hkz
          gi_wp2_with fail
          gi_loopw [37] (fun vi w2 => ∃ k : Nat, vi = .int .i64 k ∧ k ≤ M.things.length ∧ Hid (J (ys.take k) w2) ∧ Hid (w2.ownsRow w1.heap.size 24 1 (.slice (some ⟨g3, 0, none⟩) M.things.length cap3) M.things.length (M.things.map fun x => .int .i64 x.1)) ∧
              Hid (w2.ownsRow w1.heap.size 69 1 (.slice (some ⟨g4, 0, none⟩) M.things.length cap4) M.things.length (M.things.map fun x => .int .u8 x.2.kind)) ∧ Hid (∀ b, own w2 b → b < w0.heap.size ∨ wr.heap.size ≤ b) ∧ Hid (wr.heap.size ≤ w2.heap.size)) (fun vi _ => M.things.length - (intOf vi).toNat)
          case atStart => exact ⟨0, rfl, Nat.zero_le _, hJr, H3.out, H4.out, Ho1.out, Nat.le_refl _⟩
          case round =>
            obtain ⟨k, rfl, hk2, HJk, K3, K4, Ho2, HS2⟩ := hrel
            by_cases hkm2 : k < M.things.length
            · have hkz : (k : Int) < (M.things.length : Int) := by omega
              obtain ⟨y, hy0⟩ : ∃ y, ys[k]? = some y := ⟨_, List.getElem?_eq_getElem (by rw [Hys.out.2]; exact hkm2)⟩
              have Htk : Hid (ys.take (k + 1) = ys.take k ++ [y]) := by show _ = _; rw [List.take_add_one, hy0]; rfl
              have hx : M.things[k]? = some (f y) := by rw [← Hys.out.1, List.getElem?_map, hy0]; rfl
              have hwk : wrap64 ((k : Int) + 1) = (k : Int) + 1 := by have := HN.out; unfold wrap64; omega
              have hc3 : wr.cell? ⟨g3, k, none⟩ = some (.int .i64 (f y).1) := by
                have := K3.out.cellAt k (by omega)
                rw [this]
                simp [hx]
              have hc4 : wr.cell? ⟨g4, k, none⟩ = some (.int .u8 (f y).2.kind) := by
                have := K4.out.cellAt k (by omega)
                rw [this]
                simp [hx]
              obtain ⟨fn, tmps, assign, body, hy, hR⟩ := HY.out (ys.take k) y wr HJk.out (by rw [List.length_take, Hys.out.2]; omega)
              clear hx hy0
              gi_wp2_with fail
              refine ⟨(fun h => by cases h), hR.mono ?_⟩
              rintro e W3 (⟨rfl, hJ3, hk3⟩ | ⟨rfl, hJx3⟩)
              · gi_wp2_with fail
                go_roundw
                case rel =>
                  refine ⟨k + 1, by go_num, by omega, by show J _ _; rw [Htk.out]; exact hJ3, row_KpO K3.out hk3 ?_, row_KpO K4.out hk3 ?_, ?_, Nat.le_trans HS2.out hk3.size⟩
                  · intro hb; have := Ho2.out _ hb; have := HG3.out; have := HB1.out.size; have := HWb.out.size; omega
                  · intro hb; have := Ho2.out _ hb; have := HG4.out; have := HB1.out.size; have := HWb.out.size; omega
                  · intro b hb
                    rcases hk3.own' b hb with h | h
                    · exact Ho2.out b h
                    · have := HS2.out; exact .inr (by omega)
                case measure => rw [hwk]; exact measure_down hkm2
              · gi_wp2_with fail
                refine bodyPost_ret (results_none rfl _ _ _) rfl ?_
                exact ⟨⟨_, rfl⟩, .inr ⟨ys.take k ++ [y], by rw [← Htk.out]; exact List.take_prefix _ _, hJx3⟩⟩
            · have hkz : ¬ (k : Int) < (M.things.length : Int) := by omega
              obtain rfl : k = M.things.length := by omega
              gi_wp2_with fail
              go_end0
              exact ⟨⟨_, rfl⟩, .inl (by have := HJk.out; rw [← Hys.out.2, List.take_length] at this; first | exact this | exact ⟨ys, rfl, this⟩)⟩
end Go.Proofs.YtifmifjbebpomaaGreatDoor
/- What walks over Things want, whatever their body: boxes, boxed lists, what a round keeps. -/
namespace Go.Proofs.YtifmifjbebpomaaGreatDoor
open Go.RowKit Go.Shelf Go.ChangeMaps Go.MapKept
attribute [local go_sem] Oper.semAt_some

theorem boxed_what (w1 : World) (xs : Array Value) (hs : xs.size = 16) (h1 : xs.all (·.oneCell') = true) :
    (stW (.pointer (some ⟨w1.heap.size, 0, none⟩)) (.agg xs)).run Tryz.prog (w1.alloc (.cells #[.int .u8 0, .int .i64 0, .int .u8 0, .int .i64 0, .string ⟨#[]⟩, .slice none 0 0, .int .i64 0, .slice none 0 0, .int .i64 0, .int .i64 0, .int .i64 0, .int .i64 0, .int .u8 0, .bool false, .slice none 0 0, .slice none 0 0] 73)) = .ok .skip ((w1.alloc (.cells #[.int .u8 0, .int .i64 0, .int .u8 0, .int .i64 0, .string ⟨#[]⟩, .slice none 0 0, .int .i64 0, .slice none 0 0, .int .i64 0, .int .i64 0, .int .i64 0, .int .i64 0, .int .u8 0, .bool false, .slice none 0 0, .slice none 0 0] 73)).setRow w1.heap.size xs) ∧
    Below w1.heap.size w1 ((w1.alloc (.cells #[.int .u8 0, .int .i64 0, .int .u8 0, .int .i64 0, .string ⟨#[]⟩, .slice none 0 0, .int .i64 0, .slice none 0 0, .int .i64 0, .int .i64 0, .int .i64 0, .int .i64 0, .int .u8 0, .bool false, .slice none 0 0, .slice none 0 0] 73)).setRow w1.heap.size xs) ∧
    ((w1.alloc (.cells #[.int .u8 0, .int .i64 0, .int .u8 0, .int .i64 0, .string ⟨#[]⟩, .slice none 0 0, .int .i64 0, .slice none 0 0, .int .i64 0, .int .i64 0, .int .i64 0, .int .i64 0, .int .u8 0, .bool false, .slice none 0 0, .slice none 0 0] 73)).setRow w1.heap.size xs).heap[w1.heap.size]? = some (.cells xs 73 (0, 0)) :=
  ⟨storeWhat_blk (blk_new w1 _) rfl hs h1, Below.setRow ((Below.refl _ _).alloc (Nat.le_refl _) _) (Nat.le_refl _) _, heap_setRow_at (blk_new w1 _)⟩

theorem Things_W (w : World) (p : Nat) : Calls Tryz.prog 44 #[.pointer (some ⟨p, 0, none⟩)] w fun e w' => e = .returned (.func (.func 79) #[] #[.pointer (some ⟨w.heap.size, 0, none⟩)]) ∧ w' = w.alloc (.cells #[.pointer (some ⟨p, 0, none⟩)] 31) := by
  go_enter Tryz.func44, Tryz.ntmps44
  go_wp2
  go_ret
  exact ⟨rfl, rfl⟩

theorem boxed_what' (w1 : World) (xs : Array Value) (hs : xs.size = 16) (h1 : xs.all (·.oneCell') = true) :
    ∃ w2, (stW (.pointer (some ⟨w1.heap.size, 0, none⟩)) (.agg xs)).run Tryz.prog (w1.alloc (.cells #[.int .u8 0, .int .i64 0, .int .u8 0, .int .i64 0, .string ⟨#[]⟩, .slice none 0 0, .int .i64 0, .slice none 0 0, .int .i64 0, .int .i64 0, .int .i64 0, .int .i64 0, .int .u8 0, .bool false, .slice none 0 0, .slice none 0 0] 73)) = .ok .skip w2 ∧
      Below w1.heap.size w1 w2 ∧ w2.heap[w1.heap.size]? = some (.cells xs 73 (0, 0)) ∧ w2.heap.size = w1.heap.size + 1 := by
  obtain ⟨a, b, c⟩ := boxed_what w1 xs hs h1
  exact ⟨_, a, b, c, by simp⟩

/-- The blocks that a boxed list is held in. -/
def boxOwn (B : Nat) (W : World) (b : Nat) : Prop := b = B ∨ ∃ v, W.cell? ⟨B, 0, none⟩ = some v ∧ v.ownBlock = some b
theorem row_from {W W' : World} {row : Option Nat} {base : Nat} {e : TypeId} {v : Value} {k : Nat} {xs : List Value} (h : W.ownsRow base e 1 v k xs) (hg : W.grownBy W' row)
    (hr : ∀ r, row = some r → ∃ o : Obj, W.heap[r]? = some o ∧ o.isCells = false) : W'.ownsRow base e 1 v k xs := by
  refine h.kept hg ?_
  rcases h.2 with ⟨rfl, _⟩ | ⟨g, cap, cur, rfl, _, hgb, _⟩
  · exact .inl rfl
  · refine .inr fun e' => ?_
    obtain ⟨o, ho, hc⟩ := hr g e'.symm
    rw [hgb] at ho
    cases ho
    cases hc
theorem boxOwn_put {B n : Nat} (hB : B < n) (W : World) (l : Nat) (o o' : Obj) (hl : n ≤ l) (ho : W.heap[l]? = some o) (hc : o.isCells = false) : KpO (boxOwn B) W (W.putObj l o') where
  size := by simp
  cells := fun b cs e fr hb _ => (World.putObj_heap_other (fun h => by subst h; rw [hb] at ho; cases ho; cases hc)).trans hb
  own' := fun b hb => by
    rcases hb with rfl | ⟨v, hv, hb⟩
    · exact .inl (.inl rfl)
    · have : (W.putObj l o').cell? ⟨B, 0, none⟩ = W.cell? ⟨B, 0, none⟩ := World.cell?_of_block (World.putObj_heap_other (by show B ≠ l; omega))
      exact .inl (.inr ⟨v, this ▸ hv, hb⟩)
theorem KpO.refl (own : World → Nat → Prop) (W : World) : KpO own W W := ⟨Nat.le_refl _, fun _ _ _ _ h _ => h, fun _ h => .inl h⟩
theorem keepsOthers_of_below {A B : World} (h : Below A.heap.size A B) : KeepsOthers A B := ⟨h.size, fun x _ ho _ => (h.block x (blk_lt ho)).trans ho⟩
theorem append_oneA {F : Fence} {nF : Nat} {P : Program} {w : World} {ops : Array Oper} {rest : List Oper} {o : Oper} {a : Act} {Q : Exit → Act → World → Prop} (hgd : o.guard = none) (s x : Operand) (t : TypeId)
    (ho : o.op = .call { callee := .builtin .append, args := #[s, x], argTypes := #[t, t] }) (base : Nat) (e : TypeId) (z : Value) (bytes : Nat) (ht : P.underlying t = some (.slice e))
    (hinfo : (P.info? e).map (fun i => (i.zero, i.size, i.bytes)) = some (some z, 1, bytes)) (hzs : z.cells.size = 1)
    (v : Value) (n : Nat) (xs : List Value) (hs : a.eval s = v) (hown : Hid (w.ownsRow base e 1 v n xs)) (y : Value) (hx : a.eval x = .slice (some ⟨w.heap.size, 0, none⟩) 1 1) (hy : y.oneCell' = true)
    (hn : Hid ((n : Int) ≤ 1099511627777)) (hb : bytes ≤ 64) (hbase : Hid (base ≤ w.heap.size))
    (h : ∀ v' w', Hid (w'.ownsRow base e 1 v' (n + 1) (xs ++ [y])) → Hid (w.grownBy w' v.ownBlock) → Hid (Below base w w') → Hid (v'.ownBlock = v.ownBlock ∨ v'.ownBlock = some (w.heap.size + 1)) → wpListIn F nF P ops Q rest (a.put o.dst v') w') : wpListIn F nF P ops Q (o :: rest) a (w.alloc (.cells #[y] e)) := by
  obtain ⟨i, hi, hz, h1, h2⟩ := info_parts hinfo
  have hn' := hn.out
  have hb2 : (n + 1) * bytes ≤ (n + 1) * 64 := Nat.mul_le_mul_left _ hb
  refine wpListIn_append_own_at _ hgd s x t ho base e i z 1 bytes ht hi hz h1 h2 hzs (by decide) v n xs hs (hown.out.alloc _) ⟨w.heap.size, 0, none⟩ 1 1 [y] hx rfl (cell_one_new _ _ _) (by simp [hy]) (by unfold maxLen; omega) (by omega) (by have := hbase.out; simp; omega) ?_
  intro v' w' r1 r2 _ r4
  have hg : w.grownBy w' v.ownBlock := (World.grownBy_alloc w _ _).trans r2
  exact h v' w' r1 hg ⟨hg.os, hg.tape, hg.output, hg.size, fun k hk => hg.block k (by have := hbase.out; omega) (fun e => by have := hown.out.lt k e.symm; omega)⟩ (by show _ ∨ _; simpa using r4)
theorem heap_setCell_box {W : World} {B : Nat} {v : Value} {t : TypeId} (v' : Value) (h : W.heap[B]? = some (.cells #[v] t (0, 0))) : (W.setCell ⟨B, 0, none⟩ v').heap[B]? = some (.cells #[v'] t (0, 0)) := by
  obtain ⟨hlt, hk⟩ := Array.getElem?_eq_some_iff.1 h
  show (W.heap.modify B _)[B]? = _
  rw [Array.getElem?_eq_getElem (by rw [Array.size_modify]; exact hlt), Array.getElem_modify_self, hk]
  rfl
theorem KpO_of_below {B : Nat} {W W' : World} (hB : B < W.heap.size) (h : Below W.heap.size W W') : KpO (boxOwn B) W W' where
  size := h.size
  cells := fun b _ _ _ hb _ => (h.block b (blk_lt hb)).trans hb
  own' := fun b hb => by
    rcases hb with rfl | ⟨v, hv, hb⟩
    · exact .inl (.inl rfl)
    · have : W'.cell? ⟨B, 0, none⟩ = W.cell? ⟨B, 0, none⟩ := World.cell?_of_block (h.block B hB)
      exact .inl (.inr ⟨v, this ▸ hv, hb⟩)
theorem box_facts {W : World} {B : Nat} {v : Value} {t : TypeId} (h : W.heap[B]? = some (.cells #[v] t (0, 0))) : W.cell? ⟨B, 0, none⟩ = some v ∧ W.frozen? ⟨B, 0, none⟩ = false := by
  constructor <;> simp [World.cell?, World.frozen?, h]
theorem row_base {W : World} {base base' : Nat} {e : TypeId} {v : Value} {k : Nat} {xs : List Value} (hb : base' ≤ base) (h : W.ownsRow base e 1 v k xs) : W.ownsRow base' e 1 v k xs := by
  refine ⟨h.1, ?_⟩
  rcases h.2 with h0 | ⟨g, cap, cur, h0, h1, h2⟩
  · exact .inl h0
  · exact .inr ⟨g, cap, cur, h0, Nat.le_trans hb h1, h2⟩
end Go.Proofs.YtifmifjbebpomaaGreatDoor
