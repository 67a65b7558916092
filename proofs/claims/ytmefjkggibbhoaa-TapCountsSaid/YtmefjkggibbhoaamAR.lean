/- A part of the proof, several texts in one: Lives, Things, Rules. -/
import Derived.Test.YtmefjkggibbhoaamAE
import Derived.Test.YtmefjkggibbhoaamAP
import Derived.Test.YtmefjkggibbhoaamAQ
import Derived.Test.YtmefjkggibbhoaamAL
import Derived.Test.YtmefjkggibbhoaamAK
import Derived.Test.YtmefjkggibbhoaamAF
import Derived.Deep.QuietTactic
import Derived.BigQuiet
import Derived.RangeFuncNested
import Derived.RangeFuncBound
import Derived.RangeFuncCalls
import Derived.RangeFuncLeaves
import Derived.RangeFuncFrom
import Derived.Shelf.Abstract
import Derived.Shelf.RegionOpen
import Derived.WalkKit
import Derived.OwnWalkIn
import Derived.TacticsInMore
import Derived.LoopNIn
import Derived.LoopIn
import Derived.Maps.OwnIn
import Derived.Test.YtmefjkggibbhoaamAI
import Derived.StillTailTactics
/- lives of posternlaw07: it is true. -/
namespace Go.Proofs.Ytmefjkggibbhoaa
open Go.RowKit Go.ChangeMaps Go.MapKept

def LM0 : WM := WM.new [0, 0, 1]
def LM1 : WM := LM0.add (lt 1 1 1 7 0 0 0 0 0 false)
def LM2 : WM := LM1.add (ft 1 1)
def LM3 : WM := LM2.cutE 1

theorem ltree : TreeOk [0, 0, 1] := ⟨by decide, fun i p h => by
  match i, h with
  | 0, h => simp at h; omega
  | 1, h => simp at h; omega
  | 2, h => simp at h; omega⟩
theorem lnotree : ¬ TreeOk [0, 2] := fun h => by
  have := (h.2 1 2 rfl).2
  omega
theorem ladd : AddOk LM0 (lt 1 1 1 7 0 0 0 0 0 false) where
  wf := ⟨by show (1 : Int) ≤ 1 ∧ (1 : Int) ≤ 16; decide, rfl, rfl, by show (0 : Int) ≤ 0 ∧ (0 : Int) ≤ 255; decide⟩
  last := by decide
  home := fun _ => by decide
  made := fun _ => by decide
  wrap := fun h => absurd h (by decide)
  gate := fun h => absurd h (by decide)
  purse := fun h => absurd h (by decide)
  facet := fun h => absurd h (by decide)
theorem lable1 : AbleIs LM1 63 1 3 := AbleIs.mk_base (t := lt 1 1 1 7 0 0 0 0 0 false) rfl (by decide) (by decide)
theorem lable2 : AbleIs LM2 63 1 3 := AbleIs.mk_base (t := lt 1 1 1 7 0 0 0 0 0 false) rfl (by decide) (by decide)
theorem lable3 : AbleIs LM3 63 2 1 := AbleIs.mk_facet (t := ft 1 1) rfl rfl (AbleIs.mk_base (t := lt 1 1 1 7 0 0 0 0 0 false) rfl (by decide) (by decide))
theorem lway : WayIs LM3 2 [2, 1] := WayIs.mk_wrap (t := ft 1 1) rfl rfl (WayIs.mk_base (t := lt 1 1 1 7 0 0 0 0 0 false) rfl rfl)
theorem lfree0 : freeL LM3 0 [2, 1] = false := by decide
theorem lfree3 : freeL LM3 3 [2, 1] = true := by decide
theorem lfind1 : LM1.find 1 1 = none := by decide
theorem lfind2 : LM2.find 1 1 = some 2 := by decide
theorem lall : ∀ x ∈ ([2, 1] : List Int), ∃ t, LM3.at x = some t ∧ t.kind ≠ 15 := by
  intro x hx
  simp only [List.mem_cons, List.not_mem_nil, or_false] at hx
  rcases hx with rfl | rfl
  · exact ⟨ft 1 1, rfl, by decide⟩
  · exact ⟨lt 1 1 1 7 0 0 0 0 0 false, rfl, by decide⟩

/-- A world of the call's own: all of it lies above what was there. -/
def Own (w0 w : World) (p : Nat) (M : WM) : Prop := ∃ F, IsW w p M F ∧ (∀ b, F b → w0.heap.size ≤ b) ∧ Below w0.heap.size w0 w
theorem Own.below {w0 w w' : World} {p : Nat} {M : WM} (h : Own w0 w p M) (hb : Below w.heap.size w w') : Own w0 w' p M := by
  obtain ⟨F, h1, h2, h3⟩ := h
  exact ⟨F, h1.below hb, h2, h3.trans (hb.mono h3.size)⟩
theorem Own.turn {w0 w w' : World} {p : Nat} {M' : WM} {F F' : Nat → Prop} (h2 : ∀ b, F b → w0.heap.size ≤ b) (h3 : Below w0.heap.size w0 w) (hW : IsW w' p M' F') (hg : Grew F w F' w') : Own w0 w' p M' := by
  refine ⟨F', hW, fun b hb => ?_, h3.trans (Keeps.below hg.1 h3.size h2)⟩
  rcases hg.2 b hb with h | h
  · exact h2 b h
  · exact Nat.le_trans h3.size h

set_option maxHeartbeats 2000000 in
set_option maxRecDepth 8000 in
theorem lives_W (w : World) : Calls Try.prog 15 #[] w fun e w' => e = .returned (.bool true) ∧ Below w.heap.size w w' := by
  go_enter Try.func15, Try.ntmps15
  go_wp2_with fail
  refine (New_W _ _ 3 [0, 0, 1] (.inr ⟨w.heap.size, 0, rfl, fun j x hx => ?_⟩)).mono ?_
  · rw [cell_blk (blk_new w _)]
    match j, hx with
    | 0, hx => simpa using hx
    | 1, hx => simpa using hx
    | 2, hx => simpa using hx
  rintro e w1 hpost
  obtain ⟨p, F, rfl, hW, hF, hb⟩ := (Or.resolve_right hpost (fun h => h.1 ltree)).2
  clear hpost
  have HO : Hid (Own w w1 p LM0) := ⟨F, hW, fun b h => by have := hF b h; simp at this; omega, ((Below.refl _ _).alloc (Nat.le_refl _) _).trans (hb.mono (by simp))⟩
  clear hW hF hb
  go_wp2_with fail
  refine (New_W _ _ 2 [0, 2] (.inr ⟨w1.heap.size, 0, rfl, fun j x hx => ?_⟩)).mono ?_
  · rw [cell_blk (blk_new w1 _)]
    match j, hx with
    | 0, hx => simpa using hx
    | 1, hx => simpa using hx
  rintro e w1' hpost
  obtain ⟨rfl, hw'⟩ := (Or.resolve_left hpost (fun h => lnotree h.1)).2
  have HO1 : Hid (Own w w1' p LM0) := by
    show Own _ _ _ _
    rw [hw']
    exact HO.out.below ((Below.refl _ _).alloc (Nat.le_refl _) _)
  clear HO hpost hw'
  go_wp2_with fail
  obtain ⟨F, hW, hF, hb⟩ := HO1.out
  refine (Make_no hW (k := 1) (h := 1) (vk := 1) (vn := 7) (n := 0) (l := 0) (tg := 0) (bi := 0) (s := 0) (fu := false) (.inr rfl) (.inl rfl) ladd (fun w hW => form_1 hW 1 1 7 (by decide) (.inr rfl)) (fun w _ => fits_1 w _ 0 1 1 7 0 0 0 0 0 false)).mono ?_
  rintro e w2 ⟨rfl, F2, hW2, hg2⟩
  have HO2 : Hid (Own w w2 p LM1) := Own.turn hF hb hW2 hg2
  clear hW hF hb hW2 hg2 HO1
  go_wp2_with fail
  obtain ⟨F, hW, hF, hb⟩ := HO2.out
  refine (Facet_new hW (r := 1) (s := 1) (v := 3) (t := lt 1 1 1 7 0 0 0 0 0 false) rfl rfl rfl (by decide) lable1 (by decide) (by decide) lfind1 (by decide) (by decide)).mono ?_
  rintro e w3 ⟨rfl, F3, hW3, hg3⟩
  have HO3 : Hid (Own w w3 p LM2) := Own.turn hF hb hW3 hg3
  clear hW hF hb hW3 hg3 HO2
  go_wp2_with fail
  obtain ⟨F, hW, hF, hb⟩ := HO3.out
  refine (Facet_there hW (r := 1) (s := 1) (v := 3) (t := lt 1 1 1 7 0 0 0 0 0 false) rfl rfl rfl (by decide) lable2 (by decide) (by decide) lfind2).mono ?_
  rintro e w4 ⟨rfl, hb4⟩
  have HO4 : Hid (Own w w4 p LM2) := HO3.out.below hb4
  clear hW hF hb hb4 HO3
  go_wp2_with fail
  obtain ⟨F, hW, hF, hb⟩ := HO4.out
  refine (Facet_what hW (r := 1) (s := 3) (v := 3) (t := lt 1 1 1 7 0 0 0 0 0 false) rfl rfl lable2 rfl).mono ?_
  rintro e w5 ⟨rfl, hb5⟩
  have HO5 : Hid (Own w w5 p LM2) := HO4.out.below hb5
  clear hW hF hb hb5 HO4
  go_wp2_with fail
  obtain ⟨F, hW, hF, hb⟩ := HO5.out
  refine (CutEdge_W hW 1 (by decide) (by decide)).mono ?_
  rintro e w6 ⟨rfl, hW6, hk6, -⟩
  have HO6 : Hid (Own w w6 p LM3) := ⟨F, hW6, hF, hb.trans (Keeps.below hk6 hb.size hF)⟩
  clear hW hF hb hW6 hk6 HO5
  go_wp2_with fail
  obtain ⟨F, hW, hF, hb⟩ := HO6.out
  refine (Able_W hW rfl lable3).mono ?_
  rintro e w7 ⟨rfl, hb7⟩
  have HO7 : Hid (Own w w7 p LM3) := HO6.out.below hb7
  clear hW hF hb hb7 HO6
  go_wp2_with fail
  obtain ⟨F, hW, hF, hb⟩ := HO7.out
  refine (Base_W hW rfl lway).mono ?_
  rintro e w8 ⟨rfl, hb8⟩
  have HO8 : Hid (Own w w8 p LM3) := HO7.out.below hb8
  clear hW hF hb hb8 HO7
  go_wp2_with fail
  obtain ⟨F, hW, hF, hb⟩ := HO8.out
  refine (Free_W hW (a := 0) (by decide) rfl lway (t0 := ft 1 1) rfl lall).mono ?_
  rw [lfree0]
  rintro e w9 ⟨rfl, hb9⟩
  have HO9 : Hid (Own w w9 p LM3) := HO8.out.below hb9
  clear hW hF hb hb9 HO8
  have hE0 : freeE false = 7 := rfl
  go_wp2_with fail
  obtain ⟨F, hW, hF, hb⟩ := HO9.out
  refine (Free_W hW (a := 3) (by decide) rfl lway (t0 := ft 1 1) rfl lall).mono ?_
  rw [lfree3]
  rintro e w10 ⟨rfl, hb10⟩
  have HO10 : Hid (Own w w10 p LM3) := HO9.out.below hb10
  clear hW hF hb hb10 HO9
  have hE1 : freeE true = 0 := rfl
  go_wp2_with fail
  obtain ⟨F, hW, hF, hb⟩ := HO10.out
  refine (Len_W hW).mono ?_
  rintro e _ ⟨rfl, rfl⟩
  have hL : LM3.things.length = 2 := rfl
  go_wp2_with fail
  refine (Made_W hW 1).mono ?_
  rintro e _ ⟨rfl, rfl⟩
  have hM : (if sideB LM3 1 = true then LM3.made.getD (1 : Int).toNat 0 else 0) = 1 := by decide
  rw [hM]
  go_wp2_with fail
  go_ret
  exact ⟨rfl, hb⟩
end Go.Proofs.Ytmefjkggibbhoaa
/- Things: the iterator over all things of a world, by its contract: for every loop body that keeps the cells that are not its own. -/
namespace Go.Proofs.Ytmefjkggibbhoaa
open Go.RowKit Go.Shelf Go.ChangeMaps Go.MapKept
attribute [local go_sem] Oper.semAt_some

/-- What a round keeps: all cells that are not the body's own; what is its own was so, or is new. -/
structure KpO (own : World → Nat → Prop) (W W' : World) : Prop where
  size : W.heap.size ≤ W'.heap.size
  cells : ∀ b cs e fr, W.heap[b]? = some (.cells cs e fr) → ¬ own W b → W'.heap[b]? = some (.cells cs e fr)
  own' : ∀ b, own W' b → own W b ∨ W.heap.size ≤ b
theorem KpO.trans {own : World → Nat → Prop} {A B C : World} (h : KpO own A B) (k : KpO own B C) : KpO own A C where
  size := Nat.le_trans h.size k.size
  cells := fun b cs e fr hb ho => k.cells b cs e fr (h.cells b cs e fr hb ho) (fun hB => by
    rcases h.own' b hB with h1 | h1
    · exact ho h1
    · have := (Array.getElem?_eq_some_iff.1 hb).1; omega)
  own' := fun b hb => by
    rcases k.own' b hb with h1 | h1
    · rcases h.own' b h1 with h2 | h2
      · exact .inl h2
      · exact .inr h2
    · have := h.size
      exact .inr (by omega)

theorem infoKind : (Try.prog.info? 31).map (fun i => (i.zero, i.size, i.bytes)) = some (some (.int .u8 0), 1, 1) := by kernel_rfl

theorem append_oneI {F : Fence} {nF : Nat} {P : Program} {w : World} {ops : Array Oper} {rest : List Oper} {o : Oper} {a : Act} {Q : Exit → Act → World → Prop} (hgd : o.guard = none) (s x : Operand) (t : TypeId)
    (ho : o.op = .call { callee := .builtin .append, args := #[s, x], argTypes := #[t, t] }) (base : Nat) (e : TypeId) (z : Value) (bytes : Nat) (ht : P.underlying t = some (.slice e))
    (hinfo : (P.info? e).map (fun i => (i.zero, i.size, i.bytes)) = some (some z, 1, bytes)) (hzs : z.cells.size = 1)
    (v : Value) (n : Nat) (xs : List Value) (hs : a.eval s = v) (hown : Hid (w.ownsRow base e 1 v n xs)) (y : Value) (hx : a.eval x = .slice (some ⟨w.heap.size, 0, none⟩) 1 1) (hy : y.oneCell' = true)
    (hn : Hid ((n : Int) ≤ 1099511627777)) (hb : bytes ≤ 64) (hbase : Hid (base ≤ w.heap.size))
    (h : ∀ v' w', Hid (w'.ownsRow base e 1 v' (n + 1) (xs ++ [y])) → Hid (w.grownBy w' v.ownBlock) → Hid (Below base w w') → wpListIn F nF P ops Q rest (a.put o.dst v') w') : wpListIn F nF P ops Q (o :: rest) a (w.alloc (.cells #[y] e)) := by
  obtain ⟨i, hi, hz, h1, h2⟩ := info_parts hinfo
  have hn' := hn.out
  have hb2 : (n + 1) * bytes ≤ (n + 1) * 64 := Nat.mul_le_mul_left _ hb
  refine wpListIn_append_own _ hgd s x t ho base e i z 1 bytes ht hi hz h1 h2 hzs (by decide) v n xs hs (hown.out.alloc _) ⟨w.heap.size, 0, none⟩ 1 1 [y] hx rfl (cell_one_new _ _ _) (by simp [hy]) (by unfold maxLen; omega) (by omega) (by have := hbase.out; simp; omega) ?_
  intro v' w' r1 r2 _
  have hg : w.grownBy w' v.ownBlock := (World.grownBy_alloc w _ _).trans r2
  exact h v' w' r1 hg ⟨hg.os, hg.tape, hg.output, hg.size, fun k hk => hg.block k (by have := hbase.out; omega) (fun e => by have := hown.out.lt k e.symm; omega)⟩
/-- Rows of two kinds of elements are two blocks. -/
theorem row_ne_row {w : World} {base base' n n' : Nat} {e e' : TypeId} {v v' : Value} {xs xs' : List Value} (hne : e ≠ e') (h : w.ownsRow base e 1 v n xs) (h' : w.ownsRow base' e' 1 v' n' xs') : v.ownBlock = none ∨ v.ownBlock ≠ v'.ownBlock := by
  rcases h.2 with ⟨rfl, -⟩ | ⟨g, cap, cur, rfl, -, hb, -⟩
  · exact .inl rfl
  · right
    rcases h'.2 with ⟨rfl, -⟩ | ⟨g', cap', cur', rfl, -, hb', -⟩
    · simp [Value.ownBlock]
    · simp only [Value.ownBlock, ne_eq, Option.some.injEq]
      rintro rfl
      rw [hb] at hb'
      injection hb' with hb'
      injection hb' with _ he
      exact hne he

theorem grownBy_of_below {A B : World} (h : Below A.heap.size A B) : A.grownBy B none := ⟨h.os, h.tape, h.output, h.size, fun k hk _ => h.block k hk⟩
theorem row_KpO {own : World → Nat → Prop} {A B : World} {base g n cap : Nat} {e : TypeId} {xs : List Value} (h : A.ownsRow base e 1 (.slice (some ⟨g, 0, none⟩) n cap) n xs) (hk : KpO own A B) (ho : ¬ own A g) :
    B.ownsRow base e 1 (.slice (some ⟨g, 0, none⟩) n cap) n xs := by
  refine ⟨h.1, ?_⟩
  rcases h.2 with ⟨h0, -⟩ | ⟨g', cap', cur, h0, hb, hg, rest⟩
  · cases h0
  · cases h0
    exact .inr ⟨g, cap, cur, rfl, hb, hk.cells _ _ _ _ hg ho, rest⟩
theorem measure_down {n k : Nat} (h : k < n) : n - ((k : Int) + 1).toNat < n - (k : Int).toNat := by omega

set_option maxHeartbeats 4000000 in
set_option maxRecDepth 100000 in
theorem things1_seq {w0 : World} {p : Nat} {M : WM} {Fw : Nat → Prop} {Bx n : Nat} (hW0 : IsW w0 p M Fw) (hBx : w0.cell? ⟨Bx, 0, none⟩ = some (.pointer (some ⟨p, 0, none⟩))) (own : World → Nat → Prop)
    (hown0 : ∀ W, Below w0.heap.size w0 W → ∀ b, own W b → b < w0.heap.size)
    {β : Type} (f : β → Int × Th) (ys : List β) (hys : ys.map f = M.things) :
    SeqStopsK Fence.wide n Try.prog 100 #[.pointer (some ⟨Bx, 0, none⟩)] (fun y : β => #[.int .i64 (f y).1, .int .u8 (f y).2.kind]) (KpO own) (fun xs => xs = ys) (fun pre => pre <+: ys) M.things.length w0 := by
  intro l J Jx W hWb hJ hJx hY h0
  have HW0 := (show Hid (IsW w0 p M Fw) from hW0)
  have HW : Hid (IsW W p M Fw) := hW0.below hWb
  have hbx : W.cell? ⟨Bx, 0, none⟩ = some (.pointer (some ⟨p, 0, none⟩)) := (hWb.cell (p := ⟨Bx, 0, none⟩) (World.block_lt_of_cell? _ _ hBx)).trans hBx
  have HWb := (show Hid (Below w0.heap.size w0 W) from hWb)
  have HBx : Hid (∀ W', Below W.heap.size W W' → W'.cell? ⟨Bx, 0, none⟩ = some (.pointer (some ⟨p, 0, none⟩))) := fun W' hb => (hb.cell (p := ⟨Bx, 0, none⟩) (World.block_lt_of_cell? _ _ hbx)).trans hbx
  have HJ := (show Hid (AbidesFrom W.heap.size J) from hJ)
  have HY := (show Hid _ from hY)
  have H0 := (show Hid (J [] W) from h0)
  have Ho := (show Hid _ from hown0)
  have Hys := (show Hid (ys.map f = M.things ∧ ys.length = M.things.length) from ⟨hys, by rw [← hys, List.length_map]⟩)
  clear hW0 hBx hWb hJ hY h0 hown0 hys
  refine callsIn_of_wp Try.func100 rfl trivial ?_ rfl
  simp only [Try.ntmps100, List.size_toArray, List.length_cons, List.length_nil, Nat.reduceAdd, Nat.reduceSub, Array.replicate_succ, Array.replicate_zero, List.push_toArray, List.append_toArray, List.nil_append, List.cons_append]
  gi_wp2_with fail
  refine ⟨trivial, (fun h => by cases h), (callsIn_wide.2 (none_W HW.out)).mono ?_⟩
  rintro e _ ⟨rfl, rfl⟩
  gi_wp2_with fail
  refine ⟨trivial, (fun h => by cases h), (callsIn_wide.2 (refs_W HW.out)).mono ?_⟩
  rintro e w1 ⟨g, cap, rfl, hrow, hb1⟩
  have HR1 : Hid (w1.ownsRow W.heap.size 30 1 (.slice (some ⟨g, 0, none⟩) M.things.length cap) M.things.length ((M.things.map (·.1)).map (Value.int .i64))) := hrow
  have HB1 := (show Hid (Below W.heap.size W w1) from hb1)
  clear hrow hb1
  have hlen := HW.out.ok.len_le
  have hlast := HW.out.ok.last.2
  have HN : Hid ((M.things.length : Int) ≤ 1099511627776) := by show _ ≤ _; omega
  have hg1 := HR1.out.lt g rfl
  have HG1 := (show Hid (W.heap.size ≤ g ∧ g < w1.heap.size) from hg1)
  clear hlen hlast hg1
  gi_wp2_with fail
  gi_loopw [3, 4, 14] (fun v3 v4 vi wr => ∃ k : Nat, vi = .int .i64 k ∧ k ≤ M.things.length ∧ Hid (wr.ownsRow w1.heap.size 30 1 v3 k ((M.things.take k).map fun x => Value.int .i64 x.1)) ∧ Hid (wr.ownsRow w1.heap.size 31 1 v4 k ((M.things.take k).map fun x => Value.int .u8 x.2.kind)) ∧
      Hid (wr.ownsRow W.heap.size 30 1 (.slice (some ⟨g, 0, none⟩) M.things.length cap) M.things.length ((M.things.map (·.1)).map (Value.int .i64))) ∧ Hid (Below W.heap.size W wr) ∧ Hid (w1.heap.size ≤ wr.heap.size)) (fun _ _ vi _ => M.things.length - (intOf vi).toNat)
  case atStart => exact ⟨0, rfl, Nat.zero_le _, World.ownsRow_nil _ _ _ _, World.ownsRow_nil _ _ _ _, HR1.out, HB1.out, Nat.le_refl _⟩
  case round =>
    obtain ⟨k, rfl, hk, H3, H4, HR, HB, HS⟩ := hrel
    by_cases hkm : k < M.things.length
    · have hkz : (k : Int) < (M.things.length : Int) := by omega
      obtain ⟨x, hx⟩ : ∃ x, M.things[k]? = some x := ⟨_, List.getElem?_eq_getElem hkm⟩
      have hat : M.at x.1 = some x.2 := HW.out.ok.at_of_mem (List.mem_of_getElem? hx)
      have Hat := (show Hid (M.at x.1 = some x.2) from hat)
      have Htk : Hid (M.things.take (k + 1) = M.things.take k ++ [x]) := by show _ = _; rw [List.take_add_one, hx]; rfl
      have hcx : wr.cell? ⟨g, k, none⟩ = some (.int .i64 x.1) := by
        have := HR.out.cellAt k (by omega)
        rw [this]
        simp [hx]
      have Hk1 : Hid ((k : Int) ≤ 1099511627777) := by have := HN.out; show _ ≤ _; omega
      have hwx := HW.out.ok.at_wf hat
      have Hwx := (show Hid _ from hwx)
      clear hx hat hwx
      have hwk : wrap64 ((k : Int) + 1) = (k : Int) + 1 := by have := HN.out; unfold wrap64; omega
      gi_wp2_with (first
        | (gi_at_builtin; refine append_oneI rfl _ _ 66 rfl w1.heap.size 30 (.int .i64 0) 8 Try.underlying66 infoRef rfl _ k _ rfl H3 (.int .i64 x.1) rfl rfl Hk1 (by decide) HS ?_; intro v3' w2 r1 r2 r3
           have HB2 : Hid (Below W.heap.size W w2) := HB.out.trans (r3.out.mono HB1.out.size)
           have q1 := HBx.out w2 HB2.out
           have HV2 := (show Hid (∃ pa pc cg cc mg mc tb fb fn bl, WV w2 p M Fw pa pc cg cc mg mc tb fb fn bl) from HW.out.below HB2.out)
           obtain ⟨tb, hc2, b0, hlk, hk0⟩ : ∃ tb, w2.cell? ⟨p, 2, none⟩ = some (.map (some tb)) ∧ ∃ b0, (Instr.lookup 87 (.map (some tb)) (.int .i64 x.1) false).run Try.prog w2 = .ok (.pointer (some ⟨b0, 0, none⟩)) w2 ∧ w2.cell? ⟨b0, 0, none⟩ = some (.int .u8 x.2.kind) := by
             obtain ⟨pa, pc, cg, cc, mg, mc, tb, fb, fn, bl, hV⟩ := HV2.out
             have hlk := hV.look Hwx.out
             rw [Hat.out] at hlk
             exact ⟨tb, hV.c2, bl x.1, hlk, (thc_cell (hV.blk _ _ Hat.out).1).1⟩
           have H4' : Hid (w2.ownsRow w1.heap.size 31 1 u4 k ((M.things.take k).map fun x => Value.int .u8 x.2.kind)) := World.ownsRow.kept H4.out r2.out (row_ne_row (by decide) H4.out H3.out)
           have HR' : Hid (w2.ownsRow W.heap.size 30 1 (.slice (some ⟨g, 0, none⟩) M.things.length cap) M.things.length ((M.things.map (·.1)).map (Value.int .i64))) := World.ownsRow.kept HR.out r2.out (.inr (fun e => by have := H3.out.lt g e.symm; have := HG1.out; omega))
           have HS2 : Hid (w1.heap.size ≤ w2.heap.size) := Nat.le_trans HS.out r3.out.size)
        | (gi_at_builtin; refine append_oneI rfl _ _ 154 rfl w1.heap.size 31 (.int .u8 0) 1 Try.underlying154 infoKind rfl _ k _ rfl H4' (.int .u8 x.2.kind) rfl rfl Hk1 (by decide) HS2 ?_; intro v4' w3 s1 s2 s3))
      have HB3 : Hid (Below W.heap.size W w3) := HB2.out.trans (s3.out.mono HB1.out.size)
      have H3' : Hid (w3.ownsRow w1.heap.size 30 1 v3' (k + 1) ((M.things.take (k + 1)).map fun x => Value.int .i64 x.1)) := by
        show World.ownsRow _ _ _ _ _ _ _
        rw [Htk.out, List.map_append]
        exact World.ownsRow.kept r1.out s2.out (row_ne_row (by decide) r1.out H4'.out)
      have H4'' : Hid (w3.ownsRow w1.heap.size 31 1 v4' (k + 1) ((M.things.take (k + 1)).map fun x => Value.int .u8 x.2.kind)) := by
        show World.ownsRow _ _ _ _ _ _ _
        rw [Htk.out, List.map_append]
        exact s1.out
      have HR'' : Hid (w3.ownsRow W.heap.size 30 1 (.slice (some ⟨g, 0, none⟩) M.things.length cap) M.things.length ((M.things.map (·.1)).map (Value.int .i64))) := World.ownsRow.kept HR'.out s2.out (.inr (fun e => by have := H4'.out.lt g e.symm; have := HG1.out; omega))
      have HS3 : Hid (w1.heap.size ≤ w3.heap.size) := Nat.le_trans HS2.out s3.out.size
      go_roundw
      case rel => exact ⟨k + 1, by go_num, by omega, H3', H4'', HR'', HB3, HS3⟩
      case measure => rw [hwk]; exact measure_down hkm
    · have hkz : ¬ (k : Int) < (M.things.length : Int) := by omega
      obtain rfl : k = M.things.length := by omega
      rw [List.take_length] at H3 H4
      have HB1' := HB
      rcases H3.out.2 with ⟨rfl, h30⟩ | ⟨g3, cap3, cur3, rfl, hl3, hb3, ha3⟩
      · have Hl0 : Hid (ys = []) := List.eq_nil_of_length_eq_zero (Hys.out.2.trans h30)
        have hJr : Hid (J [] wr) := HJ.out [] W wr none H0.out (grownBy_of_below HB.out) (fun r h => by cases h)
        have hkz0 : ¬ (0 : Int) < ((M.things.length : Nat) : Int) := by omega
        clear h30 hkz
        gi_wp2_with fail
        gi_loopw [37] (fun vi w2 => vi = .int .i64 0 ∧ Hid (J [] w2)) (fun _ _ => 0)
        case atStart => exact ⟨rfl, hJr⟩
        case round =>
          obtain ⟨rfl, hJs⟩ := hrel
          gi_wp2_with fail
          go_end0
          exact ⟨⟨_, rfl⟩, .inl (by first | exact ⟨ys, rfl, by rw [Hl0.out]; exact hJs⟩ | (rw [Hl0.out]; exact hJs))⟩
      · rcases H4.out.2 with ⟨rfl, h40⟩ | ⟨g4, cap4, cur4, rfl, hl4, hb4, ha4⟩
        · have Hl0 : Hid (ys = []) := List.eq_nil_of_length_eq_zero (Hys.out.2.trans h40)
          have hJr : Hid (J [] wr) := HJ.out [] W wr none H0.out (grownBy_of_below HB.out) (fun r h => by cases h)
          have hkz0 : ¬ (0 : Int) < ((M.things.length : Nat) : Int) := by omega
          clear h40 hkz hl3 hb3 ha3
          gi_wp2_with fail
          gi_loopw [37] (fun vi w2 => vi = .int .i64 0 ∧ Hid (J [] w2)) (fun _ _ => 0)
          case atStart => exact ⟨rfl, hJr⟩
          case round =>
            obtain ⟨rfl, hJs⟩ := hrel
            gi_wp2_with fail
            go_end0
            exact ⟨⟨_, rfl⟩, .inl (by first | exact ⟨ys, rfl, by rw [Hl0.out]; exact hJs⟩ | (rw [Hl0.out]; exact hJs))⟩
        · have hg3 := H3.out.lt g3 rfl
          have hg4 := H4.out.lt g4 rfl
          have HG3 := (show Hid (w1.heap.size ≤ g3 ∧ g3 < wr.heap.size) from hg3)
          have HG4 := (show Hid (w1.heap.size ≤ g4 ∧ g4 < wr.heap.size) from hg4)
          have hJr : Hid (J [] wr) := HJ.out [] W wr none H0.out (grownBy_of_below HB.out) (fun r h => by cases h)
          have Ho1 : Hid (∀ b, own wr b → b < w0.heap.size ∨ wr.heap.size ≤ b) := fun b hb => .inl (Ho.out wr (HWb.out.trans (HB.out.mono HWb.out.size)) b hb)
          clear hl3 hb3 ha3 hl4 hb4 ha4 hg3 hg4 hkz
          gi_wp2_with fail
          gi_loopw [37] (fun vi w2 => ∃ k : Nat, vi = .int .i64 k ∧ k ≤ M.things.length ∧ Hid (J (ys.take k) w2) ∧ Hid (w2.ownsRow w1.heap.size 30 1 (.slice (some ⟨g3, 0, none⟩) M.things.length cap3) M.things.length (M.things.map fun x => .int .i64 x.1)) ∧
              Hid (w2.ownsRow w1.heap.size 31 1 (.slice (some ⟨g4, 0, none⟩) M.things.length cap4) M.things.length (M.things.map fun x => .int .u8 x.2.kind)) ∧ Hid (∀ b, own w2 b → b < w0.heap.size ∨ wr.heap.size ≤ b) ∧ Hid (wr.heap.size ≤ w2.heap.size)) (fun vi _ => M.things.length - (intOf vi).toNat)
          case atStart => exact ⟨0, rfl, Nat.zero_le _, hJr, H3.out, H4.out, Ho1.out, Nat.le_refl _⟩
          case round =>
            obtain ⟨k, rfl, hk2, HJk, K3, K4, Ho2, HS2⟩ := hrel
            by_cases hkm2 : k < M.things.length
            · have hkz : (k : Int) < (M.things.length : Int) := by omega
              obtain ⟨y, hy0⟩ : ∃ y, ys[k]? = some y := ⟨_, List.getElem?_eq_getElem (by rw [Hys.out.2]; exact hkm2)⟩
              have Htk : Hid (ys.take (k + 1) = ys.take k ++ [y]) := by show _ = _; rw [List.take_add_one, hy0]; rfl
              have hx : M.things[k]? = some (f y) := by rw [← Hys.out.1, List.getElem?_map, hy0]; rfl
              have hwk : wrap64 ((k : Int) + 1) = (k : Int) + 1 := by have := HN.out; unfold wrap64; omega
              have hc3 : wr.cell? ⟨g3, k, none⟩ = some (.int .i64 (f y).1) := by
                have := K3.out.cellAt k (by omega)
                rw [this]
                simp [hx]
              have hc4 : wr.cell? ⟨g4, k, none⟩ = some (.int .u8 (f y).2.kind) := by
                have := K4.out.cellAt k (by omega)
                rw [this]
                simp [hx]
              obtain ⟨fn, tmps, assign, body, hy, hR⟩ := HY.out (ys.take k) y wr HJk.out (by rw [List.length_take, Hys.out.2]; omega)
              clear hx hy0
              gi_wp2_with fail
              refine ⟨(fun h => by cases h), hR.mono ?_⟩
              rintro e W3 (⟨rfl, hJ3, hk3⟩ | ⟨rfl, hJx3⟩)
              · gi_wp2_with fail
                go_roundw
                case rel =>
                  refine ⟨k + 1, by go_num, by omega, by show J _ _; rw [Htk.out]; exact hJ3, row_KpO K3.out hk3 ?_, row_KpO K4.out hk3 ?_, ?_, Nat.le_trans HS2.out hk3.size⟩
                  · intro hb; have := Ho2.out _ hb; have := HG3.out; have := HB1.out.size; have := HWb.out.size; omega
                  · intro hb; have := Ho2.out _ hb; have := HG4.out; have := HB1.out.size; have := HWb.out.size; omega
                  · intro b hb
                    rcases hk3.own' b hb with h | h
                    · exact Ho2.out b h
                    · have := HS2.out; exact .inr (by omega)
                case measure => rw [hwk]; exact measure_down hkm2
              · gi_wp2_with fail
                refine bodyPost_ret (results_none rfl _ _ _) rfl ?_
                exact ⟨⟨_, rfl⟩, .inr ⟨ys.take k ++ [y], by rw [← Htk.out]; exact List.take_prefix _ _, hJx3⟩⟩
            · have hkz : ¬ (k : Int) < (M.things.length : Int) := by omega
              obtain rfl : k = M.things.length := by omega
              gi_wp2_with fail
              go_end0
              exact ⟨⟨_, rfl⟩, .inl (by have := HJk.out; rw [← Hys.out.2, List.take_length] at this; first | exact this | exact ⟨ys, rfl, this⟩)⟩
end Go.Proofs.Ytmefjkggibbhoaa
/- purse.find: a thing of a kind. -/
namespace Go.Proofs.Ytmefjkggibbhoaa
open Go.RowKit Go.ChangeMaps Go.MapKept
open Go.Maps (Keyed)
variable {w : World} {p : Nat} {M : WM} {F : Nat → Prop}

theorem keyedKind : Keyed Try.prog 31 := Maps.int_keyed Try.underlying31
theorem key_kind {r : Int} (h : (Lit.int .u8 r).wf = true) : keyOf Try.prog 31 (.int .u8 r) = some (.int .u8 r) := Maps.keyOf_int_mk Try.underlying31 h

set_option maxRecDepth 8000 in
theorem rulesB_W (w : World) (k want : Int) (b : Nat) (hb : w.cell? ⟨b, 0, none⟩ = some (.int .u8 want)) :
    Calls Try.prog 113 #[.int .u8 k, .pointer (some ⟨b, 0, none⟩)] w fun e w' => e = .returned (.int .i64 (if k = want then 0 else 100)) ∧ w = w' := by
  by_cases h : k = want
  · subst h
    rw [if_pos rfl]
    go_enter Try.func113, Try.ntmps113
    go_wp2
    go_ret
    exact ⟨rfl, rfl⟩
  · rw [if_neg h]
    have hk : (k != want) = true := by simpa using h
    clear h
    go_enter Try.func113, Try.ntmps113
    go_wp2
    go_ret
    exact ⟨rfl, rfl⟩
set_option maxRecDepth 8000 in
theorem rulesA_W (w : World) (want : Int) : Calls Try.prog 112 #[.int .u8 want] w fun e w' => e = .returned (.func (.func 113) #[] #[.pointer (some ⟨w.heap.size, 0, none⟩)]) ∧ w' = w.alloc (.cells #[.int .u8 want] 31) := by
  go_enter Try.func112, Try.ntmps112
  go_wp2
  go_ret
  exact ⟨rfl, rfl⟩

def ruleV (b : Nat) : Value := .func (.func 113) #[] #[.pointer (some ⟨b, 0, none⟩)]
/-- The rules by their keys. -/
def ruleF (b8 b9 : Option Nat) (key : Value) : Option Value :=
  match key with
  | .int .u8 k => if k = 8 then b8.map ruleV else if k = 9 then b9.map ruleV else none
  | _ => none
/-- What rules hands back: a map with a rule for mints and one for purses. -/
def RulesAt (w : World) (b : Nat) (b8 b9 : Nat) : Prop :=
  w.cell? ⟨b8, 0, none⟩ = some (.int .u8 8) ∧ w.cell? ⟨b9, 0, none⟩ = some (.int .u8 9) ∧ ∃ n, HasMap Try.prog 31 w b (ruleF (some b8) (some b9)) n
theorem zeroRule (w : World) : (zeroValue 151).run Try.prog w = .ok .nilFunc w := by kernel_rfl
theorem RulesAt.below {b b8 b9 : Nat} {w w' : World} (h : RulesAt w b b8 b9) (hb : Below w.heap.size w w') : RulesAt w' b b8 b9 := by
  obtain ⟨h1, h2, n, h3⟩ := h
  exact ⟨(hb.cell (p := ⟨b8, 0, none⟩) (World.block_lt_of_cell? _ _ h1)).trans h1, (hb.cell (p := ⟨b9, 0, none⟩) (World.block_lt_of_cell? _ _ h2)).trans h2, n, h3.of_block (hb.block _ h3.lt)⟩
theorem RulesAt.look {b b8 b9 : Nat} {w : World} (h : RulesAt w b b8 b9) : (Instr.lookup 152 (.map (some b)) (.int .u8 8) false).run Try.prog w = .ok (ruleV b8) w ∧ (Instr.lookup 152 (.map (some b)) (.int .u8 9) false).run Try.prog w = .ok (ruleV b9) w := by
  obtain ⟨h1, h2, n, h3⟩ := h
  exact ⟨by rw [h3.look keyedKind Try.underlying152 (zeroRule w) (key_kind (r := 8) rfl)]; rfl, by rw [h3.look keyedKind Try.underlying152 (zeroRule w) (key_kind (r := 9) rfl)]; rfl⟩

def RulesPost (w : World) (e : Ending) (w' : World) : Prop := ∃ b b8 b9, e = .returned (.map (some b)) ∧ RulesAt w' b b8 b9 ∧ Below w.heap.size w w' ∧ w.heap.size ≤ b ∧ w.heap.size ≤ b8 ∧ w.heap.size ≤ b9

set_option maxRecDepth 8000 in
theorem rules_W (w : World) : Calls Try.prog 99 #[] w (RulesPost w) := by
  have hmm := @run_makeMap Try.prog
  have hm0 : HasMap Try.prog 31 ((w.alloc (.map #[] 0)).alloc (.cells #[.int .u8 8] 31)) w.heap.size (ruleF none none) 0 :=
    ((HasMap.made w Try.prog 31).of_block ((blk2_old w _ _).trans (blk_new w _).symm)).congr (fun key _ _ => by unfold ruleF; split <;> simp)
  obtain ⟨w2, hrun, hm2, ht2⟩ := hm0.store keyedKind Try.underlying152 (by decide) (key_kind (r := 8) rfl) (ruleV (w.heap.size + 1)) (g := ruleF (some (w.heap.size + 1)) none) rfl (fun x hx => by
    unfold ruleF
    split
    · rename_i k
      have : k ≠ 8 := fun e => hx (by rw [e])
      simp [this]
    · rfl)
  have hT2 := Turned.of ht2
  have hs2 : w2.heap.size = w.heap.size + 2 := by rw [hT2.1]; simp
  have hb2 : Below w.heap.size w w2 := (((Below.refl _ w).alloc (Nat.le_refl _) _).alloc (by simp) _).trans (Keeps.below hT2.2 (by simp; omega) (fun x hx => by omega))
  have h82 : w2.cell? ⟨w.heap.size + 1, 0, none⟩ = some (.int .u8 8) := by
    have := (hT2.block (c := w.heap.size + 1) (by omega)).trans (blk2_new w _ _)
    rw [cell_blk this]
    rfl
  have hm3 : HasMap Try.prog 31 (w2.alloc (.cells #[.int .u8 9] 31)) w.heap.size (ruleF (some (w.heap.size + 1)) none) _ := hm2.of_block (Below.heap_alloc w2 _ _ hm2.lt)
  obtain ⟨w4, hrun4, hm4, ht4⟩ := hm3.store keyedKind Try.underlying152 (by decide) (key_kind (r := 9) rfl) (ruleV w2.heap.size) (g := ruleF (some (w.heap.size + 1)) (some w2.heap.size)) rfl (fun x hx => by
    unfold ruleF
    split
    · rename_i k
      have : k ≠ 9 := fun e => hx (by rw [e])
      simp [this]
    · rfl)
  have hT4 := Turned.of ht4
  have h84 : w4.cell? ⟨w.heap.size + 1, 0, none⟩ = some (.int .u8 8) := by
    rw [World.cell?_of_block (hT4.block (c := w.heap.size + 1) (by omega))]
    exact cell_al h82 _
  have h94 : w4.cell? ⟨w2.heap.size, 0, none⟩ = some (.int .u8 9) := by
    rw [World.cell?_of_block (hT4.block (c := w2.heap.size) (by omega)), cell_blk (blk_new _ _)]
    rfl
  have hb4 : Below w.heap.size w w4 := (hb2.trans ((Below.refl _ w2).alloc (by omega) _)).trans (Keeps.below hT4.2 (by simp; omega) (fun x hx => by omega))
  have HF : Hid (RulesPost w (.returned (.map (some w.heap.size))) w4) := ⟨_, _, _, rfl, ⟨h84, h94, _, hm4⟩, hb4, Nat.le_refl _, by omega, by omega⟩
  unfold ruleV at hrun hrun4
  clear hm0 hm2 ht2 hT2 hs2 hb2 h82 hm3 hm4 ht4 hT4 h84 h94 hb4
  go_enter Try.func99, Try.ntmps99
  go_wp2_with fail
  refine (rulesA_W _ 8).mono ?_
  rintro e _ ⟨rfl, rfl⟩
  go_wp2_with fail
  refine (rulesA_W _ 9).mono ?_
  rintro e _ ⟨rfl, rfl⟩
  go_wp2_with fail
  go_ret
  exact HF.out
end Go.Proofs.Ytmefjkggibbhoaa
