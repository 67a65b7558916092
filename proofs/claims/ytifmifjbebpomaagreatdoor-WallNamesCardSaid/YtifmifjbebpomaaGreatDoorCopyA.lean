/- Copy: the clones of a world's rows; the region that lays the new world. -/
import Derived.Test.YtifmifjbebpomaaGreatDoorGrow
import Derived.Test.YtifmifjbebpomaaGreatDoorNewW
import Derived.Test.YtifmifjbebpomaaGreatDoorRange
namespace Go.Proofs.YtifmifjbebpomaaGreatDoor
open Go.RowKit Go.ChangeMaps Go.MapKept

/-- append to nothing: all of a row of one-cell elements. -/
theorem append_all {w : World} {ops : Array Oper} {rest : List Oper} {o : Oper} {a : Act} {Q : Exit → Act → World → Prop} (hgd : o.guard = none) (s x : Operand) (t e : TypeId) (z : Value) (bytes : Nat)
    (ho : o.op = .call { callee := .builtin .append, args := #[s, x], argTypes := #[t, t] }) (ht : Tryz.prog.underlying t = some (.slice e)) (hinfo : (Tryz.prog.info? e).map (fun i => (i.zero, i.size, i.bytes)) = some (some z, 1, bytes)) (hzs : z.cells.size = 1) (hb : bytes ≤ 64)
    (A : Addr) (c n : Nat) (vs : List Value) (hs : a.eval s = .slice (some ⟨w.heap.size, 0, none⟩) 0 0) (hn : Hid (n = vs.length)) (hx : a.eval x = .slice (some A) n c) (hc : Hid (∀ (j : Nat) (v : Value), vs[j]? = some v → w.cell? (A.add j) = some v)) (h1 : Hid (∀ v ∈ vs, v.oneCell' = true)) (hl : Hid (vs.length ≤ 16))
    (h : ∀ v' w', Hid (w'.ownsRow w.heap.size e 1 v' n vs) → Hid (Below w.heap.size w w') → wpList Tryz.prog ops Q rest (a.put o.dst v') w') : wpList Tryz.prog ops Q (o :: rest) a (w.alloc (.cells #[] e)) := by
  obtain ⟨i, hi, hz, h2, h3⟩ := info_parts hinfo
  have hl := hl.out
  have hn := hn.out
  have hb2 : vs.length * bytes ≤ 16 * 64 := Nat.mul_le_mul hl hb
  refine wpList_append_own _ hgd s x t ho w.heap.size e i z 1 bytes ht hi hz h2 h3 hzs (by decide) (.slice (some ⟨w.heap.size, 0, none⟩) 0 0) 0 [] hs
    ⟨by simp, .inr ⟨w.heap.size, 0, #[], rfl, Nat.le_refl _, blk_new _ _, by omega, by unfold maxLen; omega, by simp, by simp⟩⟩ A n c vs hx (by omega)
    (fun j u hu => cell_al (hc.out j u hu) _) h1.out (by unfold maxLen; omega) (by rw [hn, Nat.zero_add]; omega) (by simp) ?_
  intro v' w' r1 r2 _
  have hg : w.grownBy w' (Value.slice (some ⟨w.heap.size, 0, none⟩) 0 0).ownBlock := (World.grownBy_alloc w _ _).trans r2
  refine h v' w' (by show World.ownsRow _ _ _ _ _ _ _; simpa using r1) ⟨hg.os, hg.tape, hg.output, hg.size, fun k hk => hg.block k (by omega) (fun e => ?_)⟩
  simp [Value.ownBlock] at e
  omega

set_option maxRecDepth 8000 in
theorem cloneBool_W (w : World) (b c n : Nat) (vs : List Value) (hn : n = vs.length) (hx : ∀ (j : Nat) (v : Value), vs[j]? = some v → w.cell? ⟨b, j, none⟩ = some v) (h1 : ∀ v ∈ vs, v.oneCell' = true) (hl : vs.length ≤ 16) :
    Calls Tryz.prog 66 #[.slice (some ⟨b, 0, none⟩) n c] w fun e w' => ∃ v, e = .returned v ∧ w'.ownsRow w.heap.size 4 1 v n vs ∧ Below w.heap.size w w' := by
  have Hx : Hid (∀ (j : Nat) (v : Value), vs[j]? = some v → w.cell? ((⟨b, 0, none⟩ : Addr).add j) = some v) := fun j v h => by
    have hadd : (⟨b, 0, none⟩ : Addr).add j = ⟨b, j, none⟩ := by unfold Addr.add; split <;> simp_all
    rw [hadd]
    exact hx j v h
  have Hn := (show Hid (n = vs.length) from hn)
  have H1 := (show Hid _ from h1)
  have Hl := (show Hid (vs.length ≤ 16) from hl)
  clear hn hx h1 hl
  go_enter Tryz.func66, Tryz.ntmps66
  go_wp2_with (at_builtin; refine append_all rfl _ _ 33 4 (.bool false) 1 rfl Tryz.underlying33 infoBool rfl (by decide) ⟨b, 0, none⟩ c n vs rfl Hn rfl Hx H1 Hl ?_; intro v w1 HV HB1)
  go_ret
  exact ⟨v, rfl, HV.out, HB1.out⟩
set_option maxRecDepth 8000 in
theorem cloneInt_W (w : World) (b c n : Nat) (vs : List Value) (hn : n = vs.length) (hx : ∀ (j : Nat) (v : Value), vs[j]? = some v → w.cell? ⟨b, j, none⟩ = some v) (h1 : ∀ v ∈ vs, v.oneCell' = true) (hl : vs.length ≤ 16) :
    Calls Tryz.prog 67 #[.slice (some ⟨b, 0, none⟩) n c] w fun e w' => ∃ v, e = .returned v ∧ w'.ownsRow w.heap.size 3 1 v n vs ∧ Below w.heap.size w w' := by
  have Hx : Hid (∀ (j : Nat) (v : Value), vs[j]? = some v → w.cell? ((⟨b, 0, none⟩ : Addr).add j) = some v) := fun j v h => by
    have hadd : (⟨b, 0, none⟩ : Addr).add j = ⟨b, j, none⟩ := by unfold Addr.add; split <;> simp_all
    rw [hadd]
    exact hx j v h
  have Hn := (show Hid (n = vs.length) from hn)
  have H1 := (show Hid _ from h1)
  have Hl := (show Hid (vs.length ≤ 16) from hl)
  clear hn hx h1 hl
  go_enter Tryz.func67, Tryz.ntmps67
  go_wp2_with (at_builtin; refine append_all rfl _ _ 36 3 (.int .i64 0) 8 rfl Tryz.underlying36 infoInt rfl (by decide) ⟨b, 0, none⟩ c n vs rfl Hn rfl Hx H1 Hl ?_; intro v w1 HV HB1)
  go_ret
  exact ⟨v, rfl, HV.out, HB1.out⟩
/-- The sides of a world, cloned. -/
theorem cloneSide_W {w : World} {p : Nat} {M : WM} {F : Nat → Prop} {pa : Option Addr} {pc cg cc mg mc tb fb fn : Nat} {bl : Int → Nat} (hV : WV w p M F pa pc cg cc mg mc tb fb fn bl) (w0 w1 : World) (h0 : w0.heap.size ≤ w1.heap.size) (hb : Below w.heap.size w w1) :
    Calls Tryz.prog 45 #[.slice pa M.parents.length pc] w1 fun e w' => ∃ v, e = .returned v ∧ NSides w0 M.parents v w' ∧ Below w1.heap.size w1 w' := by
  have hs := hV.ok.sides
  cases pa with
  | none =>
    have hp : M.parents = [] := by
      match hM : M.parents with
      | [] => rfl
      | x :: l =>
        obtain ⟨b, o, h, -⟩ := hV.pars 0 x (by rw [hM]; rfl)
        cases h
    rw [hp]
    refine (cloneSide_nil w1 _ pc).mono ?_
    rintro e _ ⟨rfl, rfl⟩
    exact ⟨_, rfl, ⟨none, 0, rfl, fun j x hx => by simp at hx⟩, Below.refl _ _⟩
  | some A =>
    refine (cloneSide_at w1 A pc M.parents (fun j x hx => ?_) hs).mono ?_
    · obtain ⟨b, o, h1, h2, -, h4⟩ := hV.pars j x hx
      cases h1
      have hadd : (⟨b, o, none⟩ : Addr).add j = ⟨b, o + j, none⟩ := by unfold Addr.add; split <;> simp_all
      rw [hadd]
      exact (hb.cell (p := ⟨b, o + j, none⟩) (hV.lt b h2)).trans h4
    · rintro e w2 ⟨v, rfl, hv, hb2⟩
      exact ⟨v, rfl, nsides_of hv h0, hb2⟩
/-- A row of the copy's own. -/
def CRow (w0 : World) (e : TypeId) (vs : List Value) (v : Value) (w : World) : Prop :=
  ∃ g cap, v = .slice (some ⟨g, 0, none⟩) vs.length cap ∧ w0.heap.size ≤ g ∧ g < w.heap.size ∧ Row w g e cap vs
theorem CRow.move {w0 : World} {e : TypeId} {vs : List Value} {v : Value} {w w' : World} (h : CRow w0 e vs v w) (hb : Below w.heap.size w w') : CRow w0 e vs v w' := by
  obtain ⟨g, cap, h1, h2, h3, h4⟩ := h
  exact ⟨g, cap, h1, h2, Nat.lt_of_lt_of_le h3 hb.size, h4.of_block (hb.block g h3)⟩
theorem CRow.of {w0 w1 w2 : World} {e : TypeId} {vs : List Value} {v : Value} (h0 : w0.heap.size ≤ w1.heap.size) (hn : 0 < vs.length) (hv : w2.ownsRow w1.heap.size e 1 v vs.length vs) : CRow w0 e vs v w2 := by
  obtain ⟨-, ⟨rfl, h⟩ | ⟨g, cap, cur, rfl, h1, h2, h3, h4, h5, h6⟩⟩ := hv
  · omega
  · refine ⟨g, cap, rfl, by omega, blk_lt h2, cur, h2, by omega, h3, h4, fun j x hx => ?_⟩
    have hj := (List.getElem?_eq_some_iff.1 hx).1
    have e1 : (cur.toList.take (vs.length * 1))[j]? = some x := by rw [h6]; exact hx
    rw [List.getElem?_take, if_pos (by omega)] at e1
    simpa using e1

/-- What is known of each operation of Copy's region. -/
def CPhi (w0 : World) (p : Nat) (M : WM) (pa : Option Addr) (pc cg cc mg mc : Nat) (i : Nat) (v : Value) (w : World) : Prop :=
  match i with
  | 0 | 1 | 5 | 6 | 10 | 11 | 15 | 16 => v = .pointer (some ⟨p, 0, none⟩)
  | 2 => v = .pointer (some ⟨p, 0, none⟩)
  | 3 => v = .slice pa M.parents.length pc
  | 4 => NSides w0 M.parents v w
  | 7 => v = .pointer (some ⟨p, 1, none⟩)
  | 8 => v = .slice (some ⟨cg, 0, none⟩) M.cuts.length cc
  | 9 => CRow w0 4 (M.cuts.map Value.bool) v w
  | 12 => v = .pointer (some ⟨p, 5, none⟩)
  | 13 => v = .slice (some ⟨mg, 0, none⟩) M.made.length mc
  | 14 => CRow w0 3 (M.made.map (Value.int .i64)) v w
  | 17 => v = .pointer (some ⟨p, 4, none⟩)
  | 18 => v = .int .i64 M.last
  | 19 => NMap w0 24 v w
  | 20 => NMap w0 190 v w
  | 21 => ∃ v0 v1 v2 v3 v5, v = .agg #[v0, v1, v2, v3, .int .i64 M.last, v5] ∧ NSides w0 M.parents v0 w ∧ CRow w0 4 (M.cuts.map Value.bool) v1 w ∧ NMap w0 24 v2 w ∧ NMap w0 190 v3 w ∧ CRow w0 3 (M.made.map (Value.int .i64)) v5 w ∧ blkOf v2 ≠ blkOf v3
  | 22 | 23 => ∃ q v0 v1 v2 v3 v5, v = .pointer (some ⟨q, 0, none⟩) ∧ w0.heap.size ≤ q ∧ w.heap[q]? = some (.cells #[v0, v1, v2, v3, .int .i64 M.last, v5] 38 (0, 0)) ∧ NSides w0 M.parents v0 w ∧ CRow w0 4 (M.cuts.map Value.bool) v1 w ∧ NMap w0 24 v2 w ∧ NMap w0 190 v3 w ∧ CRow w0 3 (M.made.map (Value.int .i64)) v5 w ∧ blkOf v2 ≠ blkOf v3
  | _ => True
theorem CPhi.stab {w0 : World} {p : Nat} {M : WM} {pa : Option Addr} {pc cg cc mg mc : Nat} : ∀ (i : Nat) (v : Value) (w w' : World), Below w.heap.size w w' → CPhi w0 p M pa pc cg cc mg mc i v w → CPhi w0 p M pa pc cg cc mg mc i v w' := by
  intro i v w w' hR h
  unfold CPhi at h ⊢
  split at h <;> first
    | exact h
    | exact NSides.move h hR
    | exact CRow.move h hR
    | exact NMap.move h hR
    | (obtain ⟨v0, v1, v2, v3, v5, h0, h1, h2, h3, h4, h5, h6⟩ := h
       exact ⟨v0, v1, v2, v3, v5, h0, h1.move hR, h2.move hR, h3.move hR, h4.move hR, h5.move hR, h6⟩)
    | (obtain ⟨q, v0, v1, v2, v3, v5, h0, hq, hb, h1, h2, h3, h4, h5, h6⟩ := h
       exact ⟨q, v0, v1, v2, v3, v5, h0, hq, below_blk hR hb, h1.move hR, h2.move hR, h3.move hR, h4.move hR, h5.move hR, h6⟩)
    | trivial
end Go.Proofs.YtifmifjbebpomaaGreatDoor
