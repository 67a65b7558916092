/- A part of the proof, several texts in one: TellG, R2R, RLook. -/
import Derived.Test.YthaliljaglldjaaGreatmBC
import Derived.Test.YthaliljaglldjaaGreatmAQ
import Derived.Test.YthaliljaglldjaaGreatmAI
import Derived.Test.YthaliljaglldjaaGreatmAK
import Derived.Test.YthaliljaglldjaaGreatmAE
/- Tell: a world with values, no edge of which is cut, told as plain data. -/
namespace Go.Proofs.YthaliljaglldjaaGreat
open Go.RowKit Go.ChangeMaps Go.MapKept
structure TG (wA W : World) (b0 q : Nat) (M : WM) (v0 v4 : Value) (k : Nat) (w : World) : Prop where
  b : Below wA.heap.size wA w
  kp : ∀ b, b < b0 → b ≠ q → w.heap[b]? = W.heap[b]?
  sz : b0 ≤ w.heap.size
  r : ∃ vT l, w.heap[q]? = some (.cells #[v0, .slice none 0 0, vT, .int .i64 M.last, v4] 67 (0, 0)) ∧ RowE w b0 (fun b => b0 ≤ b) vT l ∧ LikeT (M.things.take k) l
section
variable {wA W w w' : World} {b0 q : Nat} {M : WM} {v0 v4 : Value} {k : Nat}
theorem TG.below (h : TG wA W b0 q M v0 v4 k w) (hb : Below w.heap.size w w') : TG wA W b0 q M v0 v4 k w' := by
  obtain ⟨vT, l, h1, h2, h3⟩ := h.r
  exact ⟨h.b.trans (hb.mono h.b.size), fun b hb' hne => (hb.block b (Nat.lt_of_lt_of_le hb' h.sz)).trans (h.kp b hb' hne), Nat.le_trans h.sz hb.size, vT, l, below_blk hb h1, h2.below hb, h3⟩
theorem TG.thing {vT v' : Value} {l : List (Int × Th)} {x : Int × Th} {vl vals : Value} (h : TG wA W b0 q M v0 v4 k w) (hA : wA.heap.size ≤ q) (hq : q < b0) (hv : w.heap[q]? = some (.cells #[v0, .slice none 0 0, vT, .int .i64 M.last, v4] 67 (0, 0)))
    (hx : M.things[k]? = some x) (hE : RowE w' b0 (fun b => b0 ≤ b) v' (l ++ [(x.1, { x.2 with vl := vl, vals := vals })])) (hL : LikeT (M.things.take k) l) (hk : Keeps (fun b => b0 ≤ b) w w') : TG wA W b0 q M v0 v4 (k + 1) (w'.setCell ⟨q, 2, none⟩ v') := by
  have hAb : wA.heap.size ≤ b0 := by omega
  have hb : Below wA.heap.size wA w' := h.b.trans (hk.below h.b.size fun b hb => Nat.le_trans hAb hb)
  have hv' := hk.none hv (by show ¬ b0 ≤ q; omega)
  have hs := blk_setCell hv' 2 v'
  have hks := Keeps.setCell (S := fun b => b = q) w' ⟨q, 2, none⟩ v' rfl
  refine ⟨hb.setCell (p := ⟨q, 2, none⟩) hA _, fun b hb hne => (Below.heap_setCell _ _ _ _ hne).trans ((hk.block b (Nat.lt_of_lt_of_le hb h.sz) (by show ¬ b0 ≤ b; omega)).trans (h.kp b hb hne)), ?_, v', _, hs, ⟨ownsRow_keeps hE.row hks fun b hb e => by have := (hE.own b hb).1; omega, fun y hy => ((hE.deep y hy).keeps hks fun b hb _ e => by have := hb.1; omega).mono fun b hb => hb.1⟩, ?_⟩
  · have := h.sz
    have := hk.size
    simp [World.setCell]
    omega
  · rw [List.take_add_one, hx]
    exact hL.snoc
end
theorem step_entryG {ops : Array Oper} {o : Oper} {a : Act} {w w5 : World} {K : Act → World → Prop} {Q : Exit → Act → World → Prop} {E : Prop} {b0 n : Nat} {v : Value} {xs : List Value} {y : Int × Th} {s x : Operand} (hgd : o.guard = none)
    (ho : o.op = .call { callee := .builtin .append, args := #[s, x], argTypes := #[65, 65] }) (hs : a.eval s = v) (hx : a.eval x = .slice (some ⟨w5.heap.size, 0, none⟩) 1 1) (hw : w = w5.alloc (.cells (entc y).toArray 117))
    (hown : w5.ownsRow b0 117 17 v n xs) (h1 : ∀ u ∈ entc y, u.oneCell' = true) (hn : n ≤ 1000000) (hb : b0 ≤ w5.heap.size)
    (h : ∀ g cap w', w'.ownsRow b0 117 17 (.slice (some ⟨g, 0, none⟩) (n + 1) cap) (n + 1) (xs ++ entc y) → (w5.alloc (.cells (entc y).toArray 117)).grownBy w' v.ownBlock → (v.ownBlock = some g ∨ g = w5.heap.size + 1) → K (a.put o.dst (.slice (some ⟨g, 0, none⟩) (n + 1) cap)) w') :
    if Region.wanted o (yielded ops a.tmps) = true then Oper.wp Tryz.prog o a w K Q else E := by
  subst hw
  obtain ⟨i, hi, hz, h2, h3⟩ := info_parts infoEntry
  refine step_append_lies _ hgd s x 65 ho b0 117 i (.agg zEntry) 17 200 Tryz.underlyingLEntry hi hz h2 h3 rfl (by decide) v n xs hs (hown.alloc _) ⟨w5.heap.size, 0, none⟩ 1 1 (entc y) hx rfl (new_cells w5 (entc y) 117) h1 (by decide) (by unfold maxLen; omega) (by omega) (by simp; omega) (w5.heap.size + 1) (by simp)
    fun g cap w' r1 r2 r3 _ => h g cap w' r1 r2 r3
theorem TG.app {wA W w5 w6 : World} {b0 q n g capg base m g6 cap6 k : Nat} {M : WM} {v0 v4 vT vl vals : Value} {l : List (Int × Th)} {x : Int × Th} {rs : List Value} {B5 : Nat} (hm : l.length = m) (h : TG wA W b0 q M v0 v4 k w5) (hA : wA.heap.size ≤ q) (hq : q < b0) (hv : w5.heap[q]? = some (.cells #[v0, .slice none 0 0, vT, .int .i64 M.last, v4] 67 (0, 0))) (h3 : RowE w5 b0 (fun b => b0 ≤ b) vT l) (hL : LikeT (M.things.take k) l) (hx : M.things[k]? = some x)
    (hD : DeepR w5 (fun b => B5 ≤ b) { x.2 with vl := vl, vals := vals }) (hB5 : b0 ≤ B5) (hown : ∀ b, vT.ownBlock = some b → b < B5)
    (hR : w5.ownsRow base 25 1 (.slice (some ⟨g, 0, none⟩) n capg) n rs) (hbase : b0 ≤ base) (r1 : w6.ownsRow b0 117 17 (.slice (some ⟨g6, 0, none⟩) (m + 1) cap6) (m + 1) (eflat l ++ entc (x.1, { x.2 with vl := vl, vals := vals }))) (r2 : (w5.alloc (.cells (entc (x.1, { x.2 with vl := vl, vals := vals })).toArray 117)).grownBy w6 vT.ownBlock) (r3 : vT.ownBlock = some g6 ∨ g6 = w5.heap.size + 1) :
    TG wA W b0 q M v0 v4 (k + 1) (w6.setCell ⟨q, 2, none⟩ (.slice (some ⟨g6, 0, none⟩) (m + 1) cap6)) ∧ (w6.setCell ⟨q, 2, none⟩ (.slice (some ⟨g6, 0, none⟩) (m + 1) cap6)).ownsRow base 25 1 (.slice (some ⟨g, 0, none⟩) n capg) n rs ∧ w6.cell? ⟨q, 2, none⟩ = some vT ∧ w6.frozen? ⟨q, 2, none⟩ = false := by
  subst hm
  have ha : Below w5.heap.size w5 (w5.alloc (.cells (entc (x.1, { x.2 with vl := vl, vals := vals })).toArray 117)) := (Below.refl _ _).alloc (Nat.le_refl _) _
  have hka : Keeps (fun b => vT.ownBlock = some b) (w5.alloc (.cells (entc (x.1, { x.2 with vl := vl, vals := vals })).toArray 117)) w6 := ⟨r2.os, r2.tape, r2.output, r2.size, fun k hk hne => r2.block k hk (fun e => hne e.symm)⟩
  have h3a := h3.below ha
  have hDa := hD.on ha
  have hE : RowE w6 b0 (fun b => b0 ≤ b) (.slice (some ⟨g6, 0, none⟩) (l.length + 1) cap6) (l ++ [(x.1, { x.2 with vl := vl, vals := vals })]) := by
    refine h3a.more (y := (x.1, { x.2 with vl := vl, vals := vals })) (hDa.mono fun b hb => ⟨Nat.le_trans hB5 hb, fun e => by have := hown b e; omega⟩) (fun b hb => hb) ?_ hka ?_
    · rw [eflat_snoc, List.length_append]
      exact r1
    · rcases r3 with r3 | r3
      · exact .inl (by rw [r3]; rfl)
      · exact .inr (by rw [r3]; simp [Value.ownBlock])
  have hk6 : Keeps (fun b => b0 ≤ b) w5 w6 := (Keeps.of_below ha).trans (hka.mono fun b _ e => (h3.own b e).1) (fun _ _ h => h) (fun _ _ h => h)
  have hq6 := hk6.none hv (by show ¬ b0 ≤ q; omega)
  refine ⟨h.thing hA hq hv hx hE hL hk6, ?_, by rw [cell_blk hq6]; rfl, frozen_blk hq6 2⟩
  exact ((row_below hR ha).kept r2 (row_ne_rowS (by decide) (row_below hR ha) h3a.row)).kept (grownBy_setCell_at w6 q 2 _) (row_ne_blk hR (by omega))
def ToldG (M : WM) (v : Value) (w : World) : Prop :=
  ∃ pP cP pT cT pM cM l, v = .agg #[.slice pP M.parents.length cP, .slice none 0 0, .slice pT l.length cT, .int .i64 M.last, .slice pM M.made.length cM] ∧ IntArg .i64 w pP M.parents ∧ IntArg .i64 w pM M.made ∧ LikeT M.things l ∧
    (∀ (i : Nat) (x : Int × Th), l[i]? = some x → ∃ g, pT = some ⟨g, 0, none⟩ ∧ g < w.heap.size ∧ ∀ k v, (entc x)[k]? = some v → w.cell? ⟨g, i * 17 + k, none⟩ = some v) ∧ ∀ x ∈ l, DeepR w (fun b => b < w.heap.size) x.2
theorem ToldG.below {M : WM} {v : Value} {w w' : World} (h : ToldG M v w) (hb : Below w.heap.size w w') : ToldG M v w' := by
  obtain ⟨pP, cP, pT, cT, pM, cM, l, rfl, h1, h2, h3, h4, h5⟩ := h
  refine ⟨pP, cP, pT, cT, pM, cM, l, rfl, intArg_below h1 hb, intArg_below h2 hb, h3, fun i x hx => ?_, fun x hx => ((h5 x hx).on hb).mono fun b h => Nat.lt_of_lt_of_le h hb.size⟩
  obtain ⟨g, e, hg, hc⟩ := h4 i x hx
  exact ⟨g, e, Nat.lt_of_lt_of_le hg hb.size, fun k v hv => (World.cell?_of_block (a := ⟨g, i * 17 + k, none⟩) (hb.block g hg)).trans (hc k v hv)⟩
theorem rowE_ent {w : World} {base : Nat} {G : Nat → Prop} {u : Value} {l : List (Int × Th)} (h : RowE w base G u l) :
    ∃ p c, u = .slice p l.length c ∧ ∀ (i : Nat) (x : Int × Th), l[i]? = some x → ∃ g, p = some ⟨g, 0, none⟩ ∧ g < w.heap.size ∧ ∀ k v, (entc x)[k]? = some v → w.cell? ⟨g, i * 17 + k, none⟩ = some v := by
  obtain ⟨⟨h1, ⟨rfl, h0⟩ | ⟨g, cap, cur, rfl, hg, hb, hc, hm, hcs, ht⟩⟩, -⟩ := h
  · have : l = [] := List.length_eq_zero_iff.1 h0
    subst this
    exact ⟨none, 0, rfl, fun i x hx => by simp at hx⟩
  · refine ⟨_, cap, rfl, fun i x hx => ⟨g, rfl, blk_lt hb, fun k v hv => ?_⟩⟩
    have h2 := eflat_at hx hv
    rw [← ht, List.getElem?_take] at h2
    split at h2
    · rw [cell_blk hb, ← Array.getElem?_toList]
      exact h2
    · cases h2
theorem rowE_deep {w : World} {base : Nat} {G : Nat → Prop} {u : Value} {l : List (Int × Th)} (h : RowE w base G u l) : ∀ x ∈ l, DeepR w (fun b => b < w.heap.size) x.2 := fun x hx =>
  ⟨(SlAt.lt (h.deep x hx).v).mono fun _ h => h.2, (SlAt.lt (h.deep x hx).vs).mono fun _ h => h.2, (h.deep x hx).code, (h.deep x hx).names⟩
theorem Told7.toG {w : World} {B : Nat} {N : WM} {v : Value} (h : Told7 w B N v) : ToldG N v w := by
  obtain ⟨sP, sT, sM, l, rfl, rP, rT, lk, rM⟩ := h
  obtain ⟨pP, cP, e1, h1⟩ := intArg_of_row rP
  obtain ⟨pM, cM, e2, h2⟩ := intArg_of_row rM
  obtain ⟨pT, cT, e3, h3⟩ := rowE_ent rT
  subst e1 e2 e3
  exact ⟨pP, cP, pT, cT, pM, cM, l, rfl, h1, h2, lk, h3, rowE_deep rT⟩
theorem TG.told {w0 wA W w : World} {b0 q n : Nat} {M : WM} {v0 v4 vT : Value} {l : List (Int × Th)} (hT : TS0 w0 W b0 q M v0 v4) (h : TG wA W b0 q M v0 v4 n w) (hb : Below w0.heap.size w0 w) (hE : RowE w b0 (fun b => b0 ≤ b) vT l) (hL : LikeT M.things l) (xs : Array Value) :
    ToldG M (.agg #[v0, .slice none 0 0, vT, .int .i64 M.last, v4]) (w.setRow w0.heap.size xs) ∧ Below w0.heap.size w0 (w.setRow w0.heap.size xs) := by
  have hset : ∀ b, b ≠ w0.heap.size → (w.setRow w0.heap.size xs).heap[b]? = w.heap[b]? := fun b hb => by
    simp [World.setRow, Array.getElem?_modify, Ne.symm hb]
  have hsz : (w.setRow w0.heap.size xs).heap.size = w.heap.size := by simp [World.setRow]
  have hkeep : ∀ b, b < b0 → b ≠ q → b ≠ w0.heap.size → (w.setRow w0.heap.size xs).heap[b]? = W.heap[b]? := fun b hb hq h0 => (hset b h0).trans (h.kp b hb hq)
  have hk : Keeps (fun b => b = w0.heap.size) w (w.setRow w0.heap.size xs) := ⟨rfl, rfl, rfl, by rw [hsz]; exact Nat.le_refl _, fun k _ hk => hset k hk⟩
  have hlt : w0.heap.size < b0 := by have := hT.ql; omega
  obtain ⟨pa, pc, rfl, hs⟩ := hT.s
  obtain ⟨pd, cd, rfl, hm⟩ := hT.m
  have hE' : RowE (w.setRow w0.heap.size xs) b0 (fun b => b0 ≤ b) vT l := ⟨ownsRow_keeps hE.row hk fun b hb e => by have := (hE.own b hb).1; omega, fun y hy => ((hE.deep y hy).keeps hk fun b hb _ e => by have := hb.1; omega).mono fun b hb => hb.1⟩
  obtain ⟨pT, cT, rfl, ht⟩ := rowE_ent hE'
  exact ⟨⟨_, _, _, _, _, _, l, rfl, hs _ hkeep (by rw [hsz]; exact h.sz), hm _ hkeep (by rw [hsz]; exact h.sz), hL, ht, rowE_deep hE'⟩, Below.setRow hb (Nat.le_refl _) _⟩
def GMay (M : WM) : Prop := ∀ r t, M.at r = some t → mayV t.v = true ∧ (∀ v ∈ t.vs, mayV v = true) ∧ t.vs.length ≤ 1000
set_option maxHeartbeats 4000000 in
set_option maxRecDepth 100000 in
theorem Tell_G {w : World} {p : Nat} {M : WM} {F : Nat → Prop} (hW : IsW w p M F) (light : GMay M) (hcut : ∀ x ∈ M.cuts, x = false) (hsm : M.things.length ≤ 1000000) :
    Calls Tryz.prog 25 #[.pointer (some ⟨p, 0, none⟩)] w fun e w' => ∃ v, e = .returned v ∧ ToldG M v w' ∧ Below w.heap.size w w' := by
  have hWA := hW.below (w' := w.alloc (.cells #[.slice none 0 0, .slice none 0 0, .slice none 0 0, .int .i64 0, .slice none 0 0] 67)) ((Below.refl _ _).alloc (Nat.le_refl _) _)
  have HWA := (show Hid _ from hWA)
  have HL := (show Hid (GMay M) from light)
  have HCut := (show Hid (∀ x ∈ M.cuts, x = false) from hcut)
  obtain ⟨pa, pc, cg, cc, mg, mc, tb, fb, fn, bl, hV⟩ := hWA
  have HV := (show Hid _ from hV)
  have HA : Hid ((w.alloc (.cells #[.slice none 0 0, .slice none 0 0, .slice none 0 0, .int .i64 0, .slice none 0 0] 67)).heap[w.heap.size]? = some (.cells #[.slice none 0 0, .slice none 0 0, .slice none 0 0, .int .i64 0, .slice none 0 0] 67 (0, 0))) := blk_new w _
  have HBA : Hid (Below w.heap.size w (w.alloc (.cells #[.slice none 0 0, .slice none 0 0, .slice none 0 0, .int .i64 0, .slice none 0 0] 67))) := (Below.refl _ _).alloc (Nat.le_refl _) _
  have HSA : Hid ((w.alloc (.cells #[.slice none 0 0, .slice none 0 0, .slice none 0 0, .int .i64 0, .slice none 0 0] 67)).heap.size = w.heap.size + 1) := by show _ = _; simp
  clear hW light hV hcut
  go_enter Tryz.func25, Tryz.ntmps25
  go_wp2_with fail
  refine (none_W HWA.out).mono ?_
  rintro e _ ⟨rfl, rfl⟩
  go_wp2_with fail
  revert HWA HV HA HBA HSA
  generalize w.alloc _ = wA
  intro HWA HV HA HBA HSA
  refine wp_region_growT (by kernel_rfl) _ rfl (by kernel_rfl) (by kernel_rfl) (fun a b => Below a.heap.size a b) (TPhi w p M pa pc mg mc) (fun _ => false) (fun w' => Below wA.heap.size wA w') (fun j v w w' => TPhi.stab j v w w') (fun _ _ h => h.size) below_drew (fun a b h hR => h.trans (hR.mono h.size)) ?_ ?_
  · intro i o a w1 ho hC hG
    have hi : i < 16 := (List.getElem?_eq_some_iff.1 ho).1
    have hV := HV.out.below hC
    have hCw : w.heap.size ≤ w1.heap.size := by have := HSA.out; have := hC.size; omega
    match i, hi with
    | 0, _ =>
      cases ho
      have h0 : a.tmps.getD 0 undef = .pointer (some ⟨p, 0, none⟩) := hG.fr 0 (by simp)
      exact step_v _ (.pointer (some ⟨p, 0, none⟩)) (by rw [← h0]; rfl) (Below.refl _ _) rfl (fun h => by cases h)
    | 1, _ =>
      cases ho
      have h1 : a.tmps.getD 11 undef = .pointer (some ⟨p, 0, none⟩) := hG.dep ⟨0, .data⟩ (by simp) rfl _ rfl
      exact step_v _ (.pointer (some ⟨p, 0, none⟩)) (by simp [execOp, go_sem, Act.eval, h1]) (Below.refl _ _) rfl (fun h => by cases h)
    | 2, _ =>
      cases ho
      have h1 : a.tmps.getD 12 undef = .pointer (some ⟨p, 0, none⟩) := hG.dep ⟨1, .data⟩ (by simp) rfl _ rfl
      exact step_v _ (.pointer (some ⟨p, 0, none⟩)) (by simp [execOp, go_sem, Act.eval, h1]) (Below.refl _ _) rfl (fun h => by cases h)
    | 3, _ =>
      cases ho
      have h1 : a.tmps.getD 13 undef = .pointer (some ⟨p, 0, none⟩) := hG.dep ⟨2, .data⟩ (by simp) rfl _ rfl
      have hc := hV.c0
      exact step_v _ (.slice pa M.parents.length pc) (by simp [execOp, go_sem, Act.eval, h1, hc]) (Below.refl _ _) rfl (fun h => by cases h)
    | 4, _ =>
      cases ho
      have h1 : a.tmps.getD 14 undef = .slice pa M.parents.length pc := hG.dep ⟨3, .data⟩ (by simp) rfl _ rfl
      unfold Oper.wp
      simp [go_sem, callFunc, Act.eval, Tryz.func72, h1]
      refine (cloneSide_W HV.out w w1 hCw hC).mono ?_
      rintro e w2 ⟨v, rfl, hv, hb⟩
      exact ⟨v, rfl, hb, hv⟩
    | 5, _ =>
      cases ho
      have h0 : a.tmps.getD 0 undef = .pointer (some ⟨p, 0, none⟩) := hG.fr 0 (by simp)
      exact step_v _ (.pointer (some ⟨p, 0, none⟩)) (by rw [← h0]; rfl) (Below.refl _ _) rfl (fun h => by cases h)
    | 6, _ =>
      cases ho
      have h1 : a.tmps.getD 16 undef = .pointer (some ⟨p, 0, none⟩) := hG.dep ⟨5, .data⟩ (by simp) rfl _ rfl
      exact step_v _ (.pointer (some ⟨p, 0, none⟩)) (by simp [execOp, go_sem, Act.eval, h1]) (Below.refl _ _) rfl (fun h => by cases h)
    | 7, _ =>
      cases ho
      have h1 : a.tmps.getD 17 undef = .pointer (some ⟨p, 0, none⟩) := hG.dep ⟨6, .data⟩ (by simp) rfl _ rfl
      exact step_v _ (.pointer (some ⟨p, 4, none⟩)) (by simp [execOp, go_sem, Act.eval, h1]) (Below.refl _ _) rfl (fun h => by cases h)
    | 8, _ =>
      cases ho
      have h1 : a.tmps.getD 18 undef = .pointer (some ⟨p, 4, none⟩) := hG.dep ⟨7, .data⟩ (by simp) rfl _ rfl
      have hc := hV.c4
      exact step_v _ (.int .i64 M.last) (by simp [execOp, go_sem, Act.eval, h1, hc]) (Below.refl _ _) rfl (fun h => by cases h)
    | 9, _ =>
      cases ho
      have h0 : a.tmps.getD 0 undef = .pointer (some ⟨p, 0, none⟩) := hG.fr 0 (by simp)
      exact step_v _ (.pointer (some ⟨p, 0, none⟩)) (by rw [← h0]; rfl) (Below.refl _ _) rfl (fun h => by cases h)
    | 10, _ =>
      cases ho
      have h1 : a.tmps.getD 20 undef = .pointer (some ⟨p, 0, none⟩) := hG.dep ⟨9, .data⟩ (by simp) rfl _ rfl
      exact step_v _ (.pointer (some ⟨p, 0, none⟩)) (by simp [execOp, go_sem, Act.eval, h1]) (Below.refl _ _) rfl (fun h => by cases h)
    | 11, _ =>
      cases ho
      have h1 : a.tmps.getD 21 undef = .pointer (some ⟨p, 0, none⟩) := hG.dep ⟨10, .data⟩ (by simp) rfl _ rfl
      exact step_v _ (.pointer (some ⟨p, 5, none⟩)) (by simp [execOp, go_sem, Act.eval, h1]) (Below.refl _ _) rfl (fun h => by cases h)
    | 12, _ =>
      cases ho
      have h1 : a.tmps.getD 22 undef = .pointer (some ⟨p, 5, none⟩) := hG.dep ⟨11, .data⟩ (by simp) rfl _ rfl
      have hc := hV.c5
      exact step_v _ (.slice (some ⟨mg, 0, none⟩) M.made.length mc) (by simp [execOp, go_sem, Act.eval, h1, hc]) (Below.refl _ _) rfl (fun h => by cases h)
    | 13, _ =>
      cases ho
      have h1 : a.tmps.getD 23 undef = .slice (some ⟨mg, 0, none⟩) M.made.length mc := hG.dep ⟨12, .data⟩ (by simp) rfl _ rfl
      unfold Oper.wp
      simp [go_sem, callFunc, Act.eval, Tryz.func111, h1]
      refine (cloneInt_W w1 mg mc _ (M.made.map (Value.int .i64)) (by simp) (fun j v h => hV.mad.cell h) (fun v h => by obtain ⟨x, -, rfl⟩ := List.mem_map.1 h; rfl) (by have := hV.ok.made; have := hV.ok.sides; simp; omega)).mono ?_
      rintro e w2 ⟨v, rfl, hv, hb⟩
      exact ⟨v, rfl, hb, CRow.of hCw (by have := hV.ok.made; simp; omega) (by simpa using hv)⟩
    | 14, _ =>
      cases ho
      have h15 : NSides w M.parents (a.tmps.getD 15 undef) w1 := hG.dep ⟨4, .data⟩ (by simp) rfl _ rfl
      have h24 : CRow w 3 (M.made.map (Value.int .i64)) (a.tmps.getD 24 undef) w1 := hG.dep ⟨13, .data⟩ (by simp) rfl _ rfl
      have h19 : a.tmps.getD 19 undef = .int .i64 M.last := hG.dep ⟨8, .data⟩ (by simp) rfl _ rfl
      obtain ⟨pa', pc', e15, -⟩ := id h15
      obtain ⟨g24, cap24, e24, -⟩ := id h24
      refine step_v _ (.agg #[a.tmps.getD 15 undef, .slice none 0 0, .slice none 0 0, .int .i64 M.last, a.tmps.getD 24 undef]) ?_ (Below.refl _ _) ⟨_, _, rfl, h15, h24⟩ (fun h => by cases h)
      simp only [execOp, List.map_toArray, List.map_cons, List.map_nil, Act.eval, e15, e24, h19]
      simp [go_sem]
    | 15, _ =>
      cases ho
      exact step_v _ (.pointer (some ⟨w1.heap.size, 0, none⟩)) (w' := w1.alloc (.cells #[.slice none 0 0, .slice none 0 0, .slice none 0 0, .int .i64 0, .slice none 0 0] 67)) (by simp [execOp, go_sem]) ((Below.refl _ _).alloc (Nat.le_refl _) _) ⟨w1.heap.size, rfl, by have := HSA.out; have := hC.size; omega, blk_new _ _⟩ (fun h => by cases h)
  · intro a w1 hC hdf hsz hfr hphi hne
    obtain ⟨q, h3, hq, hqb⟩ := hphi 15 _ rfl
    obtain ⟨v0, v4, h25, c0, c4⟩ := hphi 14 _ rfl
    have h0 : a.tmps.getD 0 undef = .pointer (some ⟨p, 0, none⟩) := hfr 0 (by simp)
    have h2 : a.tmps.getD 2 undef = .pointer (some ⟨w.heap.size, 0, none⟩) := hfr 2 (by simp)
    have h3 : a.tmps.getD 3 undef = .pointer (some ⟨q, 0, none⟩) := h3
    have h25 : a.tmps.getD 25 undef = .agg #[v0, .slice none 0 0, .slice none 0 0, .int .i64 M.last, v4] := h25
    have HT := (show Hid _ from TS0.of hq (HBA.out.trans (hC.mono HBA.out.size)) (below_blk hC HA.out) hqb c0 c4 #[v0, .slice none 0 0, .slice none 0 0, .int .i64 M.last, v4])
    have HQ : Hid ((w1.setRow q #[v0, .slice none 0 0, .slice none 0 0, .int .i64 M.last, v4]).heap[q]? = some (.cells #[v0, .slice none 0 0, .slice none 0 0, .int .i64 M.last, v4] 67 (0, 0))) := heap_setRow_at hqb
    have hone : (#[v0, .slice none 0 0, .slice none 0 0, .int .i64 M.last, v4] : Array Value).all (·.oneCell') = true := by
      obtain ⟨_, _, rfl, -⟩ := c0
      obtain ⟨_, _, rfl, -⟩ := c4
      simp [go_sem]
    have hst := storeA_blk hqb rfl rfl hone
    have hst' : (stA (a.tmps.getD 3 undef) (a.tmps.getD 25 undef)).run Tryz.prog w1 = .ok .skip (w1.setRow q #[v0, .slice none 0 0, .slice none 0 0, .int .i64 M.last, v4]) := by
      rw [h3, h25]
      exact hst
    refine step_st hst' rfl ?_
    clear hst'
    clear hphi hne hst hone hqb c0 c4 h25
    refine ‹∀ (a : Act) (w : World), Code.wp Tryz.prog _ _ a w → _› a _ ?_
    obtain ⟨⟨l⟩, ds⟩ := a
    have hdf : ds = [] := hdf
    subst hdf
    have hsz : l.length = 68 + 1 := hsz
    clear hfr
    obtain ⟨t0, l0, rfl, g0⟩ := len_cons hsz
    obtain ⟨t1, l1, rfl, g1⟩ := len_cons g0
    obtain ⟨t2, l2, rfl, g2⟩ := len_cons g1
    obtain ⟨t3, l3, rfl, g3⟩ := len_cons g2
    obtain ⟨t4, l4, rfl, g4⟩ := len_cons g3
    obtain ⟨t5, l5, rfl, g5⟩ := len_cons g4
    obtain ⟨t6, l6, rfl, g6⟩ := len_cons g5
    obtain ⟨t7, l7, rfl, g7⟩ := len_cons g6
    obtain ⟨t8, l8, rfl, g8⟩ := len_cons g7
    obtain ⟨t9, l9, rfl, g9⟩ := len_cons g8
    obtain ⟨t10, l10, rfl, g10⟩ := len_cons g9
    obtain ⟨t11, l11, rfl, g11⟩ := len_cons g10
    obtain ⟨t12, l12, rfl, g12⟩ := len_cons g11
    obtain ⟨t13, l13, rfl, g13⟩ := len_cons g12
    obtain ⟨t14, l14, rfl, g14⟩ := len_cons g13
    obtain ⟨t15, l15, rfl, g15⟩ := len_cons g14
    obtain ⟨t16, l16, rfl, g16⟩ := len_cons g15
    obtain ⟨t17, l17, rfl, g17⟩ := len_cons g16
    obtain ⟨t18, l18, rfl, g18⟩ := len_cons g17
    obtain ⟨t19, l19, rfl, g19⟩ := len_cons g18
    obtain ⟨t20, l20, rfl, g20⟩ := len_cons g19
    obtain ⟨t21, l21, rfl, g21⟩ := len_cons g20
    obtain ⟨t22, l22, rfl, g22⟩ := len_cons g21
    obtain ⟨t23, l23, rfl, g23⟩ := len_cons g22
    obtain ⟨t24, l24, rfl, g24⟩ := len_cons g23
    obtain ⟨t25, l25, rfl, g25⟩ := len_cons g24
    obtain ⟨t26, l26, rfl, g26⟩ := len_cons g25
    obtain ⟨t27, l27, rfl, g27⟩ := len_cons g26
    obtain ⟨t28, l28, rfl, g28⟩ := len_cons g27
    obtain ⟨t29, l29, rfl, g29⟩ := len_cons g28
    obtain ⟨t30, l30, rfl, g30⟩ := len_cons g29
    obtain ⟨t31, l31, rfl, g31⟩ := len_cons g30
    obtain ⟨t32, l32, rfl, g32⟩ := len_cons g31
    obtain ⟨t33, l33, rfl, g33⟩ := len_cons g32
    obtain ⟨t34, l34, rfl, g34⟩ := len_cons g33
    obtain ⟨t35, l35, rfl, g35⟩ := len_cons g34
    obtain ⟨t36, l36, rfl, g36⟩ := len_cons g35
    obtain ⟨t37, l37, rfl, g37⟩ := len_cons g36
    obtain ⟨t38, l38, rfl, g38⟩ := len_cons g37
    obtain ⟨t39, l39, rfl, g39⟩ := len_cons g38
    obtain ⟨t40, l40, rfl, g40⟩ := len_cons g39
    obtain ⟨t41, l41, rfl, g41⟩ := len_cons g40
    obtain ⟨t42, l42, rfl, g42⟩ := len_cons g41
    obtain ⟨t43, l43, rfl, g43⟩ := len_cons g42
    obtain ⟨t44, l44, rfl, g44⟩ := len_cons g43
    obtain ⟨t45, l45, rfl, g45⟩ := len_cons g44
    obtain ⟨t46, l46, rfl, g46⟩ := len_cons g45
    obtain ⟨t47, l47, rfl, g47⟩ := len_cons g46
    obtain ⟨t48, l48, rfl, g48⟩ := len_cons g47
    obtain ⟨t49, l49, rfl, g49⟩ := len_cons g48
    obtain ⟨t50, l50, rfl, g50⟩ := len_cons g49
    obtain ⟨t51, l51, rfl, g51⟩ := len_cons g50
    obtain ⟨t52, l52, rfl, g52⟩ := len_cons g51
    obtain ⟨t53, l53, rfl, g53⟩ := len_cons g52
    obtain ⟨t54, l54, rfl, g54⟩ := len_cons g53
    obtain ⟨t55, l55, rfl, g55⟩ := len_cons g54
    obtain ⟨t56, l56, rfl, g56⟩ := len_cons g55
    obtain ⟨t57, l57, rfl, g57⟩ := len_cons g56
    obtain ⟨t58, l58, rfl, g58⟩ := len_cons g57
    obtain ⟨t59, l59, rfl, g59⟩ := len_cons g58
    obtain ⟨t60, l60, rfl, g60⟩ := len_cons g59
    obtain ⟨t61, l61, rfl, g61⟩ := len_cons g60
    obtain ⟨t62, l62, rfl, g62⟩ := len_cons g61
    obtain ⟨t63, l63, rfl, g63⟩ := len_cons g62
    obtain ⟨t64, l64, rfl, g64⟩ := len_cons g63
    obtain ⟨t65, l65, rfl, g65⟩ := len_cons g64
    obtain ⟨t66, l66, rfl, g66⟩ := len_cons g65
    obtain ⟨t67, l67, rfl, g67⟩ := len_cons g66
    obtain ⟨t68, l68, rfl, g68⟩ := len_cons g67
    obtain rfl : l68 = [] := List.length_eq_zero_iff.1 g68
    have h0 : t0 = .pointer (some ⟨p, 0, none⟩) := h0
    have h2 : t2 = .pointer (some ⟨w.heap.size, 0, none⟩) := h2
    have h3 : t3 = .pointer (some ⟨q, 0, none⟩) := h3
    subst h0 h2 h3
    clear hdf hsz g0 g1 g2 g3 g4 g5 g6 g7 g8 g9 g10 g11 g12 g13 g14 g15 g16 g17 g18 g19 g20 g21 g22 g23 g24 g25 g26 g27 g28 g29 g30 g31 g32 g33 g34 g35 g36 g37 g38 g39 g40 g41 g42 g43 g44 g45 g46 g47 g48 g49 g50 g51 g52 g53 g54 g55 g56 g57 g58 g59 g60 g61 g62 g63 g64 g65 g66 g67 g68 h0 h2 h3
    change Code.wp _ _ _ ({ tmps := #[.pointer (some ⟨p, 0, none⟩), t1, .pointer (some ⟨w.heap.size, 0, none⟩), .pointer (some ⟨q, 0, none⟩), t4, t5, t6, t7, t8, t9, t10, t11, t12, t13, t14, t15, t16, t17, t18, t19, t20, t21, t22, t23, t24, t25, t26, t27, t28, t29, t30, t31, t32, t33, t34, t35, t36, t37, t38, t39, t40, t41, t42, t43, t44, t45, t46, t47, t48, t49, t50, t51, t52, t53, t54, t55, t56, t57, t58, t59, t60, t61, t62, t63, t64, t65, t66, t67, t68], defers := [] } : Act) _
    have hBW : Below wA.heap.size wA (w1.setRow q #[v0, .slice none 0 0, .slice none 0 0, .int .i64 M.last, v4]) := Below.setRow hC (by have := HSA.out; omega) _
    have HTA : Hid (TG wA (w1.setRow q #[v0, .slice none 0 0, .slice none 0 0, .int .i64 M.last, v4]) w1.heap.size q M v0 v4 0 (w1.setRow q #[v0, .slice none 0 0, .slice none 0 0, .int .i64 M.last, v4])) :=
      ⟨hBW, fun _ _ _ => rfl, HT.out.hb0, _, [], HQ.out, RowE.nil _ _ _, rfl, fun i x hx => by simp at hx⟩
    have c1 := (HV.out.below hBW).c1
    have HAq : Hid (wA.heap.size ≤ q ∧ q < w1.heap.size) := ⟨by have := HSA.out; omega, HT.out.ql.2⟩
    clear hBW hC hq HQ
    revert HTA HT c1 HAq
    generalize w1.setRow _ _ = W
    generalize w1.heap.size = b0
    intro HT HTA c1 HAq
    obtain ⟨nc, hnc⟩ : ∃ nc, nc = M.cuts.length := ⟨_, rfl⟩
    have Hnc := (show Hid (nc = M.cuts.length ∧ nc ≤ 16) from ⟨hnc, by have := HV.out.ok.cuts; have := HV.out.ok.sides; omega⟩)
    have hnc16 : nc ≤ 16 := Hnc.out.2
    rw [← hnc] at c1
    clear hnc
    go_wp2_with fail
    clear c1
    go_loopw [31] (fun vi wr => ∃ k : Nat, vi = .int .i64 k ∧ k ≤ nc ∧ W = wr) (fun vi _ => nc - (intOf vi).toNat)
    case atStart => exact ⟨0, rfl, by omega, rfl⟩
    case round =>
      obtain ⟨k, rfl, hk, rfl⟩ := hrel
      by_cases hkn : k < nc
      · have hkz : (k : Int) < (nc : Int) := by omega
        obtain ⟨x, hx⟩ : ∃ x, M.cuts[k]? = some x := ⟨_, List.getElem?_eq_getElem (by have := Hnc.out.1; omega)⟩
        have hcx : W.cell? ⟨cg, k, none⟩ = some (.bool x) := (HV.out.below HTA.out.b).cut.cell (by rw [List.getElem?_map, hx]; rfl)
        obtain rfl := HCut.out x (List.mem_of_getElem? hx)
        clear hx
        go_wp2_with fail
        go_roundw
        case rel => exact ⟨k + 1, by go_num, by omega, by first | rfl | trivial⟩
        case measure =>
          simp [intOf]
          omega
      · have hkz : ¬ (k : Int) < (nc : Int) := by omega
        obtain rfl : k = nc := by omega
        have HWr := (show Hid (IsW W p M F) from ⟨_, _, _, _, _, _, _, _, _, _, HV.out.below HTA.out.b⟩)
        go_wp2_with fail
        refine (refs_W HWr.out).mono ?_
        rintro e w5 ⟨g, capg, rfl, hR, hb5⟩
        have HR5 := (show Hid (w5.ownsRow W.heap.size 25 1 (.slice (some ⟨g, 0, none⟩) M.things.length capg) M.things.length ((M.things.map (·.1)).map (Value.int .i64))) from hR)
        have HT5 : Hid (TG wA W b0 q M v0 v4 0 w5) := HTA.out.below hb5
        have Hbase := (show Hid (b0 ≤ W.heap.size) from HTA.out.sz)
        obtain ⟨n, hn⟩ : ∃ n, n = M.things.length := ⟨_, rfl⟩
        have Hn := (show Hid (n = M.things.length) from hn)
        rw [← hn] at hsm HR5 ⊢
        clear hR hb5 HTA HWr hn
        revert HR5 Hbase
        generalize hbs : W.heap.size = base
        intro Hbase HR5
        clear hbs
        go_wp2_with fail
        go_loopw [47] (fun vi wx => ∃ k : Nat, vi = .int .i64 k ∧ k ≤ n ∧ Hid (TG wA W b0 q M v0 v4 k wx) ∧ Hid (wx.ownsRow base 25 1 (.slice (some ⟨g, 0, none⟩) n capg) n ((M.things.map (·.1)).map (Value.int .i64)))) (fun vi _ => n - (intOf vi).toNat)
        case atStart => exact ⟨0, rfl, by omega, HT5, HR5⟩
        case round =>
          clear HT5 HR5
          obtain ⟨i, rfl, hi, HT5, HR5⟩ := hrel
          by_cases hin : i < n
          · have hiz : (i : Int) < (n : Int) := by omega
            obtain ⟨⟨r, t⟩, hx⟩ : ∃ x, M.things[i]? = some x := ⟨_, List.getElem?_eq_getElem (by have := Hn.out; omega)⟩
            have hat : M.at r = some t := HV.out.ok.at_of_mem (List.mem_of_getElem? hx)
            have HMy := (show Hid (mayV t.v = true ∧ (∀ v ∈ t.vs, mayV v = true) ∧ t.vs.length ≤ 1024) from ⟨(HL.out r t hat).1, (HL.out r t hat).2.1, Nat.le_trans (HL.out r t hat).2.2 (by decide)⟩)
            have hrw := HV.out.ok.at_wf hat
            have hcx : wr.cell? ⟨g, i, none⟩ = some (.int .i64 r) := by
              have := HR5.out.cellAt i (by omega)
              rw [this]
              simp [hx]
            have HVd := HV.out.below (HT5.out.b.trans (below_drew.mono HT5.out.b.size))
            have c2 := HVd.c2
            have hlk := HVd.look hrw
            rw [hat] at hlk
            simp only [Option.map_some] at hlk
            have hld := loadWhat_blk (HVd.blk r _ hat).1 rfl
            have HOwn : Hid (Calls Tryz.prog 80 #[.agg (thc t)] wr.drew fun e w' => ∃ vl' vals', e = .returned (.agg (thc { t with vl := vl', vals := vals' })) ∧ Below wr.drew.heap.size wr.drew w' ∧ Deep w' (fun b => wr.drew.heap.size ≤ b) { t with vl := vl', vals := vals' }) :=
              (ownWhat_G t (HVd.blk r _ hat).2.2.lies HMy.out.1 HMy.out.2.1 HMy.out.2.2).mono fun e w' ⟨vl', vals', h1, h2, h3, _⟩ => ⟨vl', vals', h1, h2, h3⟩
            obtain ⟨vT, l, r1, r2, r3⟩ := HT5.out.r
            have HR := (show Hid _ from And.intro r1 (And.intro r2 r3))
            have cT : wr.cell? ⟨q, 2, none⟩ = some vT := by rw [cell_blk r1]; rfl
            have Hlen : Hid (l.length = i) := by show _ = _; rw [r3.1, List.length_take]; have := Hn.out; omega
            have Hx := (show Hid (M.things[i]? = some (r, t)) from hx)
            obtain ⟨kd, hm, ⟨vk, vn, vstr, vlist, vr⟩, raw, vs, vals, nn, lo, tg, bi, s, fu, code, names⟩ := t
            have hDp := (HVd.blk r _ hat).2.2
            obtain ⟨pv, cv, hv⟩ := hDp.v.form
            obtain ⟨ps, cs, hvals⟩ := hDp.vs.form
            have hcd := hDp.code
            have hnm := hDp.names
            simp only at hv hvals hcd hnm
            subst hv hvals hcd hnm
            simp only [thc] at hld HOwn
            clear hx hat hrw HVd r1 r2 r3 hDp HMy
            go_wp2_with fail
            go_region_law (first
                | (go_simp
                   go_at_call 80
                   refine Calls.mono HOwn.out ?_
                   rintro e w5 ⟨vl', vals', rfl, hb5, hD5⟩
                   obtain ⟨pv', cv', hv'⟩ := hD5.v.form
                   obtain ⟨ps', cs', hvals'⟩ := hD5.vs.form
                   simp only at hv' hvals'
                   subst hv' hvals'
                   have hbb : Below wr.heap.size wr w5 := below_drew.trans hb5
                   have HT6 : Hid (TG wA W b0 q M v0 v4 i w5) := HT5.out.below hbb
                   have HX5 : Hid (w5.heap[q]? = some (.cells #[v0, .slice none 0 0, vT, .int .i64 M.last, v4] 67 (0, 0)) ∧ RowE w5 b0 (fun b => b0 ≤ b) vT l ∧ LikeT (M.things.take i) l ∧ w5.ownsRow base 25 1 (.slice (some ⟨g, 0, none⟩) n capg) n ((M.things.map (·.1)).map (Value.int .i64)) ∧ w5.ownsRow b0 117 17 vT i (eflat l)) := by
                     have h2 := HR.out.2.1.below hbb
                     exact ⟨below_blk hbb HR.out.1, h2, HR.out.2.2, row_below HR5.out hbb, by have := h2.row; rw [Hlen.out] at this; exact this⟩
                   have HD5 : Hid (DeepR w5 (fun b => wr.heap.size ≤ b) ⟨kd, hm, ⟨vk, vn, vstr, vlist, vr⟩, .slice pv' vlist.length cv', vs, .slice ps' vs.length cs', nn, lo, tg, bi, s, fu, .slice none 0 0, .slice none 0 0⟩ ∧ b0 ≤ wr.heap.size ∧ ∀ b, vT.ownBlock = some b → b < wr.heap.size) := ⟨⟨hD5.v.at, hD5.vs.at, rfl, rfl⟩, HT5.out.sz, fun b e => (HR.out.2.1.own b e).2⟩
                   have cT5 : w5.cell? ⟨q, 2, none⟩ = some vT := by rw [cell_blk HX5.out.1]; rfl
                   have cT6 : (w5.alloc (.cells #[.int .i64 r, .int .u8 kd, .int .i64 hm, .int .u8 vk, .int .i64 vn, .string vstr, .slice pv' vlist.length cv', .int .i64 vr, .slice ps' vs.length cs', .int .i64 nn, .int .i64 lo, .int .i64 tg, .int .i64 bi, .int .u8 s, .bool fu, .slice none 0 0, .slice none 0 0] 117)).cell? ⟨q, 2, none⟩ = some vT := cell_al cT5 _
                   dsimp only
                   clear hD5 hb5 hbb)
                | (apply step_entryG (w5 := w5) (b0 := b0) (n := i) (v := vT) (xs := eflat l) (y := (r, ⟨kd, hm, ⟨vk, vn, vstr, vlist, vr⟩, .slice pv' vlist.length cv', vs, .slice ps' vs.length cs', nn, lo, tg, bi, s, fu, .slice none 0 0, .slice none 0 0⟩))
                   · exact rfl
                   · exact rfl
                   · exact rfl
                   · exact rfl
                   · exact rfl
                   · exact HX5.out.2.2.2.2
                   · simp [entc, thc, go_sem]
                   · omega
                   · exact HT6.out.sz
                   intro g6 cap6 w6 r1 r2 r3
                   obtain ⟨hA6, hR6, cz6, fz6⟩ := TG.app Hlen.out HT6.out HAq.out.1 HAq.out.2 HX5.out.1 HX5.out.2.1 HX5.out.2.2.1 Hx.out HD5.out.1 HD5.out.2.1 HD5.out.2.2 HX5.out.2.2.2.1 Hbase.out r1 r2 r3
                   have HA6 := (show Hid _ from hA6)
                   have HR6 := (show Hid _ from hR6)
                   clear hA6 hR6 r1 r2 r3))
            all_goals
              clear HX5 HT6 HR cz6 fz6 cT5 cT6 HD5 HOwn
              go_wp2_with fail
              go_roundw
              case rel => exact ⟨i + 1, by go_num, by omega, HA6, HR6⟩
              case measure =>
                simp [intOf]
                omega
          · have hiz : ¬ (i : Int) < (n : Int) := by omega
            obtain rfl : i = n := by omega
            have hT := HT5.out
            obtain ⟨vT, l, r1, r2, r3⟩ := hT.r
            rw [List.take_of_length_le (by have := Hn.out; omega)] at r3
            have hb := HBA.out.trans (hT.b.mono HBA.out.size)
            have hTd := TG.told HT.out hT hb r2 r3 #[v0, .slice none 0 0, vT, .int .i64 M.last, v4]
            have HTd := (show Hid _ from hTd)
            have hr0 : wr.heap[w.heap.size]? = some (.cells #[.slice none 0 0, .slice none 0 0, .slice none 0 0, .int .i64 0, .slice none 0 0] 67 (0, 0)) := (hT.kp _ (by have := HT.out.ql; omega) (by have := HT.out.ql; omega)).trans HT.out.r0
            have hone : (#[v0, .slice none 0 0, vT, .int .i64 M.last, v4] : Array Value).all (·.oneCell') = true := by
              obtain ⟨_, _, rfl, -⟩ := HT.out.s
              obtain ⟨_, _, rfl, -⟩ := HT.out.m
              obtain ⟨_, _, rfl⟩ := r2.form
              simp [go_sem]
            have hld := loadA_blk r1 rfl
            have hst := storeA_blk hr0 rfl rfl hone
            have HG := (show Hid _ from heap_setRow_at (c' := #[v0, .slice none 0 0, vT, .int .i64 M.last, v4]) hr0)
            clear hT r1 r2 r3 hb hTd hr0 hone HT5 HR5
            go_wp2_with fail
            refine bodyPost_ret (results_cell_row (P := Tryz.prog) rfl _ _ _ 67 _ _ _ rfl HG.out Tryz.underlying67 rfl sizeAW) rfl ⟨_, rfl, HTd.out.1, HTd.out.2⟩
end Go.Proofs.YthaliljaglldjaaGreat
/- posternref02.Refs: the references of a value that may be. -/
namespace Go.Proofs.YthaliljaglldjaaGreat
open Go.RowKit Go.ChangeMaps Go.MapKept
def Refs2C (n : Nat) : Prop := ∀ (v : Val) (p q : Nat) (raw : Value) (w : World) (F : Nat → Prop), p ≤ 512 → takeV n p v = some q → SlAt w F raw v.l →
  Calls Tryz.prog 243 #[.agg (vcs v raw)] w fun e w' => ∃ u, e = .returned u ∧ RefRow w' w.heap.size u (refsN n v) ∧ Below w.heap.size w w'
set_option maxHeartbeats 4000000 in
set_option maxRecDepth 8000 in
attribute [local go_sem ↓] execOp_ldR23 in
theorem refs2_step (n : Nat) (ih : ∀ m, n = m + 1 → Refs2C m) : Refs2C n := by
  intro v p q raw w F hp hT hS
  obtain ⟨p', rfl, hF⟩ := takeV_form4 hT
  obtain ⟨kind, nn, s, l, r⟩ := v
  obtain ⟨pa, c, rfl⟩ := hS.form
  simp only at hS hF
  have H0 : Hid (R7L w #[.int .u8 kind, .int .i64 nn, .string s, .slice pa l.length c, .int .i64 r] (.slice none 0 0) [] (w.alloc (.cells #[.int .u8 kind, .int .i64 nn, .string s, .slice pa l.length c, .int .i64 r] 27))) := ⟨(Below.refl _ w).alloc (Nat.le_refl _) _, blk_new _ _, World.ownsRow_nil _ _ _ _⟩
  by_cases h4 : kind = 4
  · have hl : l = [] := by
      rcases hF with ⟨hl, -⟩ | ⟨m, -, h3, -⟩
      · exact hl
      · omega
    subst h4 hl
    have HE : Hid (refsN n ⟨4, nn, s, [], r⟩ = [r]) := by cases n <;> rfl
    clear hF hS ih hT hp
    simp only [vcs] at H0 ⊢
    go_enter Tryz.func243, Tryz.ntmps243
    go_wp2_with fail
    go_ret
    refine ⟨_, rfl, ?_, ((Below.refl _ w).alloc (Nat.le_refl _) _).alloc (by simp) _⟩
    rw [HE.out]
    exact ⟨by simp, .inr ⟨w.heap.size + 1, 1, #[.int .i64 r], rfl, by omega, blk2_new w _ _, by first | rfl | simp, by decide, by rfl, by rfl⟩⟩
  · obtain ⟨g, HG⟩ : ∃ g : Val → List Int, Hid (refsN n ⟨kind, nn, s, l, r⟩ = l.flatMap g ∧ (∀ x ∈ l, ∀ raw w F, SlAt w F raw x.l → Calls Tryz.prog 243 #[.agg (vcs x raw)] w fun e w' => ∃ u, e = .returned u ∧ RefRow w' w.heap.size u (g x) ∧ Below w.heap.size w w') ∧ l.length ≤ 512 ∧ (l.flatMap g).length ≤ 512) := by
      rcases hF with ⟨rfl, -⟩ | ⟨m, rfl, h3, -, -, -, hlen, hL⟩
      · exact ⟨fun _ => [], by cases n <;> simp [refsN, h4], (fun x hx => by cases hx), Nat.zero_le _, Nat.zero_le _⟩
      · have hb := refsN_le hT
        have e : refsN (m + 1) ⟨kind, nn, s, l, r⟩ = l.flatMap (refsN m) := by simp [refsN, h4]
        rw [e] at hb
        refine ⟨refsN m, e, fun x hx raw w F h => ?_, by omega, by omega⟩
        obtain ⟨p1, q1, h1, h2⟩ := takeL_all hL x hx
        exact ih m rfl x p1 q1 raw w F (by omega) h2 h
    have HS := (show Hid (∀ w', Below w.heap.size w w' → SlAt w' F (.slice pa l.length c) l) from fun w' hb => hS.on hb)
    have hb4 : (kind == 4) = false := by simpa using h4
    clear hF hS ih hT hp
    simp only [vcs] at H0 ⊢
    go_enter Tryz.func243, Tryz.ntmps243
    go_upto_region 5 with fail
    go_loopw [3, 4] (fun vu vi wr => ∃ i : Nat, vi = .int .i64 i ∧ i ≤ l.length ∧ Hid (R7L w #[.int .u8 kind, .int .i64 nn, .string s, .slice pa l.length c, .int .i64 r] vu ((l.take i).flatMap g) wr)) (fun _ vi _ => l.length - (intOf vi).toNat)
    case atStart => exact ⟨0, rfl, Nat.zero_le _, H0.out⟩
    case round =>
      clear H0
      obtain ⟨i, rfl, hi, HR⟩ := hrel
      have c3 : wr.cell? ⟨w.heap.size, 3, none⟩ = some (.slice pa l.length c) := by rw [cell_blk HR.out.box]; rfl
      by_cases hil : i < l.length
      · have hiz : (i : Int) < (l.length : Int) := by omega
        obtain ⟨y, hy⟩ : ∃ y, l[i]? = some y := ⟨_, List.getElem?_eq_getElem hil⟩
        obtain ⟨b, o, cq, raw, hpe, hrg, hlt, -, hSx⟩ := (HS.out wr HR.out.bel).range hy
        have hpa : pa = some ⟨b, o, none⟩ := by injection hpe
        subst hpa
        have hld := loadV_mid hrg (by simp [vcs])
        rw [Array.toArray_toList] at hld
        have HC := (show Hid _ from HG.out.2.1 y (List.mem_of_getElem? hy) raw wr F hSx)
        have Htk : Hid ((l.take (i + 1)).flatMap g = (l.take i).flatMap g ++ g y) := by
          show _ = _
          rw [List.take_add_one, hy]
          simp
        have Hlen : Hid (((l.take i).flatMap g).length + (g y).length ≤ 1000000) := by
          have e1 := congrArg List.length Htk.out
          rw [List.length_append] at e1
          have e2 : ((l.take (i + 1)).flatMap g).length + ((l.drop (i + 1)).flatMap g).length = (l.flatMap g).length := by
            rw [← List.length_append, ← List.flatMap_append, List.take_append_drop]
          have := HG.out.2.2.2
          show _ ≤ _
          omega
        have hwi : wrap64 ((i : Int) + 1) = (i : Int) + 1 := by have := HG.out.2.2.1; unfold wrap64; omega
        clear hrg hSx hlt hpe hy
        go_wp2_with fail
        refine Calls.mono HC.out ?_
        rintro e w2 ⟨u2, rfl, hr2, hb2⟩
        have HB2 := (show Hid (Below w.heap.size w w2 ∧ w2.heap[w.heap.size]? = _) from ⟨HR.out.bel.trans (hb2.mono HR.out.bel.size), below_blk hb2 HR.out.box⟩)
        have HO2 := (show Hid (w2.ownsRow (w.heap.size + 1) 25 1 u3 ((l.take i).flatMap g).length (((l.take i).flatMap g).map (Value.int .i64))) from refRow_on HR.out.row hb2)
        have HN2 := (show Hid (w2.ownsRow wr.heap.size 25 1 u2 (g y).length ((g y).map (Value.int .i64))) from hr2)
        have HZ : Hid (w.heap.size + 1 ≤ w2.heap.size) := blk_lt HB2.out.2
        generalize (l.take i).flatMap g = pre at HR Htk Hlen HO2
        clear hr2 hb2 HR hld c3 HC
        go_wp2_with (at_builtin; refine append_refs rfl _ _ rfl (w.heap.size + 1) _ _ pre (g y) rfl rfl HO2.out _ HN2.out Hlen.out HZ.out ?_; intro v' w5 hown' hb5
                     have HR7 := (show Hid (R7L w _ v' ((l.take (i + 1)).flatMap g) w5) from ⟨HB2.out.1.trans (hb5.mono (Nat.le_succ _) |>.trans (Below.refl _ _)), (hb5.block _ (Nat.lt_succ_self _)).trans HB2.out.2, Htk.out ▸ hown'⟩)
                     clear hown' hb5 HO2 HN2 HB2 HZ)
        go_roundw
        case rel => exact ⟨i + 1, by go_num, by omega, HR7.out⟩
        case measure => rw [hwi]; simp [intOf]; omega
      · have hiz : ¬ (i : Int) < (l.length : Int) := by omega
        obtain rfl : i = l.length := by omega
        have hkk : ¬ (l.length : Int) < (l.length : Int) := by omega
        have HRx := HR.out
        rw [List.take_length] at HRx
        have HRo := (show Hid (R7L w _ u3 (l.flatMap g) wr) from HRx)
        clear HRx HR
        go_wp2_with fail
        go_ret
        exact ⟨_, rfl, by rw [HG.out.1]; exact refRow_mono HRo.out.row (Nat.le_succ _), HRo.out.bel⟩
theorem refs2_W (n : Nat) : Refs2C n := by
  induction n with
  | zero => exact refs2_step 0 (fun m h => by cases h)
  | succ n ih => exact refs2_step (n + 1) (fun m h => by cases h; exact ih)
end Go.Proofs.YthaliljaglldjaaGreat
/- posternref02's look, Parts, May: at a value that may be. -/
namespace Go.Proofs.YthaliljaglldjaaGreat
open Go.RowKit Go.ChangeMaps Go.MapKept
theorem beq_nil {s : ByteArray} (h : (s == ⟨#[]⟩) = true) : s = ⟨#[]⟩ := by
  rcases s with ⟨⟨l⟩⟩
  cases l with
  | nil => rfl
  | cons x l => exact absurd h (by intro h; cases h)
theorem chk_all {n r : Int} {s : ByteArray} {len : Nat} (h : chk n s r len = true) : n = 0 ∧ s = ⟨#[]⟩ ∧ r = 0 ∧ len = 0 := by
  simp only [chk, Bool.and_eq_true, beq_iff_eq] at h
  exact ⟨h.1, beq_nil h.2.1, h.2.2.1, h.2.2.2⟩
theorem takeV_form {n p q : Nat} {v : Val} (h : takeV n p v = some q) : ∃ p', p = p' + 1 ∧
    ((v.l = [] ∧ q = p' ∧ (v.kind = 0 ∧ v.n = 0 ∧ v.s = ⟨#[]⟩ ∧ v.r = 0 ∨ v.kind = 1 ∧ v.s = ⟨#[]⟩ ∧ v.r = 0 ∨ v.kind = 2 ∧ v.n = 0 ∧ v.r = 0 ∧ ¬ v.s.size > 256 ∨ v.kind = 4 ∧ v.n = 0 ∧ v.s = ⟨#[]⟩ ∧ ¬ v.r < 1)) ∨
      (∃ m, n = m + 1 ∧ v.kind = 3 ∧ v.n = 0 ∧ v.s = ⟨#[]⟩ ∧ v.r = 0 ∧ ¬ v.l.length > p' ∧ takeL m p' v.l = some q)) := by
  cases p with
  | zero => cases n <;> cases h
  | succ p =>
    refine ⟨p, rfl, ?_⟩
    by_cases h0 : v.kind = 0
    · rw [tk0 h0] at h
      split at h
      · obtain ⟨a, b, c, d⟩ := chk_all (by assumption)
        cases h
        exact .inl ⟨List.length_eq_zero_iff.1 d, rfl, .inl ⟨h0, a, b, c⟩⟩
      · cases h
    by_cases h1 : v.kind = 1
    · rw [tk1 h1] at h
      split at h
      · obtain ⟨a, b, c, d⟩ := chk_all (by assumption)
        cases h
        exact .inl ⟨List.length_eq_zero_iff.1 d, rfl, .inr (.inl ⟨h1, b, c⟩)⟩
      · cases h
    by_cases h2 : v.kind = 2
    · rw [tk2 h2] at h
      split at h
      · cases h
      · rename_i hs
        split at h
        · obtain ⟨a, b, c, d⟩ := chk_all (by assumption)
          cases h
          exact .inl ⟨List.length_eq_zero_iff.1 d, rfl, .inr (.inr (.inl ⟨h2, a, c, hs⟩))⟩
        · cases h
    by_cases h4 : v.kind = 4
    · rw [tk4 h4] at h
      split at h
      · cases h
      · rename_i hs
        split at h
        · obtain ⟨a, b, c, d⟩ := chk_all (by assumption)
          cases h
          exact .inl ⟨List.length_eq_zero_iff.1 d, rfl, .inr (.inr (.inr ⟨h4, a, b, hs⟩))⟩
        · cases h
    by_cases h3 : v.kind = 3
    · cases n with
      | zero => rw [tk3z h3] at h; cases h
      | succ m =>
        by_cases hl : v.l.length > p
        · rw [tk3l h3 hl] at h; cases h
        · rw [tk3 h3 hl] at h
          split at h
          · cases h
          · rename_i q' hq
            split at h
            · obtain ⟨a, b, c, d⟩ := chk_all (by assumption)
              cases h
              exact .inr ⟨m, rfl, h3, a, b, c, hl, hq⟩
            · cases h
    rw [tkx h0 h1 h2 h3 h4] at h
    cases h
theorem takeL_front {n p i q : Nat} {l : List Val} (h : takeL n p l = some q) : ∃ q', takeL n p (l.take i) = some q' := by
  cases e : takeL n p (l.take i) with
  | some q' => exact ⟨q', rfl⟩
  | none => rw [takeL_none e] at h; cases h
theorem measL {k n : Nat} (h : k < n) : n - (intOf (.int .i64 ((k : Int) + 1))).toNat < n - (intOf (.int .i64 (k : Int))).toNat := by
  simp [intOf]
  omega
def LookC (n : Nat) : Prop := ∀ (p q : Nat) (v : Val) (raw : Value) (w : World) (F : Nat → Prop), n ≤ 16 → p ≤ 512 → SlAt w F raw v.l → takeV n p v = some q →
  Calls Tryz.prog 270 #[.agg (vcs v raw), .int .i64 p, .int .i64 n] w fun e w' => e = .returned (.int .i64 ((p : Int) - (q : Int))) ∧ Below w.heap.size w w'
theorem execOp_ldV93 (ρ : Operand → Value) (ty : TypeId) (pos : String) (af : Array Edge) (g : Option (Nat × Bool)) :
    execOp ρ { dst := some 93, op := .load 27 (.tmp 92), type := ty, pos := pos, after := af, guard := g } = ldV (ρ (.tmp 92)) := rfl
attribute [local go_sem ↓] execOp_ldV93 in
set_option maxHeartbeats 4000000 in
set_option maxRecDepth 8000 in
theorem look_step (n : Nat) (ih : ∀ m, n = m + 1 → LookC m) : LookC n := by
  intro p q v raw w F hn hp hS hT
  obtain ⟨p', rfl, hF⟩ := takeV_form hT
  have hq := takeV_lt hT
  clear hT
  have hp1 : ¬ (((p' + 1 : Nat) : Int) < 1) := by omega
  rcases hF with ⟨hl, rfl, hk⟩ | ⟨m, rfl, h3, hn0, hs0, hr0, hlen, hL⟩
  · obtain ⟨kind, nn, s, l, r⟩ := v
    simp only at hl hk
    subst hl
    obtain ⟨pa, c, rfl⟩ := hS.form
    clear hS ih
    have HP : Hid (((q + 1 : Nat) : Int) - (q : Int) = 1) := by show _ = _; omega
    have HB : Hid (Below w.heap.size w (w.alloc (.cells #[.int .u8 kind, .int .i64 nn, .string s, .slice pa 0 c, .int .i64 r] 27))) := (Below.refl _ w).alloc (Nat.le_refl _) _
    simp only [vcs, List.length_nil]
    rw [HP.out]
    clear hq
    rcases hk with ⟨rfl, rfl, rfl, rfl⟩ | ⟨rfl, rfl, rfl⟩ | ⟨rfl, rfl, rfl, hs⟩ | ⟨rfl, rfl, rfl, hs⟩
    · go_enter Tryz.func270, Tryz.ntmps270
      go_wp2_with fail
      go_ret
      exact ⟨rfl, HB.out⟩
    · go_enter Tryz.func270, Tryz.ntmps270
      go_wp2_with fail
      go_ret
      exact ⟨rfl, HB.out⟩
    · have hs2 : ¬ (s.size : Int) > 256 := by omega
      go_enter Tryz.func270, Tryz.ntmps270
      go_wp2_with fail
      go_ret
      exact ⟨rfl, HB.out⟩
    · go_enter Tryz.func270, Tryz.ntmps270
      go_wp2_with fail
      go_ret
      exact ⟨rfl, HB.out⟩
  · obtain ⟨kind, nn, s, l, r⟩ := v
    simp only at h3 hn0 hs0 hr0 hlen hL hS
    subst h3 hn0 hs0 hr0
    obtain ⟨pa, c, rfl⟩ := hS.form
    have HS := (show Hid (SlAt w F (.slice pa l.length c) l) from hS)
    have HL := (show Hid (takeL m p' l = some q) from hL)
    have IH := (show Hid (LookC m) from ih m rfl)
    obtain ⟨P, hP⟩ : ∃ P, P = p' + 1 := ⟨_, rfl⟩
    obtain ⟨D, hD⟩ : ∃ D, D = m + 1 := ⟨_, rfl⟩
    rw [← hP] at hp1 hp hq ⊢
    rw [← hD] at hn ⊢
    have h2 : ¬ ((D : Int) < 1) := by omega
    have h4 : ¬ ((l.length : Int) ≥ (P : Int)) := by omega
    have HA : Hid (P ≤ 512 ∧ D ≤ 16 ∧ q < P ∧ P = p' + 1 ∧ D = m + 1) := ⟨hp, hn, hq, hP, hD⟩
    clear hS hL ih hq hn hlen hP hD hp
    simp only [vcs]
    go_enter Tryz.func270, Tryz.ntmps270
    go_wp2_with fail
    have HB0 : Hid (Below w.heap.size w (w.alloc (.cells #[.int .u8 3, .int .i64 0, .string ⟨#[]⟩, .slice pa l.length c, .int .i64 0] 27)) ∧ (w.alloc (.cells #[.int .u8 3, .int .i64 0, .string ⟨#[]⟩, .slice pa l.length c, .int .i64 0] 27)).heap[w.heap.size]? = some (.cells #[.int .u8 3, .int .i64 0, .string ⟨#[]⟩, .slice pa l.length c, .int .i64 0] 27 (0, 0))) := ⟨(Below.refl _ w).alloc (Nat.le_refl _) _, blk_new _ _⟩
    go_loopw [7, 8] (fun va vi wr => ∃ (k qk : Nat) (a : Int), va = .int .i64 a ∧ vi = .int .i64 k ∧ k ≤ l.length ∧ Hid (a = (P : Int) - qk ∧ takeL m p' (l.take k) = some qk ∧ Below w.heap.size w wr ∧ wr.heap[w.heap.size]? = some (.cells #[.int .u8 3, .int .i64 0, .string ⟨#[]⟩, .slice pa l.length c, .int .i64 0] 27 (0, 0)))) (fun _ vi _ => l.length - (intOf vi).toNat)
    case atStart => exact ⟨0, p', 1, rfl, rfl, Nat.zero_le _, by have := HA.out; omega, rfl, HB0.out⟩
    case round =>
      obtain ⟨k, qk, a, rfl, rfl, hk, HI⟩ := hrel
      have c3 : wr.cell? ⟨w.heap.size, 3, none⟩ = some (.slice pa l.length c) := by rw [cell_blk HI.out.2.2.2]; rfl
      by_cases hkl : k < l.length
      · have hkz : (k : Int) < (l.length : Int) := by omega
        have hkz2 : ¬ (k : Int) ≥ (l.length : Int) := by omega
        obtain ⟨x, hx⟩ : ∃ x, l[k]? = some x := ⟨_, List.getElem?_eq_getElem hkl⟩
        obtain ⟨b, o, c', raw, hpe, hrg, -, -, hSx⟩ := (HS.out.on HI.out.2.2.1).range hx
        cases hpe
        obtain ⟨q', hq'⟩ : ∃ q', takeV m qk x = some q' := by
          have h1 := takeL_take hx HI.out.2.1
          obtain ⟨q', h2⟩ := takeL_front (i := k + 1) HL.out
          exact ⟨q', h1 ▸ h2⟩
        have hlq := takeV_lt hq'
        have hqk : qk ≤ p' := takeL_le (fun p v q h => Nat.le_of_lt (takeV_lt h)) _ _ _ HI.out.2.1
        obtain ⟨xk, xn, xs, xl, xr⟩ := x
        obtain ⟨qa, qc, rfl⟩ := hSx.form
        have hld0 := loadV_mid hrg rfl
        have hld : (ldV (.pointer (some ⟨b, o + k * 5, none⟩))).run Tryz.prog wr = .ok (.value (.agg #[.int .u8 xk, .int .i64 xn, .string xs, .slice qa xl.length qc, .int .i64 xr])) wr := hld0
        have Hx := (show Hid (SlAt wr F (.slice qa xl.length qc) xl ∧ takeV m qk ⟨xk, xn, xs, xl, xr⟩ = some q' ∧ qk ≤ 512 ∧ takeL m p' (l.take (k + 1)) = some q') from ⟨hSx, hq', by have := HA.out; omega, by rw [takeL_take hx HI.out.2.1]; exact hq'⟩)
        have hwk : wrap64 ((k : Int) + 1) = (k : Int) + 1 := by have := HA.out; unfold wrap64; omega
        have hw1 : wrap64 ((P : Int) - a) = (qk : Int) := by rw [HI.out.1]; have := HA.out; unfold wrap64; omega
        have hw2 : wrap64 ((D : Int) - 1) = (m : Int) := by have := HA.out; unfold wrap64; omega
        have hn0 : ¬ ((qk : Int) - (q' : Int) < 0) := by omega
        have hw3 : Hid (wrap64 (a + ((qk : Int) - (q' : Int))) = (P : Int) - q') := by show _ = _; rw [HI.out.1]; have := HA.out; unfold wrap64; omega
        clear hld0 hx hrg hSx hq' hlq hqk
        go_wp2_with fail
        refine (IH.out qk q' ⟨xk, xn, xs, xl, xr⟩ _ _ _ (by have := HA.out; omega) Hx.out.2.2.1 Hx.out.1 Hx.out.2.1).mono ?_
        rintro e w5 ⟨rfl, hb5⟩
        have HI5 := (show Hid (Below w.heap.size w w5 ∧ _) from ⟨HI.out.2.2.1.trans (hb5.mono HI.out.2.2.1.size), below_blk hb5 HI.out.2.2.2⟩)
        clear hb5 HI hld c3
        go_wp2_with fail
        go_roundw
        case rel => exact ⟨k + 1, q', _, rfl, by go_num, by omega, hw3.out, Hx.out.2.2.2, HI5.out⟩
        case measure => rw [hwk]; exact measL hkl
      · have hkz : ¬ (k : Int) < (l.length : Int) := by omega
        obtain rfl : k = l.length := by omega
        have hkk : ¬ (l.length : Int) < (l.length : Int) := by omega
        have hqq : qk = q := by
          have h1 := HI.out.2.1
          rw [List.take_length, HL.out] at h1
          cases h1
          rfl
        subst hqq
        have HB := (show Hid (Below w.heap.size w wr) from HI.out.2.2.1)
        obtain ⟨rfl, -⟩ := HI.out
        clear HI
        go_wp2_with fail
        go_ret
        exact ⟨rfl, HB.out⟩
theorem look_G (n : Nat) : LookC n := by
  induction n with
  | zero => exact look_step 0 (fun m h => by cases h)
  | succ n ih => exact look_step (n + 1) (fun m h => by cases h; exact ih)
set_option maxRecDepth 8000 in
theorem rParts_G {w : World} {F : Nat → Prop} {v : Val} {raw : Value} (hS : SlAt w F raw v.l) (hm : mayV v = true) : Calls Tryz.prog 242 #[.agg (vcs v raw)] w fun e w' => ∃ a : Int, e = .returned (.int .i64 a) ∧ 0 < a ∧ Below w.heap.size w w' := by
  obtain ⟨q, hq⟩ := Option.isSome_iff_exists.1 hm
  have hlt := takeV_lt hq
  obtain ⟨pa, c, rfl⟩ := hS.form
  have HK : Hid (∀ w', Below w.heap.size w w' → Calls Tryz.prog 270 #[.agg (vcs v (.slice pa v.l.length c)), .int .i64 512, .int .i64 16] w' fun e w'' => e = .returned (.int .i64 ((512 : Int) - (q : Int))) ∧ Below w'.heap.size w' w'') := fun w' hb => look_G 16 512 q v _ w' _ (by omega) (by omega) (hS.on hb) hq
  have h1 : ¬ ((512 : Int) - (q : Int) < 0) := by omega
  have H2 : Hid (0 < (512 : Int) - (q : Int)) := by show _ < _; omega
  clear hS hm hq hlt
  obtain ⟨k, n, s, l, r⟩ := v
  simp only [vcs] at HK ⊢
  generalize l.length = m at *
  have HB0 : Hid (Below w.heap.size w (w.alloc (.cells #[.int .u8 k, .int .i64 n, .string s, .slice pa m c, .int .i64 r] 27))) := (Below.refl _ w).alloc (Nat.le_refl _) _
  go_enter Tryz.func242, Tryz.ntmps242
  go_wp2_with fail
  refine Calls.mono (HK.out _ HB0.out) ?_
  rintro e w1 ⟨rfl, hb1⟩
  have HB1 : Hid (Below w.heap.size w w1) := HB0.out.trans (hb1.mono HB0.out.size)
  clear hb1 HB0
  go_wp2_with fail
  go_ret
  exact ⟨_, rfl, H2.out, HB1.out⟩
set_option maxRecDepth 8000 in
theorem rMay_G {w : World} {F : Nat → Prop} {v : Val} {raw : Value} (hS : SlAt w F raw v.l) (hm : mayV v = true) : Calls Tryz.prog 182 #[.agg (vcs v raw)] w fun e w' => e = .returned (.bool true) ∧ Below w.heap.size w w' := by
  obtain ⟨pa, c, rfl⟩ := hS.form
  have HK : Hid (∀ w', Below w.heap.size w w' → Calls Tryz.prog 242 #[.agg (vcs v (.slice pa v.l.length c))] w' fun e w'' => ∃ a : Int, e = .returned (.int .i64 a) ∧ 0 < a ∧ Below w'.heap.size w' w'') := fun w' hb => rParts_G (hS.on hb) hm
  clear hS hm
  obtain ⟨k, n, s, l, r⟩ := v
  simp only [vcs] at HK ⊢
  generalize l.length = m at *
  have HB0 : Hid (Below w.heap.size w (w.alloc (.cells #[.int .u8 k, .int .i64 n, .string s, .slice pa m c, .int .i64 r] 27))) := (Below.refl _ w).alloc (Nat.le_refl _) _
  go_enter Tryz.func182, Tryz.ntmps182
  go_wp2_with fail
  refine Calls.mono (HK.out _ HB0.out) ?_
  rintro e w1 ⟨a, rfl, ha, hb1⟩
  have ha2 : a > 0 := ha
  have HB1 : Hid (Below w.heap.size w w1) := HB0.out.trans (hb1.mono HB0.out.size)
  clear hb1 HB0 ha
  go_wp2_with fail
  go_ret
  exact ⟨rfl, HB1.out⟩
end Go.Proofs.YthaliljaglldjaaGreat
