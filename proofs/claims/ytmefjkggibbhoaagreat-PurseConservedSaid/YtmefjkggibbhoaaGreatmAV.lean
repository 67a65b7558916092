/- A part of the proof, several texts in one: Side, ConB, SameA, SameB, Open, SameC. -/
import Derived.Test.YtmefjkggibbhoaaGreatmAU
import Derived.Test.YtmefjkggibbhoaaGreatmAN
import Derived.Maps.AppendAt
import Derived.Test.YtmefjkggibbhoaaGreatmAQ
import Derived.Test.YtmefjkggibbhoaaGreatmAB
import Derived.Deep.MidRow
import Derived.Test.YtmefjkggibbhoaaGreatmAP
import Derived.WalkKit
import Derived.ProofKit
import Derived.OpenShut
import Derived.ChangeSame
import Derived.ChangeSlices
import Derived.Carry
import Derived.RowKit
import Derived.Test.YtmefjkggibbhoaaGreatmAD
import Derived.Deep.QuietTactic
import Derived.BigQuiet
/- A world of the call's own, and blocks beside it: lists and maps that a law keeps for itself. -/
namespace Go.Proofs.YtmefjkggibbhoaaGreat
open Go.RowKit Go.ChangeMaps Go.MapKept

/-- A world of the call's own; the blocks S are none of its. -/
def OwnS (w0 w : World) (p : Nat) (M : WM) (S : Nat → Prop) : Prop := ∃ F, IsW w p M F ∧ (∀ b, F b → w0.heap.size ≤ b) ∧ Below w0.heap.size w0 w ∧ ∀ b, S b → ¬ F b ∧ b < w.heap.size
/-- The blocks S are as they were. -/
def Kept (S : Nat → Prop) (w w' : World) : Prop := w.heap.size ≤ w'.heap.size ∧ ∀ b, S b → w'.heap[b]? = w.heap[b]?
section
variable {w0 w w' : World} {p : Nat} {M M' : WM} {S : Nat → Prop} {F F' : Nat → Prop}
theorem OwnS.base (h : OwnS w0 w p M S) : Below w0.heap.size w0 w := by
  obtain ⟨F, -, -, h3, -⟩ := h
  exact h3
theorem OwnS.own (h : OwnS w0 w p M S) : Own w0 w p M := by
  obtain ⟨F, h1, h2, h3, -⟩ := h
  exact ⟨F, h1, h2, h3⟩
theorem OwnS.mono {T : Nat → Prop} (h : OwnS w0 w p M S) (hT : ∀ b, T b → S b) : OwnS w0 w p M T := by
  obtain ⟨F, h1, h2, h3, h4⟩ := h
  exact ⟨F, h1, h2, h3, fun b hb => h4 b (hT b hb)⟩
theorem OwnS.of (h : Own w0 w p M) : OwnS w0 w p M NoB := by
  obtain ⟨F, h1, h2, h3⟩ := h
  exact ⟨F, h1, h2, h3, fun b hb => hb.elim⟩
theorem OwnS.below (h : OwnS w0 w p M S) (hb : Below w.heap.size w w') : OwnS w0 w' p M S ∧ Kept S w w' := by
  obtain ⟨F, h1, h2, h3, h4⟩ := h
  exact ⟨⟨F, h1.below hb, h2, h3.trans (hb.mono h3.size), fun b h => ⟨(h4 b h).1, Nat.lt_of_lt_of_le (h4 b h).2 hb.size⟩⟩, hb.size, fun b h => hb.block b (h4 b h).2⟩
theorem OwnS.turn (h2 : ∀ b, F b → w0.heap.size ≤ b) (h3 : Below w0.heap.size w0 w) (h4 : ∀ b, S b → ¬ F b ∧ b < w.heap.size) (hW : IsW w' p M' F') (hg : Grew F w F' w') : OwnS w0 w' p M' S ∧ Kept S w w' := by
  refine ⟨⟨F', hW, fun b hb => ?_, h3.trans (Keeps.below hg.1 h3.size h2), fun b hb => ⟨fun h => ?_, Nat.lt_of_lt_of_le (h4 b hb).2 hg.1.size⟩⟩, hg.1.size, fun b hb => hg.1.block b (h4 b hb).2 (h4 b hb).1⟩
  · rcases hg.2 b hb with h | h
    · exact h2 b h
    · exact Nat.le_trans h3.size h
  · rcases hg.2 b h with h | h
    · exact (h4 b hb).1 h
    · have := (h4 b hb).2
      omega
theorem OwnS.keep (h2 : ∀ b, F b → w0.heap.size ≤ b) (h3 : Below w0.heap.size w0 w) (h4 : ∀ b, S b → ¬ F b ∧ b < w.heap.size) (hW : IsW w' p M' F) (hk : Keeps F w w') : OwnS w0 w' p M' S ∧ Kept S w w' :=
  OwnS.turn h2 h3 h4 hW ⟨hk, fun _ h => .inl h⟩
theorem Kept.trans {w'' : World} (h : Kept S w w') (k : Kept S w' w'') : Kept S w w'' := ⟨Nat.le_trans h.1 k.1, fun b hb => (k.2 b hb).trans (h.2 b hb)⟩
theorem Kept.row {base : Nat} {e : TypeId} {v : Value} {n : Nat} {xs : List Value} (hk : Kept S w w') (h : w.ownsRow base e 1 v n xs) (hS : ∀ b, v.ownBlock = some b → S b) : w'.ownsRow base e 1 v n xs := by
  refine ⟨h.1, ?_⟩
  rcases h.2 with h0 | ⟨g, cap, cur, rfl, h1, h2, h3⟩
  · exact .inl h0
  · exact .inr ⟨g, cap, cur, rfl, h1, (hk.2 g (hS g rfl)).trans h2, h3⟩
theorem OwnS.turned {T : Nat → Prop} (h : OwnS w0 w p M S) (hk : Keeps T w w') (hT : ∀ b, T b → S b) (hB : ∀ b, T b → w0.heap.size ≤ b) : OwnS w0 w' p M S := by
  obtain ⟨F, h1, h2, h3, h4⟩ := h
  exact ⟨F, h1.keeps hk (fun b hb ht => (h4 b (hT b ht)).1 hb), h2, h3.trans (Keeps.below hk h3.size hB), fun b hb => ⟨(h4 b hb).1, Nat.lt_of_lt_of_le (h4 b hb).2 hk.size⟩⟩
/-- A list of references has grown by one. -/
theorem OwnS.appended {T : Nat → Prop} {v v' : Value} {n : Nat} {xs xs' : List Value} {e : TypeId} (h : OwnS w0 w p M (fun b => v.ownBlock = some b ∨ T b)) (hrow : w.ownsRow w0.heap.size e 1 v n xs) (hg : w.grownBy w' v.ownBlock)
    (hrow' : w'.ownsRow w0.heap.size e 1 v' (n + 1) xs') (hown : v'.ownBlock = v.ownBlock ∨ v'.ownBlock = some (w.heap.size + 1)) : OwnS w0 w' p M (fun b => v'.ownBlock = some b ∨ T b) := by
  obtain ⟨F, h1, h2, h3, h4⟩ := h
  have hk : Keeps (fun b => v.ownBlock = some b) w w' := Keeps.of_grown hg (fun x hx => hx)
  refine ⟨F, h1.keeps hk (fun b hb ht => (h4 b (.inl ht)).1 hb), h2, h3.trans (Keeps.below hk h3.size (fun b hb => ?_)), fun b hb => ?_⟩
  · rcases hrow.2 with ⟨rfl, -⟩ | ⟨g, cap, cur, rfl, h5, -⟩
    · cases hb
    · simp only [Value.ownBlock, Option.some.injEq] at hb
      omega
  · rcases hb with hb | hb
    · have hlt : b < w'.heap.size := (hrow'.lt b hb).2
      refine ⟨fun hF => ?_, hlt⟩
      have := h1.lt b hF
      rcases hown with e | e
      · exact (h4 b (.inl (e.symm.trans hb))).1 hF
      · rw [e] at hb
        simp only [Option.some.injEq] at hb
        omega
    · exact ⟨(h4 b (.inr hb)).1, Nat.lt_of_lt_of_le (h4 b (.inr hb)).2 hg.size⟩
end
/-- A list of references that a law makes grows by one; where it lies then. -/
theorem append_refS {w : World} {ops : Array Oper} {rest : List Oper} {o : Oper} {a : Act} {Q : Exit → Act → World → Prop} (hgd : o.guard = none) (s x : Operand)
    (ho : o.op = .call { callee := .builtin .append, args := #[s, x], argTypes := #[31, 31] }) (base : Nat)
    (v : Value) (l : List Int) (n : Nat) (hs : a.eval s = v) (hown : Hid (w.ownsRow base 35 1 v n (l.map (Value.int .i64)))) (y : Int) (hx : a.eval x = .slice (some ⟨w.heap.size, 0, none⟩) 1 1)
    (hn : Hid ((n : Int) ≤ 1099511627776)) (hbase : Hid (base ≤ w.heap.size))
    (h : ∀ v' w', Hid (w'.ownsRow base 35 1 v' (n + 1) ((l ++ [y]).map (Value.int .i64))) → Hid (w.grownBy w' v.ownBlock) → Hid (v'.ownBlock = v.ownBlock ∨ v'.ownBlock = some (w.heap.size + 1)) → wpList Tryz.prog ops Q rest (a.put o.dst v') w') : wpList Tryz.prog ops Q (o :: rest) a (w.alloc (.cells #[.int .i64 y] 35)) := by
  obtain ⟨i, hi, hz, h1, h2⟩ := info_parts infoRef
  have hn' := hn.out
  have hb2 : (n + 1) * 8 ≤ 1099511627777 * 8 := Nat.mul_le_mul_right _ (by omega)
  refine wpList_append_own_at _ hgd s x 31 ho base 35 i (.int .i64 0) 1 8 Tryz.underlying31 hi hz h1 h2 rfl (by decide) v n _ hs (hown.out.alloc _) ⟨w.heap.size, 0, none⟩ 1 1 [.int .i64 y] hx rfl (cell_one_new _ _ _) (by simp [Value.oneCell']) (by unfold maxLen; omega) (by omega) (by have := hbase.out; simp; omega) ?_
  intro v' w' r1 r2 _ r4
  exact h v' w' (by show World.ownsRow _ _ _ _ _ _ _; simpa using r1) ((World.grownBy_alloc w _ _).trans r2) (by show _ ∨ _; simpa using r4)
end Go.Proofs.YtmefjkggibbhoaaGreat
/- PurseConserved: in memory. -/
namespace Go.Proofs.YtmefjkggibbhoaaGreat
open Go.RowKit Go.ChangeMaps Go.MapKept

/-- What was made of each mint. -/
def muF (M : WM) (key : Value) : Option Value :=
  match key with
  | .int .i64 r => (match M.at r with | some t => if t.kind = 8 then some (.int .i64 t.n) else none | none => none)
  | _ => none
def refs1 (m : Nat) : List Int := (List.range m).map fun (i : Nat) => (i : Int) + 1
theorem refs1_succ (m : Nat) : refs1 (m + 1) = refs1 m ++ [(m : Int) + 1] := by simp [refs1, List.range_succ]
theorem refs1_len (m : Nat) : (refs1 m).length = m := by simp [refs1]
theorem refs1_at {m i : Nat} (h : i < m) : (refs1 m)[i]? = some ((i : Int) + 1) := by simp [refs1, h]

abbrev SC (va : Value) (mb : Nat) (b : Nat) : Prop := va.ownBlock = some b ∨ b = mb
/-- The world, the list of all, the map of what was made. -/
structure ConS (w0 : World) (p : Nat) (M : WM) (k : Nat) (va : Value) (mb : Nat) (f : Value → Option Value) (B : Nat) (w : World) : Prop where
  own : OwnS w0 w p M (SC va mb)
  row : w.ownsRow w0.heap.size 35 1 va k ((refs1 k).map (Value.int .i64))
  made : MapLe Tryz.prog 35 w mb f B
  lo : w0.heap.size ≤ mb
section
variable {w0 w w' : World} {p : Nat} {M : WM} {k mb B : Nat} {va : Value} {f : Value → Option Value}
theorem ConS.base (h : ConS w0 p M k va mb f B w) : Below w0.heap.size w0 w := h.own.base
theorem ConS.below (h : ConS w0 p M k va mb f B w) (hb : Below w.heap.size w w') : ConS w0 p M k va mb f B w' := by
  obtain ⟨h1, h2⟩ := h.own.below hb
  exact ⟨h1, h2.row h.row (fun b hb => .inl hb), h.made.of_block (h2.2 mb (.inr rfl)), h.lo⟩
theorem ConS.step (h : ConS w0 p M k va mb f B w) : ∃ F, IsW w p M F ∧ ∀ w' M' F', IsW w' p M' F' → Grew F w F' w' → ConS w0 p M' k va mb f B w' := by
  obtain ⟨F, h1, h2, h3, h4⟩ := h.own
  refine ⟨F, h1, fun w' M' F' hW hg => ?_⟩
  obtain ⟨h5, h6⟩ := OwnS.turn (S := SC va mb) h2 h3 h4 hW hg
  exact ⟨h5, h6.row h.row (fun b hb => .inl hb), h.made.of_block (h6.2 mb (.inr rfl)), h.lo⟩
theorem ConS.ok (h : ConS w0 p M k va mb f B w) : M.ok := by
  obtain ⟨F, h1, -⟩ := h.own
  exact h1.ok
theorem ConS.cell (h : ConS w0 p M k va mb f B w) {i : Nat} (hi : i < k) : ∃ g cap, va = .slice (some ⟨g, 0, none⟩) k cap ∧ w.cell? ⟨g, i, none⟩ = some (.int .i64 ((i : Int) + 1)) := by
  have hr := h.row
  rcases hr.2 with ⟨-, h0⟩ | ⟨g, cap, cur, rfl, -⟩
  · omega
  · refine ⟨g, cap, rfl, ?_⟩
    rw [hr.cellAt i (by omega), List.getElem?_map, refs1_at hi]
    rfl
theorem ConS.ne (h : ConS w0 p M k va mb f B w) : va.ownBlock ≠ some mb := fun e => by
  obtain ⟨es, c, hes⟩ := h.made.is
  rcases h.row.2 with ⟨e', -⟩ | ⟨g, cap, cur, e', -, hg, -⟩
  · rw [e'] at e; cases e
  · rw [e'] at e
    have := Option.some.inj e
    simp at this
    subst this
    rw [hes] at hg
    cases hg
/-- One more in the list. -/
theorem ConS.append {va' : Value} (h : ConS w0 p M k va mb f B w) (hg : w.grownBy w' va.ownBlock) (hr : w'.ownsRow w0.heap.size 35 1 va' (k + 1) ((refs1 k ++ [(k : Int) + 1]).map (Value.int .i64))) (ho : va'.ownBlock = va.ownBlock ∨ va'.ownBlock = some (w.heap.size + 1)) : ConS w0 p M (k + 1) va' mb f B w' := by
  obtain ⟨es, c, hes⟩ := h.made.is
  exact ⟨OwnS.appended h.own h.row hg hr ho, by rw [refs1_succ]; exact hr, h.made.of_block (hg.block mb (blk_lt hes) (fun e => h.ne e.symm)), h.lo⟩
/-- The map's store. -/
theorem ConS.store (h : ConS w0 p M k va mb f B w) {r n : Int} {f' : Value → Option Value} (hr : (Lit.int .i64 r).wf = true) (h1 : f' (.int .i64 r) = some (.int .i64 n)) (h2 : ∀ key, key ≠ .int .i64 r → f' key = f key) (hB : (B : Int) ≤ 1099511627776) :
    ∃ w1, (Instr.mapUpdate 77 (.map (some mb)) (.int .i64 r) (.int .i64 n)).run Tryz.prog w = .ok () w1 ∧ ConS w0 p M k va mb f' (B + 1) w1 := by
  obtain ⟨c, hc, hm⟩ := h.made
  obtain ⟨w1, hrun, hm', ht⟩ := hm.store keyedRef Tryz.underlying77 (by unfold maxLen; omega) (key_ref hr) (.int .i64 n) h1 h2
  have hT := Turned.of ht
  refine ⟨w1, hrun, h.own.turned hT.2 (fun b hb => .inr hb) (fun b hb => by rw [hb]; exact h.lo), ?_, ⟨_, by split <;> omega, hm'⟩, h.lo⟩
  refine h.row.kept (row := some mb) ⟨hT.2.os, hT.2.tape, hT.2.output, hT.2.size, fun k hk hne => hT.block (fun e => hne (by rw [e]))⟩ ?_
  exact .inr h.ne
theorem ConS.look (h : ConS w0 p M k va mb (muF M) B w) {r hh N : Int} (ht : M.at r = some (mintT hh N 0)) : (Instr.lookup 77 (.map (some mb)) (.int .i64 r) false).run Tryz.prog w = .ok (.int .i64 N) w := by
  obtain ⟨c, hc, hm⟩ := h.made
  rw [hm.look keyedRef Tryz.underlying77 (z := .int .i64 0) (by kernel_rfl) (key_ref (h.ok.at_wf ht))]
  have : muF M (.int .i64 r) = some (.int .i64 N) := by
    unfold muF
    simp only [ht]
    rfl
  rw [this]
  rfl
theorem ConS.look2 (h : ConS w0 p M k va mb f B w) {r N : Int} (hr : (Lit.int .i64 r).wf = true) (hf : f (.int .i64 r) = some (.int .i64 N)) : (Instr.lookup 77 (.map (some mb)) (.int .i64 r) false).run Tryz.prog w = .ok (.int .i64 N) w := by
  obtain ⟨c, hc, hm⟩ := h.made
  rw [hm.look keyedRef Tryz.underlying77 (z := .int .i64 0) (by kernel_rfl) (key_ref hr), hf]
  rfl
theorem ConS.more {B' : Nat} (h : ConS w0 p M k va mb f B w) (hB : B ≤ B') : ConS w0 p M k va mb f B' w := by
  obtain ⟨c, hc, hm⟩ := h.made
  exact ⟨h.own, h.row, ⟨c, Nat.le_trans hc hB, hm⟩, h.lo⟩
theorem muF_at {M : WM} {r h N : Int} (ht : M.at r = some (mintT h N 0)) : muF M (.int .i64 r) = some (.int .i64 N) := by
  unfold muF
  simp only [ht]
  rfl
theorem ConS.keep {f' : Value → Option Value} (h : ConS w0 p M k va mb f B w) (hf : ∀ key, f' key = f key) : ConS w0 p M k va mb f' B w := by
  have : f' = f := funext hf
  rw [this]
  exact h
end
/-! ### how the map's function turns -/
theorem muF_mint {M : WM} (hM : M.ok) (s : Int) : muF (M.add (mintT s 0 0)) (.int .i64 (M.last + 1)) = some (.int .i64 0) ∧ ∀ key, key ≠ .int .i64 (M.last + 1) → muF (M.add (mintT s 0 0)) key = muF M key := by
  refine ⟨?_, fun key hk => ?_⟩
  · unfold muF
    simp only [WM.add_at_new hM]
    rfl
  · unfold muF
    split
    · rename_i r
      have : r ≠ M.last + 1 := fun e => hk (by rw [e])
      rw [WM.add_at hM, if_neg this]
    · rfl
theorem muF_ask {M : WM} (hM : M.ok) {r hh N n : Int} (ht : M.at r = some (mintT hh N 0)) : muF ((M.add (purseT hh n r)).set r (mintT hh (N + n) 0)) (.int .i64 r) = some (.int .i64 (N + n)) ∧ ∀ key, key ≠ .int .i64 r → muF ((M.add (purseT hh n r)).set r (mintT hh (N + n) 0)) key = muF M key := by
  have hr1 := WM.add_at_old hM (purseT hh n r) ht
  refine ⟨?_, fun key hk => ?_⟩
  · unfold muF
    simp only [WM.set_at_self _ hr1]
    rfl
  · unfold muF
    split
    · rename_i x
      have hx : x ≠ r := fun e => hk (by rw [e])
      rw [WM.set_at_ne _ _ hx, WM.add_at hM]
      by_cases e : x = M.last + 1
      · rw [if_pos e]
        have hn : M.at x = none := by
          cases h : M.at x with
          | none => rfl
          | some u =>
            have := hM.at_range h
            omega
        rw [hn]
        rfl
      · rw [if_neg e]
    · rfl
theorem muF_set {M : WM} {q h n m h' n' m' : Int} (hq : M.at q = some (purseT h n m)) (key : Value) : muF (M.set q (purseT h' n' m')) key = muF M key := by
  unfold muF
  split
  · rename_i x
    by_cases e : x = q
    · subst e
      rw [WM.set_at_self _ hq, hq]
      rfl
    · rw [WM.set_at_ne _ _ e]
  · rfl
theorem muF_take {M : WM} (hM : M.ok) {r hh N n q : Int} (ht : M.at r = some (purseT hh N q)) (key : Value) : muF ((M.add (purseT hh n q)).set r (purseT hh (N - n) q)) key = muF M key := by
  rw [muF_set (WM.add_at_old hM _ ht)]
  unfold muF
  split
  · rename_i x
    rw [WM.add_at hM]
    by_cases e : x = M.last + 1
    · rw [if_pos e]
      have hn : M.at x = none := by
        cases h : M.at x with
        | none => rfl
        | some u =>
          have := hM.at_range h
          omega
      rw [hn]
      rfl
    · rw [if_neg e]
  · rfl
theorem muF_move {M : WM} {a b hh N h' N' q : Int} (ha : M.at a = some (purseT hh N q)) (hb : M.at b = some (purseT h' N' q)) (hab : a ≠ b) (key : Value) : muF ((M.set a (purseT hh (N + N') q)).set b (purseT h' 0 q)) key = muF M key := by
  rw [muF_set (h := h') (n := N') (m := q) (by rw [WM.set_at_ne _ _ (fun e => hab e.symm)]; exact hb), muF_set ha]
theorem Pu.hP {M : WM} {m : Nat} (h : Pu M m) (hM : M.ok) : ∀ x ∈ M.things, x.2.kind = 9 → ∃ h n m, x.2 = purseT h n m ∧ 0 ≤ n := fun x hx hk => by
  rcases h.kinds x.1 x.2 (hM.at_of_mem hx) with ⟨h', N, e, -⟩ | ⟨h', n, q, e, -, -, h0, -⟩
  · rw [e] at hk
    cases hk
  · exact ⟨h', n, q, e, h0⟩
theorem Pu.sum {M : WM} {m : Nat} (h : Pu M m) (hM : M.ok) {r hh N : Int} (ht : M.at r = some (mintT hh N 0)) : sumF (M.things.filter (isP r)) = N ∧ tot r M.things = N ∧ 0 ≤ N ∧ N ≤ 9007199254740992 := by
  rcases h.kinds r _ ht with ⟨h', N', e, -, -, h0, h1, h2⟩ | ⟨_, _, _, e, -⟩
  · cases e
    exact ⟨(sumF_tot r M.things (h.nonneg hM) (by omega)).trans h2.symm, h2.symm, h0, h1⟩
  · cases e
theorem Pu.hT {M : WM} {m : Nat} (h : Pu M m) (hM : M.ok) : ∀ x ∈ M.things, x.2.kind = 8 → ∃ h N lo, x.2 = mintT h N lo ∧ N - lo = sumF (M.things.filter (isP x.1)) := fun x hx hk => by
  have hat := hM.at_of_mem hx
  rcases h.kinds x.1 x.2 hat with ⟨h', N, e, -⟩ | ⟨h', n, q, e, -⟩
  · refine ⟨h', N, 0, e, ?_⟩
    rw [e] at hat
    have := (h.sum hM hat).1
    omega
  · rw [e] at hk
    cases hk
theorem sumP_filter (r : Int) : ∀ l : List (Int × Th), sumP (l.filter (isP r)) = tot r l
  | [] => rfl
  | x :: l => by
    have := sumP_filter r l
    rw [List.filter_cons]
    show _ = mon r x + tot r l
    unfold mon
    split
    · show x.2.n + sumP (l.filter (isP r)) = _
      omega
    · omega
theorem sumP_take {l : List (Int × Th)} {k : Nat} {x : Int × Th} (hx : l[k]? = some x) : sumP (l.take (k + 1)) = sumP (l.take k) + x.2.n := by
  have key : ∀ a b : List (Int × Th), sumP (a ++ b) = sumP a + sumP b := fun a b => by
    induction a with
    | nil => simp [sumP]
    | cons y a ih =>
      show y.2.n + sumP (a ++ b) = y.2.n + sumP a + sumP b
      omega
  rw [List.take_add_one, hx, key]
  show _ + (x.2.n + 0) = _
  omega
theorem sumP_mono : ∀ {l : List (Int × Th)}, (∀ x ∈ l, 0 ≤ x.2.n) → ∀ k, 0 ≤ sumP (l.take k) ∧ sumP (l.take k) ≤ sumP l
  | [], _, k => by simp [sumP]
  | x :: l, h, 0 => by
    have h1 := sumP_mono (l := l) (fun y hy => h y (by simp [hy])) l.length
    have h2 := h x (by simp)
    rw [List.take_length] at h1
    show (0 : Int) ≤ 0 ∧ (0 : Int) ≤ x.2.n + sumP l
    omega
  | x :: l, h, k + 1 => by
    have h1 := sumP_mono (l := l) (fun y hy => h y (by simp [hy])) k
    have h2 := h x (by simp)
    show 0 ≤ x.2.n + sumP (l.take k) ∧ x.2.n + sumP (l.take k) ≤ x.2.n + sumP l
    omega
theorem muF_some {M : WM} {x : Int} {v : Value} (h : muF M (.int .i64 x) = some v) : ∃ t, M.at x = some t ∧ t.kind = 8 ∧ v = .int .i64 t.n := by
  unfold muF at h
  simp only at h
  split at h
  · rename_i t ht
    split at h
    · cases h
      exact ⟨t, ht, by assumption, rfl⟩
    · cases h
  · cases h
/-- Behind one trade. -/
def AfterT (w0 : World) (p : Nat) (m : Nat) (va : Value) (mb B : Nat) (w wx : World) (f r : Int) : Prop :=
  (f ≠ 0 ∧ r = 0 ∧ Below w.heap.size w wx) ∨
  (f = 0 ∧ r = 0 ∧ ∃ M', Pu M' m ∧ ConS w0 p M' m va mb (muF M') (B + 1) wx) ∨
  (f = 0 ∧ r = (m : Int) + 1 ∧ ∃ M', Pu M' (m + 1) ∧ ConS w0 p M' m va mb (muF M') (B + 1) wx)
end Go.Proofs.YtmefjkggibbhoaaGreat
/- Are two light things the same? The calls below world.Same: at equal values they say yes. -/
namespace Go.Proofs.YtmefjkggibbhoaaGreat
open Go.RowKit Go.ChangeMaps Go.MapKept

set_option maxRecDepth 8000 in
theorem cmpI64_W (w : World) (a : Int) : Calls Tryz.prog 128 #[.int .i64 a, .int .i64 a] w fun e w' => e = .returned (.int .i64 0) ∧ w = w' := by
  have h1 : ¬ (a < a) := Int.lt_irrefl a
  have h2 : ¬ (a > a) := Int.lt_irrefl a
  go_enter Tryz.func128, Tryz.ntmps128
  go_wp2
  go_ret
  exact ⟨rfl, rfl⟩
set_option maxRecDepth 8000 in
theorem cmpfVal_nil (w : World) (f : Value) : Calls Tryz.prog 131 #[.slice none 0 0, .slice none 0 0, f] w fun e w' => e = .returned (.int .i64 0) ∧ w = w' := by
  go_enter Tryz.func131, Tryz.ntmps131
  go_wp2_with fail
  go_loopw [13] (fun vi wr => vi = .int .i64 0 ∧ wr = w) (fun _ _ => 0)
  case atStart => exact ⟨rfl, rfl⟩
  case round =>
    obtain ⟨rfl, rfl⟩ := hrel
    go_wp2_with fail
    go_ret
    exact ⟨rfl, rfl⟩
set_option maxRecDepth 8000 in
theorem eqfVal_nil (w : World) (f : Value) : Calls Tryz.prog 77 #[.slice none 0 0, .slice none 0 0, f] w fun e w' => e = .returned (.bool true) ∧ w = w' := by
  go_enter Tryz.func77, Tryz.ntmps77
  go_wp2_with fail
  go_loopw [17] (fun vi wr => vi = .int .i64 0 ∧ wr = w) (fun _ _ => 0)
  case atStart => exact ⟨rfl, rfl⟩
  case round =>
    obtain ⟨rfl, rfl⟩ := hrel
    go_wp2_with fail
    go_ret
    exact ⟨rfl, rfl⟩
set_option maxRecDepth 8000 in
theorem eqfName_nil (w : World) (f : Value) : Calls Tryz.prog 79 #[.slice none 0 0, .slice none 0 0, f] w fun e w' => e = .returned (.bool true) ∧ w = w' := by
  go_enter Tryz.func79, Tryz.ntmps79
  go_wp2_with fail
  go_loopw [17] (fun vi wr => vi = .int .i64 0 ∧ wr = w) (fun _ _ => 0)
  case atStart => exact ⟨rfl, rfl⟩
  case round =>
    obtain ⟨rfl, rfl⟩ := hrel
    go_wp2_with fail
    go_ret
    exact ⟨rfl, rfl⟩
set_option maxRecDepth 8000 in
theorem eqfStmt_nil (w : World) (f : Value) : Calls Tryz.prog 103 #[.slice none 0 0, .slice none 0 0, f] w fun e w' => e = .returned (.bool true) ∧ w = w' := by
  go_enter Tryz.func103, Tryz.ntmps103
  go_wp2_with fail
  go_loopw [17] (fun vi wr => vi = .int .i64 0 ∧ wr = w) (fun _ _ => 0)
  case atStart => exact ⟨rfl, rfl⟩
  case round =>
    obtain ⟨rfl, rfl⟩ := hrel
    go_wp2_with fail
    go_ret
    exact ⟨rfl, rfl⟩
set_option maxRecDepth 8000 in
theorem sameCode_nil (w : World) : Calls Tryz.prog 78 #[.slice none 0 0, .slice none 0 0] w fun e w' => e = .returned (.bool true) ∧ w = w' := by
  go_enter Tryz.func78, Tryz.ntmps78
  go_wp2_with fail
  refine (eqfStmt_nil w _).mono ?_
  rintro e _ ⟨rfl, rfl⟩
  go_wp2_with fail
  go_ret
  exact ⟨rfl, rfl⟩

set_option maxRecDepth 8000 in
theorem vorder_W (w : World) (k n : Int) (h : Plain k n) : Calls Tryz.prog 102 #[.agg #[.int .u8 k, .int .i64 n, .string ⟨#[]⟩, .slice none 0 0, .int .i64 0], .agg #[.int .u8 k, .int .i64 n, .string ⟨#[]⟩, .slice none 0 0, .int .i64 0]] w fun e w' => e = .returned (.int .i64 0) ∧ Below w.heap.size w w' := by
  have HB : Hid (Below w.heap.size w ((w.alloc (.cells #[.int .u8 k, .int .i64 n, .string ⟨#[]⟩, .slice none 0 0, .int .i64 0] 48)).alloc (.cells #[.int .u8 k, .int .i64 n, .string ⟨#[]⟩, .slice none 0 0, .int .i64 0] 48))) := ((Below.refl _ _).alloc (Nat.le_refl _) _).alloc (by simp) _
  rcases h with ⟨rfl, rfl⟩ | rfl
  · go_enter Tryz.func102, Tryz.ntmps102
    go_wp2_with fail
    refine (cmpfVal_nil _ _).mono ?_
    rintro e _ ⟨rfl, rfl⟩
    go_wp2_with fail
    go_ret
    exact ⟨rfl, HB.out⟩
  · go_enter Tryz.func102, Tryz.ntmps102
    go_wp2_with fail
    refine (cmpI64_W _ n).mono ?_
    rintro e _ ⟨rfl, rfl⟩
    go_wp2_with fail
    go_ret
    exact ⟨rfl, HB.out⟩

set_option maxRecDepth 8000 in
theorem vSame_W (w : World) (k n : Int) (h : Plain k n) : Calls Tryz.prog 76 #[.agg #[.int .u8 k, .int .i64 n, .string ⟨#[]⟩, .slice none 0 0, .int .i64 0], .agg #[.int .u8 k, .int .i64 n, .string ⟨#[]⟩, .slice none 0 0, .int .i64 0]] w fun e w' => e = .returned (.bool true) ∧ Below w.heap.size w w' := by
  go_enter Tryz.func76, Tryz.ntmps76
  go_wp2_with fail
  refine (vMay_W _ k n h).mono ?_
  rintro e w1 ⟨rfl, hb1⟩
  have HB1 : Hid (Below w.heap.size w w1) := (((Below.refl _ w).alloc (Nat.le_refl _) _).alloc (by simp) _).trans (hb1.mono (by simp; omega))
  obtain ⟨⟨a0, a1, a2, a3, a4⟩, -⟩ := cells5 (below_blk hb1 (blk2_old w _ _))
  obtain ⟨⟨b0, b1, b2, b3, b4⟩, -⟩ := cells5 (below_blk hb1 (blk2_new w _ _))
  have HA := (show Hid _ from below_blk hb1 (blk2_old w _ _))
  have HC := (show Hid _ from below_blk hb1 (blk2_new w _ _))
  clear hb1
  go_wp2_with fail
  refine (vMay_W _ k n h).mono ?_
  rintro e w2 ⟨rfl, hb2⟩
  have HB2 : Hid (Below w.heap.size w w2) := HB1.out.trans (hb2.mono HB1.out.size)
  have hA2 := below_blk hb2 HA.out
  have hC2 := below_blk hb2 HC.out
  clear a0 a1 a2 a3 a4 b0 b1 b2 b3 b4
  obtain ⟨⟨a0, a1, a2, a3, a4⟩, -⟩ := cells5 hA2
  obtain ⟨⟨b0, b1, b2, b3, b4⟩, -⟩ := cells5 hC2
  clear hb2 hA2 hC2 HA HC HB1
  go_wp2_with fail
  refine (vorder_W _ k n h).mono ?_
  rintro e w3 ⟨rfl, hb3⟩
  have HB3 : Hid (Below w.heap.size w w3) := HB2.out.trans (hb3.mono HB2.out.size)
  clear hb3 a0 a1 a2 a3 a4 b0 b1 b2 b3 b4
  go_wp2_with fail
  go_ret
  exact ⟨rfl, HB3.out⟩
end Go.Proofs.YtmefjkggibbhoaaGreat
/- Are two light things the same? sameWhat, and the function that world.Same hands on. -/
namespace Go.Proofs.YtmefjkggibbhoaaGreat
open Go.RowKit Go.ChangeMaps Go.MapKept

set_option maxHeartbeats 4000000 in
set_option maxRecDepth 100000 in
theorem sameWhat_W (w : World) (k h vk vn n l tg bi s : Int) (fu : Bool) (hp : Plain vk vn) :
    Calls Tryz.prog 58 #[.agg #[.int .u8 k, .int .i64 h, .int .u8 vk, .int .i64 vn, .string ⟨#[]⟩, .slice none 0 0, .int .i64 0, .slice none 0 0, .int .i64 n, .int .i64 l, .int .i64 tg, .int .i64 bi, .int .u8 s, .bool fu, .slice none 0 0, .slice none 0 0], .agg #[.int .u8 k, .int .i64 h, .int .u8 vk, .int .i64 vn, .string ⟨#[]⟩, .slice none 0 0, .int .i64 0, .slice none 0 0, .int .i64 n, .int .i64 l, .int .i64 tg, .int .i64 bi, .int .u8 s, .bool fu, .slice none 0 0, .slice none 0 0]] w fun e w' => e = .returned (.bool true) ∧ Below w.heap.size w w' := by
  go_enter Tryz.func58, Tryz.ntmps58
  go_wp2_with fail
  refine (vSame_W _ vk vn hp).mono ?_
  rintro e w1 ⟨rfl, hb1⟩
  have HB1 : Hid (Below w.heap.size w w1) := (((Below.refl _ w).alloc (Nat.le_refl _) _).alloc (by simp) _).trans (hb1.mono (by simp; omega))
  have hA := below_blk hb1 (blk2_old w _ _)
  have hC := below_blk hb1 (blk2_new w _ _)
  have a7 : w1.cell? ⟨w.heap.size, 7, none⟩ = some (.slice none 0 0) := by rw [cell_blk hA]; rfl
  have a14 : w1.cell? ⟨w.heap.size, 14, none⟩ = some (.slice none 0 0) := by rw [cell_blk hA]; rfl
  have a15 : w1.cell? ⟨w.heap.size, 15, none⟩ = some (.slice none 0 0) := by rw [cell_blk hA]; rfl
  have b7 : w1.cell? ⟨w.heap.size + 1, 7, none⟩ = some (.slice none 0 0) := by rw [cell_blk hC]; rfl
  have b14 : w1.cell? ⟨w.heap.size + 1, 14, none⟩ = some (.slice none 0 0) := by rw [cell_blk hC]; rfl
  have b15 : w1.cell? ⟨w.heap.size + 1, 15, none⟩ = some (.slice none 0 0) := by rw [cell_blk hC]; rfl
  clear hb1 hA hC
  go_wp2_with fail
  refine (eqfVal_nil _ _).mono ?_
  rintro e _ ⟨rfl, rfl⟩
  go_wp2_with fail
  refine (sameCode_nil _).mono ?_
  rintro e _ ⟨rfl, rfl⟩
  go_wp2_with fail
  refine (eqfName_nil _ _).mono ?_
  rintro e _ ⟨rfl, rfl⟩
  go_wp2_with fail
  go_ret
  exact ⟨rfl, HB1.out⟩

theorem rangeAt_blk {w : World} {b o : Nat} {cur : Array Value} {e : TypeId} {fr : Nat × Nat} {cs : List Value} (hg : w.heap[b]? = some (.cells cur e fr)) (h : (cur.toList.drop o).take cs.length = cs) : w.rangeAt b o cs := fun j v hv => by
  rw [cell_blk hg]
  have hj := (List.getElem?_eq_some_iff.1 hv).1
  rw [← h, List.getElem?_take, if_pos hj, List.getElem?_drop] at hv
  simpa using hv
theorem loadWhat_mid {w : World} {b o : Nat} {cs : List Value} (hc : w.rangeAt b o cs) (hs : cs.length = 16) : (ldW (.pointer (some ⟨b, o, none⟩))).run Tryz.prog w = .ok (.value (.agg cs.toArray)) w := by
  have := run_loadAt_mid w b o 53 cs _ hc Tryz.underlying53 rfl (by rw [hs]; exact sizeWhat)
  simp only [ldW, Sem.run_bind, this, Result.andThen, Sem.run_pure]
theorem sizeEntry : (Tryz.prog.info? 118).map (·.size) = some 17 := by kernel_rfl
/-- A whole Entry read, written: closed to the walk's simp. -/
def ldE (a : Value) : Sem Next := do pure (.value (← Instr.loadAt 118 a))
@[go_sem ↓] theorem execOp_ldE (ρ : Operand → Value) (d : Option Tmp) (a : Operand) (ty : TypeId) (pos : String) (af : Array Edge) (g : Option (Nat × Bool)) :
    execOp ρ { dst := d, op := .load 118 a, type := ty, pos := pos, after := af, guard := g } = ldE (ρ a) := rfl
theorem loadEntry_mid {w : World} {b o : Nat} {cs : List Value} (hc : w.rangeAt b o cs) (hs : cs.length = 17) : (ldE (.pointer (some ⟨b, o, none⟩))).run Tryz.prog w = .ok (.value (.agg cs.toArray)) w := by
  have := run_loadAt_mid w b o 118 cs _ hc Tryz.underlying118 rfl (by rw [hs]; exact sizeEntry)
  simp only [ldE, Sem.run_bind, this, Result.andThen, Sem.run_pure]

set_option maxHeartbeats 4000000 in
set_option maxRecDepth 100000 in
theorem WSame1_W (w : World) (r k h vk vn n l tg bi s : Int) (fu : Bool) (hp : Plain vk vn) :
    Calls Tryz.prog 57 #[.agg #[.int .i64 r, .int .u8 k, .int .i64 h, .int .u8 vk, .int .i64 vn, .string ⟨#[]⟩, .slice none 0 0, .int .i64 0, .slice none 0 0, .int .i64 n, .int .i64 l, .int .i64 tg, .int .i64 bi, .int .u8 s, .bool fu, .slice none 0 0, .slice none 0 0],
      .agg #[.int .i64 r, .int .u8 k, .int .i64 h, .int .u8 vk, .int .i64 vn, .string ⟨#[]⟩, .slice none 0 0, .int .i64 0, .slice none 0 0, .int .i64 n, .int .i64 l, .int .i64 tg, .int .i64 bi, .int .u8 s, .bool fu, .slice none 0 0, .slice none 0 0]] w fun e w' => e = .returned (.bool true) ∧ Below w.heap.size w w' := by
  have hA := blk2_old w (.cells #[.int .i64 r, .int .u8 k, .int .i64 h, .int .u8 vk, .int .i64 vn, .string ⟨#[]⟩, .slice none 0 0, .int .i64 0, .slice none 0 0, .int .i64 n, .int .i64 l, .int .i64 tg, .int .i64 bi, .int .u8 s, .bool fu, .slice none 0 0, .slice none 0 0] 118) (.cells #[.int .i64 r, .int .u8 k, .int .i64 h, .int .u8 vk, .int .i64 vn, .string ⟨#[]⟩, .slice none 0 0, .int .i64 0, .slice none 0 0, .int .i64 n, .int .i64 l, .int .i64 tg, .int .i64 bi, .int .u8 s, .bool fu, .slice none 0 0, .slice none 0 0] 118)
  have hC := blk2_new w (.cells #[.int .i64 r, .int .u8 k, .int .i64 h, .int .u8 vk, .int .i64 vn, .string ⟨#[]⟩, .slice none 0 0, .int .i64 0, .slice none 0 0, .int .i64 n, .int .i64 l, .int .i64 tg, .int .i64 bi, .int .u8 s, .bool fu, .slice none 0 0, .slice none 0 0] 118) (.cells #[.int .i64 r, .int .u8 k, .int .i64 h, .int .u8 vk, .int .i64 vn, .string ⟨#[]⟩, .slice none 0 0, .int .i64 0, .slice none 0 0, .int .i64 n, .int .i64 l, .int .i64 tg, .int .i64 bi, .int .u8 s, .bool fu, .slice none 0 0, .slice none 0 0] 118)
  have hla := loadWhat_mid (rangeAt_blk (o := 1) (cs := [.int .u8 k, .int .i64 h, .int .u8 vk, .int .i64 vn, .string ⟨#[]⟩, .slice none 0 0, .int .i64 0, .slice none 0 0, .int .i64 n, .int .i64 l, .int .i64 tg, .int .i64 bi, .int .u8 s, .bool fu, .slice none 0 0, .slice none 0 0]) hA rfl) rfl
  have hlc := loadWhat_mid (rangeAt_blk (o := 1) (cs := [.int .u8 k, .int .i64 h, .int .u8 vk, .int .i64 vn, .string ⟨#[]⟩, .slice none 0 0, .int .i64 0, .slice none 0 0, .int .i64 n, .int .i64 l, .int .i64 tg, .int .i64 bi, .int .u8 s, .bool fu, .slice none 0 0, .slice none 0 0]) hC rfl) rfl
  have HB : Hid (Below w.heap.size w ((w.alloc (.cells #[.int .i64 r, .int .u8 k, .int .i64 h, .int .u8 vk, .int .i64 vn, .string ⟨#[]⟩, .slice none 0 0, .int .i64 0, .slice none 0 0, .int .i64 n, .int .i64 l, .int .i64 tg, .int .i64 bi, .int .u8 s, .bool fu, .slice none 0 0, .slice none 0 0] 118)).alloc (.cells #[.int .i64 r, .int .u8 k, .int .i64 h, .int .u8 vk, .int .i64 vn, .string ⟨#[]⟩, .slice none 0 0, .int .i64 0, .slice none 0 0, .int .i64 n, .int .i64 l, .int .i64 tg, .int .i64 bi, .int .u8 s, .bool fu, .slice none 0 0, .slice none 0 0] 118))) := ((Below.refl _ _).alloc (Nat.le_refl _) _).alloc (by simp) _
  clear hA hC
  go_enter Tryz.func57, Tryz.ntmps57
  go_wp2_with fail
  refine (sameWhat_W _ k h vk vn n l tg bi s fu hp).mono ?_
  rintro e w1 ⟨rfl, hb1⟩
  have HB1 : Hid (Below w.heap.size w w1) := HB.out.trans (hb1.mono HB.out.size)
  clear hb1 HB hla hlc
  go_wp2_with fail
  go_ret
  exact ⟨rfl, HB1.out⟩
end Go.Proofs.YtmefjkggibbhoaaGreat
/- Arguments of a law that are slices or arrays of whole numbers: what the walk is given. -/
namespace Go.Proofs.YtmefjkggibbhoaaGreat
open Go.ChangeShapes Go.WideShapes Go.ChangeAt Go.RowKit

/-- The whole numbers that a slice holds. -/
def IntArg (k : IntKind) (w : World) (pa : Option Addr) (xs : List Int) : Prop :=
  xs = [] ∨ ∃ b o, pa = some ⟨b, o, none⟩ ∧ b < w.heap.size ∧ ∀ (j : Nat) (x : Int), xs[j]? = some x → w.cell? ⟨b, o + j, none⟩ = some (.int k x)
theorem IntArg.side {w : World} {pa : Option Addr} {xs : List Int} (h : IntArg .i64 w pa xs) : SideArg w pa xs := by
  rcases h with h | ⟨b, o, h1, -, h3⟩
  · exact .inl h
  · exact .inr ⟨b, o, h1, h3⟩

theorem open_arr3 {H : Type} {enc : TypeId × Value → H} {P : Program} {k e : TypeId} {q : IntKind} {W : World} {base : Nat} {sp : Nat → Bool} {held : Bool} (hu : P.underlying k = some (.array 3 e)) (he : P.underlying e = some (.int q)) (hc : P.cellsOf e = 1)
    {r : Reach} {b0 : Nat} {v : Value} (hk : P.cellsOf k = 3) (hval : Value.okWide P W r b0 k v) {d : DataW H} {ps : List MemPlace} (hd : DataW.Trod enc P W base sp held k v d ps) :
    ∃ a b c : Int, v = .agg #[.int q a, .int q b, .int q c] := by
  simp only [Value.okWide, hu] at hval
  obtain ⟨xs, rfl, hn, _⟩ := hval
  rw [hk] at hn
  obtain ⟨fuel, hf⟩ := hd
  cases fuel with
  | zero => simp [DataW.trod] at hf
  | succ m =>
    rw [DataW.trod_step] at hf
    unfold DataW.trodStep at hf
    simp only [hu, Value.cells] at hf
    rw [if_pos (by rw [hk]; simpa using hn)] at hf
    simp only [Option.map_eq_some_iff] at hf
    obtain ⟨ys, hy, -⟩ := hf
    rw [hc, show List.range 3 = [0, 1, 2] from rfl] at hy
    obtain ⟨l⟩ := xs
    match l, hn with
    | [x, y, z], _ =>
      simp only [List.mapM_cons, bind, Option.bind_eq_some_iff] at hy
      obtain ⟨u0, h0, _, ⟨u1, h1, _, ⟨u2, h2, _⟩, _⟩, _⟩ := hy
      obtain ⟨a, ha, -, -⟩ := DataW.trod_int he h0
      obtain ⟨b, hb, -, -⟩ := DataW.trod_int he h1
      obtain ⟨c, hc', -, -⟩ := DataW.trod_int he h2
      simp at ha hb hc'
      exact ⟨a, b, c, by rw [ha, hb, hc']⟩

/-- A slice of whole numbers, as the walks want it. -/
theorem open_nums {H : Type} {enc : TypeId × Value → H} {P : Program} {t e : TypeId} {k : IntKind} {W : World} {base : Nat} {held : Bool} (ht : P.underlying t = some (.slice e)) (he : P.underlying e = some (.int k)) (hc : P.cellsOf e = 1)
    {r : Reach} {b0 : Nat} {v : Value} (hval : Value.okWide P W r b0 t v) {d : DataW H} {ps : List MemPlace} (hd : DataW.Trod enc P W base (fun _ => true) held t v d ps) :
    ∃ (pa : Option Addr) (c : Nat) (xs : List Int), v = .slice pa xs.length c ∧ (xs.length : Int) ≤ maxLen ∧ (∀ x ∈ xs, (Lit.int k x).wf = true) ∧
      IntArg k W pa xs := by
  obtain ⟨fuel, hf⟩ := hd
  obtain ⟨a0, len, cap, rfl⟩ := okWide_slice ht hval
  rcases open_ints ht he hc hf with ⟨hcs, hx⟩ | ⟨a, len', cap', zs, hcs, _, hl, hm, hz, hx, hcell, hwz⟩
  · simp [Value.cells] at hcs
    obtain ⟨rfl, rfl, rfl⟩ := hcs
    exact ⟨none, 0, [], rfl, by unfold maxLen; simp, by simp, .inl rfl⟩
  · simp [Value.cells] at hcs
    obtain ⟨rfl, rfl, rfl⟩ := hcs
    simp only [if_true] at hz
    have hlen : (zs.take len).length = len := by simp; omega
    refine ⟨some a, cap, zs.take len, by rw [hlen], ?_, fun x hx => hwz x (List.mem_of_mem_take hx), ?_⟩
    · rw [hlen]
      omega
    by_cases h0 : len = 0
    · subst h0
      exact .inl rfl
    · right
      obtain ⟨b, off, spot⟩ := a
      have c0 := hcell 0 (by omega)
      have hspot : spot = none := by simpa [Addr.add] using World.cell?_spot c0
      subst hspot
      refine ⟨b, off, rfl, ?_, fun j x hj => ?_⟩
      · have := World.block_lt_of_cell? _ _ c0
        simpa [Addr.add] using this
      · have hj' := (List.getElem?_eq_some_iff.1 hj).1
        rw [hlen] at hj'
        rw [List.getElem?_take, if_pos hj'] at hj
        have hadd : (⟨b, off, none⟩ : Addr).add j = ⟨b, off + j, none⟩ := by unfold Addr.add; split <;> simp_all
        have := hcell j (by omega)
        rw [hadd] at this
        rw [this, List.getD_eq_getElem?_getD, hj]
        rfl
end Go.Proofs.YtmefjkggibbhoaaGreat
/- slices.Equal of two lists of numbers that are the same. -/
namespace Go.Proofs.YtmefjkggibbhoaaGreat
open Go.RowKit Go.ChangeMaps Go.MapKept

theorem IntArg.at {k : IntKind} {w : World} {pa : Option Addr} {xs : List Int} (h : IntArg k w pa xs) {j : Nat} {x : Int} (hx : xs[j]? = some x) : ∃ b o, pa = some ⟨b, o, none⟩ ∧ ∀ w', Below w.heap.size w w' → w'.cell? ⟨b, o + j, none⟩ = some (.int k x) := by
  rcases h with rfl | ⟨b, o, h1, h2, h3⟩
  · cases hx
  · exact ⟨b, o, h1, fun w' hb => (hb.cell (p := ⟨b, o + j, none⟩) h2).trans (h3 j x hx)⟩

set_option maxHeartbeats 4000000 in
set_option maxRecDepth 8000 in
theorem equalSide_W (w : World) (pa pb : Option Addr) (n c1 c2 : Nat) (xs : List Int) (ha : IntArg .i64 w pa xs) (hb : IntArg .i64 w pb xs) (hn : n = xs.length) (hmax : n ≤ 1000000) :
    Calls Tryz.prog 54 #[.slice pa n c1, .slice pb n c2] w fun e w' => e = .returned (.bool true) ∧ Below w.heap.size w w' := by
  have HA := (show Hid (IntArg .i64 w pa xs) from ha)
  have HB := (show Hid (IntArg .i64 w pb xs) from hb)
  have HN := (show Hid (n = xs.length) from hn)
  clear ha hb hn
  go_enter Tryz.func54, Tryz.ntmps54
  go_wp2_with fail
  go_loopw [13] (fun vi wr => ∃ k : Nat, vi = .int .i64 k ∧ k ≤ n ∧ Hid (Below w.heap.size w wr)) (fun vi _ => n - (intOf vi).toNat)
  case atStart => exact ⟨0, rfl, by omega, Below.refl _ _⟩
  case round =>
    obtain ⟨k, rfl, hk, HW⟩ := hrel
    by_cases hkn : k < n
    · have hkz : (k : Int) < (n : Int) := by omega
      obtain ⟨x, hx⟩ : ∃ x, xs[k]? = some x := ⟨_, List.getElem?_eq_getElem (by have := HN.out; omega)⟩
      obtain ⟨b1, o1, rfl, h1⟩ := HA.out.at hx
      obtain ⟨b2, o2, rfl, h2⟩ := HB.out.at hx
      have c1 := h1 wr HW.out
      have c2 := h2 wr HW.out
      clear hx h1 h2
      go_wp2_with fail
      go_quiet (fail)
      have HW2 := (show Hid (Below w.heap.size w _) from HW.out.trans ((below_drewN nq).mono HW.out.size))
      clear HW c1 c2
      go_wp2_with fail
      go_roundw
      case rel => exact ⟨k + 1, by go_num, by omega, HW2⟩
      case measure =>
        simp [intOf]
        omega
    · have hkz : ¬ (k : Int) < (n : Int) := by omega
      go_wp2_with fail
      go_ret
      exact ⟨rfl, HW.out⟩
set_option maxHeartbeats 4000000 in
set_option maxRecDepth 8000 in
theorem equalInt_W (w : World) (pa pb : Option Addr) (n c1 c2 : Nat) (xs : List Int) (ha : IntArg .i64 w pa xs) (hb : IntArg .i64 w pb xs) (hn : n = xs.length) (hmax : n ≤ 1000000) :
    Calls Tryz.prog 55 #[.slice pa n c1, .slice pb n c2] w fun e w' => e = .returned (.bool true) ∧ Below w.heap.size w w' := by
  have HA := (show Hid (IntArg .i64 w pa xs) from ha)
  have HB := (show Hid (IntArg .i64 w pb xs) from hb)
  have HN := (show Hid (n = xs.length) from hn)
  clear ha hb hn
  go_enter Tryz.func55, Tryz.ntmps55
  go_wp2_with fail
  go_loopw [13] (fun vi wr => ∃ k : Nat, vi = .int .i64 k ∧ k ≤ n ∧ Hid (Below w.heap.size w wr)) (fun vi _ => n - (intOf vi).toNat)
  case atStart => exact ⟨0, rfl, by omega, Below.refl _ _⟩
  case round =>
    obtain ⟨k, rfl, hk, HW⟩ := hrel
    by_cases hkn : k < n
    · have hkz : (k : Int) < (n : Int) := by omega
      obtain ⟨x, hx⟩ : ∃ x, xs[k]? = some x := ⟨_, List.getElem?_eq_getElem (by have := HN.out; omega)⟩
      obtain ⟨b1, o1, rfl, h1⟩ := HA.out.at hx
      obtain ⟨b2, o2, rfl, h2⟩ := HB.out.at hx
      have c1 := h1 wr HW.out
      have c2 := h2 wr HW.out
      clear hx h1 h2
      go_wp2_with fail
      go_quiet (fail)
      have HW2 := (show Hid (Below w.heap.size w _) from HW.out.trans ((below_drewN nq).mono HW.out.size))
      clear HW c1 c2
      go_wp2_with fail
      go_roundw
      case rel => exact ⟨k + 1, by go_num, by omega, HW2⟩
      case measure =>
        simp [intOf]
        omega
    · have hkz : ¬ (k : Int) < (n : Int) := by omega
      go_wp2_with fail
      go_ret
      exact ⟨rfl, HW.out⟩
end Go.Proofs.YtmefjkggibbhoaaGreat
