/- A world of the call's own, and blocks beside it: lists and maps that a law keeps for itself. -/
import Derived.Test.YtmefjkggibbhoaaLives
import Derived.Test.YtmefjkggibbhoaaSum
import Derived.Maps.AppendAt
namespace Go.Proofs.Ytmefjkggibbhoaa
open Go.RowKit Go.ChangeMaps Go.MapKept

/-- A world of the call's own; the blocks S are none of its. -/
def OwnS (w0 w : World) (p : Nat) (M : WM) (S : Nat → Prop) : Prop := ∃ F, IsW w p M F ∧ (∀ b, F b → w0.heap.size ≤ b) ∧ Below w0.heap.size w0 w ∧ ∀ b, S b → ¬ F b ∧ b < w.heap.size
/-- The blocks S are as they were. -/
def Kept (S : Nat → Prop) (w w' : World) : Prop := w.heap.size ≤ w'.heap.size ∧ ∀ b, S b → w'.heap[b]? = w.heap[b]?
section
variable {w0 w w' : World} {p : Nat} {M M' : WM} {S : Nat → Prop} {F F' : Nat → Prop}
theorem OwnS.base (h : OwnS w0 w p M S) : Below w0.heap.size w0 w := by
  obtain ⟨F, -, -, h3, -⟩ := h
  exact h3
theorem OwnS.own (h : OwnS w0 w p M S) : Own w0 w p M := by
  obtain ⟨F, h1, h2, h3, -⟩ := h
  exact ⟨F, h1, h2, h3⟩
theorem OwnS.mono {T : Nat → Prop} (h : OwnS w0 w p M S) (hT : ∀ b, T b → S b) : OwnS w0 w p M T := by
  obtain ⟨F, h1, h2, h3, h4⟩ := h
  exact ⟨F, h1, h2, h3, fun b hb => h4 b (hT b hb)⟩
theorem OwnS.of (h : Own w0 w p M) : OwnS w0 w p M NoB := by
  obtain ⟨F, h1, h2, h3⟩ := h
  exact ⟨F, h1, h2, h3, fun b hb => hb.elim⟩
theorem OwnS.below (h : OwnS w0 w p M S) (hb : Below w.heap.size w w') : OwnS w0 w' p M S ∧ Kept S w w' := by
  obtain ⟨F, h1, h2, h3, h4⟩ := h
  exact ⟨⟨F, h1.below hb, h2, h3.trans (hb.mono h3.size), fun b h => ⟨(h4 b h).1, Nat.lt_of_lt_of_le (h4 b h).2 hb.size⟩⟩, hb.size, fun b h => hb.block b (h4 b h).2⟩
theorem OwnS.turn (h2 : ∀ b, F b → w0.heap.size ≤ b) (h3 : Below w0.heap.size w0 w) (h4 : ∀ b, S b → ¬ F b ∧ b < w.heap.size) (hW : IsW w' p M' F') (hg : Grew F w F' w') : OwnS w0 w' p M' S ∧ Kept S w w' := by
  refine ⟨⟨F', hW, fun b hb => ?_, h3.trans (Keeps.below hg.1 h3.size h2), fun b hb => ⟨fun h => ?_, Nat.lt_of_lt_of_le (h4 b hb).2 hg.1.size⟩⟩, hg.1.size, fun b hb => hg.1.block b (h4 b hb).2 (h4 b hb).1⟩
  · rcases hg.2 b hb with h | h
    · exact h2 b h
    · exact Nat.le_trans h3.size h
  · rcases hg.2 b h with h | h
    · exact (h4 b hb).1 h
    · have := (h4 b hb).2
      omega
theorem OwnS.keep (h2 : ∀ b, F b → w0.heap.size ≤ b) (h3 : Below w0.heap.size w0 w) (h4 : ∀ b, S b → ¬ F b ∧ b < w.heap.size) (hW : IsW w' p M' F) (hk : Keeps F w w') : OwnS w0 w' p M' S ∧ Kept S w w' :=
  OwnS.turn h2 h3 h4 hW ⟨hk, fun _ h => .inl h⟩
theorem Kept.trans {w'' : World} (h : Kept S w w') (k : Kept S w' w'') : Kept S w w'' := ⟨Nat.le_trans h.1 k.1, fun b hb => (k.2 b hb).trans (h.2 b hb)⟩
theorem Kept.row {base : Nat} {e : TypeId} {v : Value} {n : Nat} {xs : List Value} (hk : Kept S w w') (h : w.ownsRow base e 1 v n xs) (hS : ∀ b, v.ownBlock = some b → S b) : w'.ownsRow base e 1 v n xs := by
  refine ⟨h.1, ?_⟩
  rcases h.2 with h0 | ⟨g, cap, cur, rfl, h1, h2, h3⟩
  · exact .inl h0
  · exact .inr ⟨g, cap, cur, rfl, h1, (hk.2 g (hS g rfl)).trans h2, h3⟩
theorem OwnS.turned {T : Nat → Prop} (h : OwnS w0 w p M S) (hk : Keeps T w w') (hT : ∀ b, T b → S b) (hB : ∀ b, T b → w0.heap.size ≤ b) : OwnS w0 w' p M S := by
  obtain ⟨F, h1, h2, h3, h4⟩ := h
  exact ⟨F, h1.keeps hk (fun b hb ht => (h4 b (hT b ht)).1 hb), h2, h3.trans (Keeps.below hk h3.size hB), fun b hb => ⟨(h4 b hb).1, Nat.lt_of_lt_of_le (h4 b hb).2 hk.size⟩⟩
/-- A list of references has grown by one. -/
theorem OwnS.appended {T : Nat → Prop} {v v' : Value} {n : Nat} {xs xs' : List Value} {e : TypeId} (h : OwnS w0 w p M (fun b => v.ownBlock = some b ∨ T b)) (hrow : w.ownsRow w0.heap.size e 1 v n xs) (hg : w.grownBy w' v.ownBlock)
    (hrow' : w'.ownsRow w0.heap.size e 1 v' (n + 1) xs') (hown : v'.ownBlock = v.ownBlock ∨ v'.ownBlock = some (w.heap.size + 1)) : OwnS w0 w' p M (fun b => v'.ownBlock = some b ∨ T b) := by
  obtain ⟨F, h1, h2, h3, h4⟩ := h
  have hk : Keeps (fun b => v.ownBlock = some b) w w' := Keeps.of_grown hg (fun x hx => hx)
  refine ⟨F, h1.keeps hk (fun b hb ht => (h4 b (.inl ht)).1 hb), h2, h3.trans (Keeps.below hk h3.size (fun b hb => ?_)), fun b hb => ?_⟩
  · rcases hrow.2 with ⟨rfl, -⟩ | ⟨g, cap, cur, rfl, h5, -⟩
    · cases hb
    · simp only [Value.ownBlock, Option.some.injEq] at hb
      omega
  · rcases hb with hb | hb
    · have hlt : b < w'.heap.size := (hrow'.lt b hb).2
      refine ⟨fun hF => ?_, hlt⟩
      have := h1.lt b hF
      rcases hown with e | e
      · exact (h4 b (.inl (e.symm.trans hb))).1 hF
      · rw [e] at hb
        simp only [Option.some.injEq] at hb
        omega
    · exact ⟨(h4 b (.inr hb)).1, Nat.lt_of_lt_of_le (h4 b (.inr hb)).2 hg.size⟩
end
/-- A list of references that a law makes grows by one; where it lies then. -/
theorem append_refS {w : World} {ops : Array Oper} {rest : List Oper} {o : Oper} {a : Act} {Q : Exit → Act → World → Prop} (hgd : o.guard = none) (s x : Operand)
    (ho : o.op = .call { callee := .builtin .append, args := #[s, x], argTypes := #[66, 66] }) (base : Nat)
    (v : Value) (l : List Int) (n : Nat) (hs : a.eval s = v) (hown : Hid (w.ownsRow base 30 1 v n (l.map (Value.int .i64)))) (y : Int) (hx : a.eval x = .slice (some ⟨w.heap.size, 0, none⟩) 1 1)
    (hn : Hid ((n : Int) ≤ 1099511627776)) (hbase : Hid (base ≤ w.heap.size))
    (h : ∀ v' w', Hid (w'.ownsRow base 30 1 v' (n + 1) ((l ++ [y]).map (Value.int .i64))) → Hid (w.grownBy w' v.ownBlock) → Hid (v'.ownBlock = v.ownBlock ∨ v'.ownBlock = some (w.heap.size + 1)) → wpList Try.prog ops Q rest (a.put o.dst v') w') : wpList Try.prog ops Q (o :: rest) a (w.alloc (.cells #[.int .i64 y] 30)) := by
  obtain ⟨i, hi, hz, h1, h2⟩ := info_parts infoRef
  have hn' := hn.out
  have hb2 : (n + 1) * 8 ≤ 1099511627777 * 8 := Nat.mul_le_mul_right _ (by omega)
  refine wpList_append_own_at _ hgd s x 66 ho base 30 i (.int .i64 0) 1 8 Try.underlying66 hi hz h1 h2 rfl (by decide) v n _ hs (hown.out.alloc _) ⟨w.heap.size, 0, none⟩ 1 1 [.int .i64 y] hx rfl (cell_one_new _ _ _) (by simp [Value.oneCell']) (by unfold maxLen; omega) (by omega) (by have := hbase.out; simp; omega) ?_
  intro v' w' r1 r2 _ r4
  exact h v' w' (by show World.ownsRow _ _ _ _ _ _ _; simpa using r1) ((World.grownBy_alloc w _ _).trans r2) (by show _ ∨ _; simpa using r4)
end Go.Proofs.Ytmefjkggibbhoaa
