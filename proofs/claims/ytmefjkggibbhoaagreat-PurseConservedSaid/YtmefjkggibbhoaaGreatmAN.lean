/- A part of the proof, several texts in one: Purses, Sum. -/
import Derived.Test.YtmefjkggibbhoaaGreatmAM
import Derived.Test.YtmefjkggibbhoaaGreatmAL
import Derived.Sort.QuietIn
import Derived.Sort.CutIn
/- Purses: the purses of a mint. -/
namespace Go.Proofs.YtmefjkggibbhoaaGreat
open Go.RowKit Go.Shelf Go.ChangeMaps Go.MapKept
attribute [local go_sem] Oper.semAt_some

theorem Things_W (w : World) (p : Nat) : Calls Tryz.prog 13 #[.pointer (some ⟨p, 0, none⟩)] w fun e w' => e = .returned (.func (.func 44) #[] #[.pointer (some ⟨w.heap.size, 0, none⟩)]) ∧ w' = w.alloc (.cells #[.pointer (some ⟨p, 0, none⟩)] 26) := by
  go_enter Tryz.func13, Tryz.ntmps13
  go_wp2
  go_ret
  exact ⟨rfl, rfl⟩

theorem boxed_what' (w1 : World) (xs : Array Value) (hs : xs.size = 16) (h1 : xs.all (·.oneCell') = true) :
    ∃ w2, (stW (.pointer (some ⟨w1.heap.size, 0, none⟩)) (.agg xs)).run Tryz.prog (w1.alloc (.cells #[.int .u8 0, .int .i64 0, .int .u8 0, .int .i64 0, .string ⟨#[]⟩, .slice none 0 0, .int .i64 0, .slice none 0 0, .int .i64 0, .int .i64 0, .int .i64 0, .int .i64 0, .int .u8 0, .bool false, .slice none 0 0, .slice none 0 0] 53)) = .ok .skip w2 ∧
      Below w1.heap.size w1 w2 ∧ w2.heap[w1.heap.size]? = some (.cells xs 53 (0, 0)) ∧ w2.heap.size = w1.heap.size + 1 := by
  obtain ⟨a, b, c⟩ := boxed_what w1 xs hs h1
  exact ⟨_, a, b, c, by simp⟩

/-- The blocks that a boxed list is held in. -/
def boxOwn (B : Nat) (W : World) (b : Nat) : Prop := b = B ∨ ∃ v, W.cell? ⟨B, 0, none⟩ = some v ∧ v.ownBlock = some b
theorem row_from {W W' : World} {row : Option Nat} {base : Nat} {e : TypeId} {v : Value} {k : Nat} {xs : List Value} (h : W.ownsRow base e 1 v k xs) (hg : W.grownBy W' row)
    (hr : ∀ r, row = some r → ∃ o : Obj, W.heap[r]? = some o ∧ o.isCells = false) : W'.ownsRow base e 1 v k xs := by
  refine h.kept hg ?_
  rcases h.2 with ⟨rfl, _⟩ | ⟨g, cap, cur, rfl, _, hgb, _⟩
  · exact .inl rfl
  · refine .inr fun e' => ?_
    obtain ⟨o, ho, hc⟩ := hr g e'.symm
    rw [hgb] at ho
    cases ho
    cases hc
theorem boxOwn_put {B n : Nat} (hB : B < n) (W : World) (l : Nat) (o o' : Obj) (hl : n ≤ l) (ho : W.heap[l]? = some o) (hc : o.isCells = false) : KpO (boxOwn B) W (W.putObj l o') where
  size := by simp
  cells := fun b cs e fr hb _ => (World.putObj_heap_other (fun h => by subst h; rw [hb] at ho; cases ho; cases hc)).trans hb
  own' := fun b hb => by
    rcases hb with rfl | ⟨v, hv, hb⟩
    · exact .inl (.inl rfl)
    · have : (W.putObj l o').cell? ⟨B, 0, none⟩ = W.cell? ⟨B, 0, none⟩ := World.cell?_of_block (World.putObj_heap_other (by show B ≠ l; omega))
      exact .inl (.inr ⟨v, this ▸ hv, hb⟩)
/-- A purse of the mint r. -/
def isP (r : Int) (x : Int × Th) : Bool := decide (x.2.kind = 9) && decide (x.2.tgt = r)
theorem KpO.refl (own : World → Nat → Prop) (W : World) : KpO own W W := ⟨Nat.le_refl _, fun _ _ _ _ h _ => h, fun _ h => .inl h⟩
theorem keepsOthers_of_below {A B : World} (h : Below A.heap.size A B) : KeepsOthers A B := ⟨h.size, fun x _ ho _ => (h.block x (blk_lt ho)).trans ho⟩
theorem append_oneA {F : Fence} {nF : Nat} {P : Program} {w : World} {ops : Array Oper} {rest : List Oper} {o : Oper} {a : Act} {Q : Exit → Act → World → Prop} (hgd : o.guard = none) (s x : Operand) (t : TypeId)
    (ho : o.op = .call { callee := .builtin .append, args := #[s, x], argTypes := #[t, t] }) (base : Nat) (e : TypeId) (z : Value) (bytes : Nat) (ht : P.underlying t = some (.slice e))
    (hinfo : (P.info? e).map (fun i => (i.zero, i.size, i.bytes)) = some (some z, 1, bytes)) (hzs : z.cells.size = 1)
    (v : Value) (n : Nat) (xs : List Value) (hs : a.eval s = v) (hown : Hid (w.ownsRow base e 1 v n xs)) (y : Value) (hx : a.eval x = .slice (some ⟨w.heap.size, 0, none⟩) 1 1) (hy : y.oneCell' = true)
    (hn : Hid ((n : Int) ≤ 1099511627777)) (hb : bytes ≤ 64) (hbase : Hid (base ≤ w.heap.size))
    (h : ∀ v' w', Hid (w'.ownsRow base e 1 v' (n + 1) (xs ++ [y])) → Hid (w.grownBy w' v.ownBlock) → Hid (Below base w w') → Hid (v'.ownBlock = v.ownBlock ∨ v'.ownBlock = some (w.heap.size + 1)) → wpListIn F nF P ops Q rest (a.put o.dst v') w') : wpListIn F nF P ops Q (o :: rest) a (w.alloc (.cells #[y] e)) := by
  obtain ⟨i, hi, hz, h1, h2⟩ := info_parts hinfo
  have hn' := hn.out
  have hb2 : (n + 1) * bytes ≤ (n + 1) * 64 := Nat.mul_le_mul_left _ hb
  refine wpListIn_append_own_at _ hgd s x t ho base e i z 1 bytes ht hi hz h1 h2 hzs (by decide) v n xs hs (hown.out.alloc _) ⟨w.heap.size, 0, none⟩ 1 1 [y] hx rfl (cell_one_new _ _ _) (by simp [hy]) (by unfold maxLen; omega) (by omega) (by have := hbase.out; simp; omega) ?_
  intro v' w' r1 r2 _ r4
  have hg : w.grownBy w' v.ownBlock := (World.grownBy_alloc w _ _).trans r2
  exact h v' w' r1 hg ⟨hg.os, hg.tape, hg.output, hg.size, fun k hk => hg.block k (by have := hbase.out; omega) (fun e => by have := hown.out.lt k e.symm; omega)⟩ (by show _ ∨ _; simpa using r4)
theorem heap_setCell_box {W : World} {B : Nat} {v : Value} {t : TypeId} (v' : Value) (h : W.heap[B]? = some (.cells #[v] t (0, 0))) : (W.setCell ⟨B, 0, none⟩ v').heap[B]? = some (.cells #[v'] t (0, 0)) := by
  obtain ⟨hlt, hk⟩ := Array.getElem?_eq_some_iff.1 h
  show (W.heap.modify B _)[B]? = _
  rw [Array.getElem?_eq_getElem (by rw [Array.size_modify]; exact hlt), Array.getElem_modify_self, hk]
  rfl
/-- Between two rounds of Purses. -/
structure PsAt (w : World) (b0 B : Nat) (p : Nat) (r : Int) (xs : List (Int × Th)) (W : World) : Prop where
  below : Below w.heap.size w W
  size : b0 ≤ W.heap.size
  q1 : W.cell? ⟨w.heap.size, 0, none⟩ = some (.pointer (some ⟨p, 0, none⟩))
  q2 : W.cell? ⟨w.heap.size + 1, 0, none⟩ = some (.int .i64 r)
  row : ∃ v, W.heap[B]? = some (.cells #[v] 31 (0, 0)) ∧ W.ownsRow b0 35 1 v (xs.filter (isP r)).length ((xs.filter (isP r)).map fun x => .int .i64 x.1)
theorem PsAt.grown {w W W' : World} {b0 B p : Nat} {r : Int} {xs : List (Int × Th)} {row : Option Nat} (h : PsAt w b0 B p r xs W) (hB : B < b0) (hb0 : w.heap.size + 2 ≤ b0) (hg : W.grownBy W' row)
    (hr : ∀ x, row = some x → b0 ≤ x ∧ ∃ o : Obj, W.heap[x]? = some o ∧ o.isCells = false) : PsAt w b0 B p r xs W' := by
  have hk : ∀ c, c < b0 → c < W.heap.size → W'.heap[c]? = W.heap[c]? := fun c hc hl => hg.block c hl (fun e => by have := (hr c e.symm).1; omega)
  obtain ⟨v, hv, hrow⟩ := h.row
  have l1 := World.block_lt_of_cell? _ _ h.q1
  have l2 := World.block_lt_of_cell? _ _ h.q2
  refine ⟨h.below.grown hg h.below.size (fun k e => by have := (hr k e).1; omega), Nat.le_trans h.size hg.size, ?_, ?_, v, (hk B hB (blk_lt hv)).trans hv, row_from hrow hg (fun x e => (hr x e).2)⟩
  · rw [World.cell?_of_block (hk _ (by show w.heap.size < b0; omega) l1)]; exact h.q1
  · rw [World.cell?_of_block (hk _ (by show w.heap.size + 1 < b0; omega) l2)]; exact h.q2

theorem PsAt.skip {w W : World} {b0 B p : Nat} {r : Int} {xs : List (Int × Th)} {x : Int × Th} (h : PsAt w b0 B p r xs W) (hx : isP r x = false) : PsAt w b0 B p r (xs ++ [x]) W :=
  ⟨h.below, h.size, h.q1, h.q2, by
    have e : (xs ++ [x]).filter (isP r) = xs.filter (isP r) := by simp [List.filter_append, hx]
    rw [e]
    exact h.row⟩
theorem KpO_of_below {B : Nat} {W W' : World} (hB : B < W.heap.size) (h : Below W.heap.size W W') : KpO (boxOwn B) W W' where
  size := h.size
  cells := fun b _ _ _ hb _ => (h.block b (blk_lt hb)).trans hb
  own' := fun b hb => by
    rcases hb with rfl | ⟨v, hv, hb⟩
    · exact .inl (.inl rfl)
    · have : W'.cell? ⟨B, 0, none⟩ = W.cell? ⟨B, 0, none⟩ := World.cell?_of_block (h.block B hB)
      exact .inl (.inr ⟨v, this ▸ hv, hb⟩)
theorem box_facts {W : World} {B : Nat} {v : Value} {t : TypeId} (h : W.heap[B]? = some (.cells #[v] t (0, 0))) : W.cell? ⟨B, 0, none⟩ = some v ∧ W.frozen? ⟨B, 0, none⟩ = false := by
  constructor <;> simp [World.cell?, World.frozen?, h]
theorem row_base {W : World} {base base' : Nat} {e : TypeId} {v : Value} {k : Nat} {xs : List Value} (hb : base' ≤ base) (h : W.ownsRow base e 1 v k xs) : W.ownsRow base' e 1 v k xs := by
  refine ⟨h.1, ?_⟩
  rcases h.2 with h0 | ⟨g, cap, cur, h0, h1, h2⟩
  · exact .inl h0
  · exact .inr ⟨g, cap, cur, h0, Nat.le_trans hb h1, h2⟩
/-- A purse is written down. -/
theorem PsAt.push {w : World} {b0 B p : Nat} {r : Int} {xs : List (Int × Th)} {x : Int × Th} {W2 W3 : World} {v v3 : Value} (h : PsAt w b0 B p r xs W2) (hB : B < b0) (hb0 : w.heap.size + 2 ≤ b0) (hBx : w.heap.size + 1 < B)
    (hv : W2.heap[B]? = some (.cells #[v] 31 (0, 0))) (hrow : W2.ownsRow b0 35 1 v (xs.filter (isP r)).length ((xs.filter (isP r)).map fun x => .int .i64 x.1))
    (r1 : W3.ownsRow b0 35 1 v3 ((xs.filter (isP r)).length + 1) (((xs.filter (isP r)).map fun x => .int .i64 x.1) ++ [.int .i64 x.1])) (r2 : W2.grownBy W3 v.ownBlock) (r3 : Below b0 W2 W3)
    (r4 : v3.ownBlock = v.ownBlock ∨ v3.ownBlock = some (W2.heap.size + 1)) (hx : isP r x = true) :
    PsAt w b0 B p r (xs ++ [x]) (W3.setCell ⟨B, 0, none⟩ v3) ∧ KeepsOthers W2 (W3.setCell ⟨B, 0, none⟩ v3) ∧ KpO (boxOwn B) W2 (W3.setCell ⟨B, 0, none⟩ v3) := by
  have hv3 := (r3.block B hB).trans hv
  have hs := heap_setCell_box v3 hv3
  have hz : (W3.setCell ⟨B, 0, none⟩ v3).heap.size = W3.heap.size := by simp [World.setCell]
  have ho : ∀ k, k ≠ B → (W3.setCell ⟨B, 0, none⟩ v3).heap[k]? = W3.heap[k]? := fun k hk => Below.heap_setCell _ _ _ _ hk
  have hsize := r3.size
  have l1 := World.block_lt_of_cell? _ _ h.q1
  have l2 := World.block_lt_of_cell? _ _ h.q2
  refine ⟨⟨(h.below.trans (r3.mono (by omega))).setCell (by show w.heap.size ≤ B; omega) _, by rw [hz]; exact Nat.le_trans h.size hsize, ?_, ?_, v3, hs, ?_⟩, ⟨by rw [hz]; exact hsize, fun k o hk hc => ?_⟩, ⟨by rw [hz]; exact hsize, fun b cs e fr hb hn => ?_, fun b hb => ?_⟩⟩
  · rw [World.cell?_of_block ((ho _ (by show w.heap.size ≠ B; omega)).trans (r3.block _ (by show w.heap.size < b0; omega)))]; exact h.q1
  · rw [World.cell?_of_block ((ho _ (by show w.heap.size + 1 ≠ B; omega)).trans (r3.block _ (by show w.heap.size + 1 < b0; omega)))]; exact h.q2
  · rw [List.filter_append, List.map_append, List.length_append]
    simp only [List.filter_cons, hx, if_true, List.filter_nil, List.map_cons, List.map_nil, List.length_cons, List.length_nil]
    refine r1.kept (grownBy_setCell' W3 B v3) (.inr fun e => ?_)
    have := r1.lt B e
    omega
  · have hkB : k ≠ B := fun e => by
      subst e
      rw [hv] at hk
      cases hk
      cases hc
    rw [ho k hkB, r2.block k (blk_lt hk) (fun e => ?_)]
    · exact hk
    · rcases hrow.2 with ⟨rfl, -⟩ | ⟨g, cap, cur, rfl, -, hg, -⟩
      · cases e
      · simp only [Value.ownBlock, Option.some.injEq] at e
        subst e
        rw [hg] at hk
        cases hk
        cases hc
  · have hbB : b ≠ B := fun e => hn (.inl e)
    rw [ho b hbB, r2.block b (blk_lt hb) (fun e => hn (.inr ⟨v, by rw [cell_blk hv]; rfl, e.symm⟩))]
    exact hb
  · rcases hb with rfl | ⟨u, hu, hub⟩
    · exact .inl (.inl rfl)
    · have hu' : v3 = u := by
        rw [cell_blk hs] at hu
        exact Option.some.inj (show some v3 = some u from hu)
      subst hu'
      rcases r4 with h4 | h4
      · exact .inl (.inr ⟨v, by rw [cell_blk hv]; rfl, h4.symm.trans hub⟩)
      · rw [h4] at hub
        cases hub
        exact .inr (by omega)

set_option maxHeartbeats 4000000 in
set_option maxRecDepth 100000 in
theorem Purses_W {w : World} {p : Nat} {M : WM} {F : Nat → Prop} (hW : IsW w p M F) {r h N lo : Int} (hr : (Lit.int .i64 r).wf = true) (ht : M.at r = some (mintT h N lo)) (hP : ∀ x ∈ M.things, x.2.kind = 9 → ∃ h n m, x.2 = purseT h n m) :
    Calls Tryz.prog 29 #[.pointer (some ⟨p, 0, none⟩), .int .i64 r] w fun e w' => ∃ v, e = .returned (.tuple #[v, .int .i64 0]) ∧
      w'.ownsRow w.heap.size 35 1 v (M.things.filter (isP r)).length ((M.things.filter (isP r)).map fun x => .int .i64 x.1) ∧ Below w.heap.size w w' := by
  have HW := (show Hid (IsW w p M F) from hW)
  have hf := fun w1 (hb : Below w.heap.size w w1) => find_lt (hW.below hb) (q := 8) hr ht plain0 (.inl rfl)
  simp only [if_true] at hf
  have HF := (show Hid _ from hf)
  have HP := (show Hid _ from hP)
  clear hf hW ht hP
  refine (callsIn_wide (n := 5)).1 ?_
  refine callsIn_of_wp_marks Tryz.func29 rfl trivial ?_ rfl
  simp only [Tryz.ntmps29, List.size_toArray, List.length_cons, List.length_nil, Nat.reduceAdd, Nat.reduceSub, Array.replicate_succ, Array.replicate_zero, List.push_toArray, List.append_toArray, List.nil_append, List.cons_append]
  gi_wp2_with fail
  refine ⟨trivial, (callsIn_wide.2 (HF.out _ ((((Below.refl _ w).alloc (Nat.le_refl _) _).alloc (by simp) _)))).mono ?_⟩
  rintro e w1 ⟨rfl, hb1⟩
  obtain ⟨w2, hst, hb2, -, hs2⟩ := boxed_what' w1 #[.int .u8 8, .int .i64 h, .int .u8 0, .int .i64 0, .string ⟨#[]⟩, .slice none 0 0, .int .i64 0, .slice none 0 0, .int .i64 N, .int .i64 lo, .int .i64 0, .int .i64 0, .int .u8 0, .bool false, .slice none 0 0, .slice none 0 0] rfl (by simp [go_sem])
  have hB0 : Below (w.heap.size + 2) ((w.alloc (.cells #[.pointer (some ⟨p, 0, none⟩)] 26)).alloc (.cells #[.int .i64 r] 35)) w2 := by
    have := hb1.trans (hb2.mono hb1.size)
    simpa using this
  have hsz : w.heap.size + 2 ≤ w1.heap.size := by have := hb1.size; simpa using this
  have q1 : (w2.alloc (.cells #[.slice none 0 0] 31)).cell? ⟨w.heap.size, 0, none⟩ = some (.pointer (some ⟨p, 0, none⟩)) := by
    rw [cell_blk ((Below.heap_alloc _ _ _ (by omega)).trans ((hB0.block _ (by omega)).trans (blk2_old w _ _)))]; rfl
  have q2 : (w2.alloc (.cells #[.slice none 0 0] 31)).cell? ⟨w.heap.size + 1, 0, none⟩ = some (.int .i64 r) := by
    rw [cell_blk ((Below.heap_alloc _ _ _ (by omega)).trans ((hB0.block _ (by omega)).trans (blk2_new w _ _)))]; rfl
  have Hsz := (show Hid (w.heap.size + 2 ≤ w1.heap.size ∧ w2.heap.size = w1.heap.size + 1) from ⟨hsz, hs2⟩)
  have HB2 : Hid (Below w.heap.size w (w2.alloc (.cells #[.slice none 0 0] 31))) := by
    have h1 : Below w.heap.size w ((w.alloc (.cells #[.pointer (some ⟨p, 0, none⟩)] 26)).alloc (.cells #[.int .i64 r] 35)) := ((Below.refl _ w).alloc (Nat.le_refl _) _).alloc (by simp) _
    exact (h1.trans (hB0.mono (by omega))).alloc (by omega) _
  have c8 : (w2.alloc (.cells #[.slice none 0 0] 31)).heap[w1.heap.size + 1]? = some (.cells #[.slice none 0 0] 31 (0, 0)) := by rw [← hs2]; exact World.alloc_heap_new _ _
  have HC8 := (show Hid _ from c8)
  clear hb1 hb2 hB0 hsz c8
  gi_wp2_with fail
  clear hst
  revert q1 q2 Hsz HB2 HC8
  generalize w2.alloc _ = w3
  generalize hA : Value.agg #[.int .u8 8, .int .i64 h, .int .u8 0, .int .i64 0, .string ⟨#[]⟩, .slice none 0 0, .int .i64 0, .slice none 0 0, .int .i64 N, .int .i64 lo, .int .i64 0, .int .i64 0, .int .u8 0, .bool false, .slice none 0 0, .slice none 0 0] = A
  intro q1 q2 Hsz HB2 HC8
  clear hA
  refine ⟨trivial, (callsIn_wide.2 (Things_W w3 p)).mono ?_⟩
  rintro e _ ⟨rfl, rfl⟩
  gi_wp2_with fail
  have hB3 : w1.heap.size + 1 < w3.heap.size := blk_lt HC8.out
  have HB4 : Hid (Below w.heap.size w (w3.alloc (.cells #[.pointer (some ⟨p, 0, none⟩)] 26))) := HB2.out.alloc HB2.out.size _
  have hc8 : (w3.alloc (.cells #[.pointer (some ⟨p, 0, none⟩)] 26)).heap[w1.heap.size + 1]? = some (.cells #[.slice none 0 0] 31 (0, 0)) := (Below.heap_alloc _ _ _ hB3).trans HC8.out
  have hbx : (w3.alloc (.cells #[.pointer (some ⟨p, 0, none⟩)] 26)).cell? ⟨w3.heap.size, 0, none⟩ = some (.pointer (some ⟨p, 0, none⟩)) := by
    rw [cell_blk (World.alloc_heap_new w3 _)]; rfl
  have hin : PsAt w (w3.alloc (.cells #[.pointer (some ⟨p, 0, none⟩)] 26)).heap.size (w1.heap.size + 1) p r [] (w3.alloc (.cells #[.pointer (some ⟨p, 0, none⟩)] 26)) := by
    refine ⟨HB4.out, Nat.le_refl _, ?_, ?_, _, hc8, World.ownsRow_nil _ _ _ _⟩
    · rw [World.cell?_of_block (Below.heap_alloc _ _ _ (World.block_lt_of_cell? _ _ q1))]; exact q1
    · rw [World.cell?_of_block (Below.heap_alloc _ _ _ (World.block_lt_of_cell? _ _ q2))]; exact q2
  have hsz4 : w.heap.size + 2 ≤ (w3.alloc (.cells #[.pointer (some ⟨p, 0, none⟩)] 26)).heap.size ∧ w1.heap.size + 1 < (w3.alloc (.cells #[.pointer (some ⟨p, 0, none⟩)] 26)).heap.size := by
    have := Hsz.out
    simp
    omega
  have hown : ∀ W, Below (w3.alloc (.cells #[.pointer (some ⟨p, 0, none⟩)] 26)).heap.size (w3.alloc (.cells #[.pointer (some ⟨p, 0, none⟩)] 26)) W → ∀ b, boxOwn (w1.heap.size + 1) W b → b < (w3.alloc (.cells #[.pointer (some ⟨p, 0, none⟩)] 26)).heap.size := by
    rintro W hb b (rfl | ⟨v, hv, hv2⟩)
    · exact hsz4.2
    · rw [cell_blk ((hb.block _ hsz4.2).trans hc8)] at hv
      cases hv
      cases hv2
  have hseq := things1_seq (n := 4) (HW.out.below HB4.out) hbx (boxOwn (w1.heap.size + 1)) hown (fun y : {x // x ∈ M.things} => y.1) M.things.attach (List.attach_map_subtype_val _)
  have HSQ := (show Hid _ from hseq)
  clear hseq hown hbx hc8 q1 q2
  generalize hw4 : w3.alloc (.cells #[.pointer (some ⟨p, 0, none⟩)] 26) = w4 at *
  generalize w3.heap.size = bx at *
  refine wpIn_rangeFunc_ownF rfl (by decide) (gf := 44) (lb := #[.pointer (some ⟨bx, 0, none⟩)]) rfl trivial (enters_of Tryz.func44 (by kernel_rfl) rfl) HSQ.out (fun h k => h.trans k)
    (fun W l o o' hl ho hc _ => boxOwn_put hsz4.2 W l o o' hl ho hc) (Below.refl _ _) (fun _ => rfl)
    (fun (pre : List {x // x ∈ M.things}) W => PsAt w w4.heap.size (w1.heap.size + 1) p r (pre.map (fun x => x.1)) W) (fun _ _ _ => False)
    (fun s W W' row hs hg hr => by exact PsAt.grown hs hsz4.2 hsz4.1 hg hr) (fun _ _ _ _ _ hs _ _ => hs) hin
    (fun x => { tmps := #[.pointer (some ⟨p, 0, none⟩), .int .i64 r, .pointer (some ⟨w.heap.size, 0, none⟩), .pointer (some ⟨w.heap.size + 1, 0, none⟩), .slice none 0 0, .int .i64 0, .pointer (some ⟨w1.heap.size, 0, none⟩), .int .i64 0, .pointer (some ⟨w1.heap.size + 1, 0, none⟩), .int .i64 x.1.1, .int .u8 x.1.2.kind, undef, undef, .tuple #[A, .int .i64 0], .pointer (some ⟨p, 0, none⟩), .int .i64 r, .tuple #[A, .int .i64 0], A, .int .i64 0, .int .i64 0, .bool false, undef, .pointer (some ⟨p, 0, none⟩), .func (.func 44) #[] #[.pointer (some ⟨bx, 0, none⟩)], .int .i64 x.1.1, .int .u8 x.1.2.kind, undef, undef, undef, undef, undef, undef, undef, undef, undef, undef, undef, undef, undef, undef, undef, undef, undef], defers := [] }) ?assign ?body ?done ?stop
  case assign =>
    intro l x W K hK
    gi_wp2
    exact hK
  case body =>
    rintro l pre ⟨⟨i, t⟩, hm⟩ W hI hlen
    have Hk1 : Hid ((((pre.map (fun x => x.1)).filter (isP r)).length : Int) ≤ 1099511627777) := by
      have h1 := HW.out.ok.len_le
      have h2 := HW.out.ok.last.2
      have h3 := List.length_filter_le (isP r) (pre.map (fun x => x.1))
      rw [List.length_map] at h3
      show _ ≤ _
      omega
    clear hlen
    have hat : M.at i = some t := HW.out.ok.at_of_mem hm
    have hiw := HW.out.ok.at_wf hat
    by_cases hk : t.kind = 9
    · obtain ⟨h', n', m', rfl⟩ := HP.out (i, t) hm hk
      have hwh := fun W' (hb' : Below W.heap.size W W') => What_lt ((HW.out.below hI.below).below hb') hiw hat plain0
      have HWH := (show Hid _ from hwh)
      have HI := (show Hid _ from hI)
      have q1 := hI.q1
      have q2 := hI.q2
      clear hwh hI hk
      gi_wp2_with fail
      refine ⟨trivial, (CallsIn.inRound l (callsIn_wide.2 (HWH.out W (Below.refl _ _)))).mono ?_⟩
      rintro e W1 ⟨rfl, hb1⟩
      obtain ⟨W2, hst, hb2, hg2, hs2'⟩ := boxed_what' W1 #[.int .u8 9, .int .i64 h', .int .u8 0, .int .i64 0, .string ⟨#[]⟩, .slice none 0 0, .int .i64 0, .slice none 0 0, .int .i64 n', .int .i64 0, .int .i64 m', .int .i64 0, .int .u8 0, .bool false, .slice none 0 0, .slice none 0 0] rfl (by simp [go_sem])
      have hB2 : Below W.heap.size W W2 := hb1.trans (hb2.mono hb1.size)
      have HBW2 := (show Hid (Below W.heap.size W W2) from hB2)
      have HI2 : Hid (PsAt w w4.heap.size (w1.heap.size + 1) p r (List.map (fun x => x.val) pre) W2) := PsAt.grown HI.out hsz4.2 hsz4.1 (grownBy_of_below hB2) (fun _ e => by cases e)
      have q3 := HI2.out.q2
      have q3' : W1.heap.size < W2.heap.size := by omega
      have c10 : W2.cell? ⟨W1.heap.size, 10, none⟩ = some (.int .i64 m') := by rw [cell_blk hg2]; rfl
      obtain ⟨vB, hv, hrow⟩ := HI2.out.row
      have HV := (show Hid _ from hv)
      have HRow := (show Hid _ from hrow)
      have cB : W2.cell? ⟨w1.heap.size + 1, 0, none⟩ = some vB := by rw [cell_blk hv]; rfl
      clear hb1 hb2 hg2 hB2 hv hrow q1 q2 hs2'
      have HBW : Hid (w1.heap.size + 1 < W.heap.size) := Nat.lt_of_lt_of_le hsz4.2 HI.out.size
      by_cases hmr : m' = r
      · have Hx : Hid (isP r (i, purseT h' n' m') = true) := by show _ = _; simp [isP, hmr]
        have hmr' : (m' == r) = true := by simpa using hmr
        have HSZ2 : Hid (w4.heap.size ≤ W2.heap.size) := HI2.out.size
        clear hmr
        gi_wp2_with (gi_at_builtin; refine append_oneA rfl _ _ 31 rfl w4.heap.size 35 (.int .i64 0) 8 Tryz.underlying31 infoRef rfl vB _ _ rfl HRow (.int .i64 i) rfl rfl Hk1 (by decide) HSZ2 ?_; intro v3 W3 r1 r2 r3 r4
                     have hB3' : W3.heap[w1.heap.size + 1]? = some (.cells #[vB] 31 (0, 0)) := (r3.out.block _ hsz4.2).trans HV.out
                     obtain ⟨cB3, fB3⟩ := box_facts hB3'
                     obtain ⟨sa, sn, sc, rfl⟩ : ∃ sa sn sc, v3 = .slice sa sn sc := by rcases r1.out.2 with ⟨e, -⟩ | ⟨g, cap, cur, e, -⟩ <;> exact ⟨_, _, _, e⟩)
        obtain ⟨p1, p2, p3⟩ := PsAt.push HI2.out hsz4.2 hsz4.1 (by have := Hsz.out; omega) HV.out HRow.out r1.out r2.out r3.out r4.out Hx.out
        refine ⟨(keepsOthers_of_below HBW2.out).trans p2, (KpO_of_below HBW.out HBW2.out).trans p3, ?_⟩
        show PsAt _ _ _ _ _ (List.map _ (pre ++ [_])) _
        rw [List.map_append]
        exact p1
      · have hmr' : (m' == r) = false := by simpa using hmr
        have Hx : Hid (isP r (i, purseT h' n' m') = false) := by show _ = _; simp [isP, hmr]
        gi_wp2_with fail
        refine ⟨keepsOthers_of_below HBW2.out, KpO_of_below HBW.out HBW2.out, ?_⟩
        show PsAt _ _ _ _ _ (List.map _ (pre ++ [_])) _
        rw [List.map_append]
        exact PsAt.skip HI2.out Hx.out
    · have hk0 : (t.kind != 9) = true := by simpa using hk
      have HI := (show Hid _ from hI)
      have Hx : Hid (isP r (i, t) = false) := by show _ = _; simp [isP, hk]
      clear hI
      gi_wp2_with fail
      refine ⟨keepsOthers_of_below (Below.refl _ _), KpO.refl _ _, ?_⟩
      show PsAt _ _ _ _ _ (List.map _ (pre ++ [_])) _
      rw [List.map_append]
      exact PsAt.skip HI.out Hx.out
  case done =>
    rintro D ys W hD rfl hI hK
    rw [List.attach_map_subtype_val] at hI
    obtain ⟨vB, hv, hrow⟩ := hI.row
    have cB : W.cell? ⟨w1.heap.size + 1, 0, none⟩ = some vB := by rw [cell_blk hv]; rfl
    have HI := (show Hid _ from hI)
    have HRow := (show Hid _ from hrow)
    clear hI hv hrow
    gi_wp2_with fail
    refine ⟨by simp, .inl ⟨_, _, rfl, run_takeDeferred hK, ?_⟩⟩
    refine ⟨_, results_tmp2 rfl _ _ _, vB, rfl, row_base (by omega) (row_from HRow.out (grownBy_putObj' W D _) (fun x e => by cases e; exact ⟨_, hK, rfl⟩)), ?_⟩
    exact (HI.out.grown hsz4.2 hsz4.1 (grownBy_putObj' W D _) (fun x e => by cases e; exact ⟨hD, _, hK, rfl⟩)).below
  case stop =>
    rintro D c pre W _ _ h _
    exact h.elim
end Go.Proofs.YtmefjkggibbhoaaGreat
/- Sum: what the purses of a mint hold, and what the mint says. -/
namespace Go.Proofs.YtmefjkggibbhoaaGreat
open Go.RowKit Go.Shelf Go.ChangeMaps Go.MapKept
attribute [local go_sem] Oper.semAt_some

/-- What some purses hold. -/
def sumP : List (Int × Th) → Int
  | [] => 0
  | x :: xs => x.2.n + sumP xs
def sumF (xs : List (Int × Th)) : Int := xs.foldl (fun s x => s + min x.2.n (9007199254740992 - s)) 0
theorem sumF_snoc (xs : List (Int × Th)) (x : Int × Th) : sumF (xs ++ [x]) = sumF xs + min x.2.n (9007199254740992 - sumF xs) := by simp [sumF]
theorem sumF_le : ∀ (xs : List (Int × Th)), (∀ x ∈ xs, 0 ≤ x.2.n) → 0 ≤ sumF xs ∧ sumF xs ≤ 9007199254740992 := by
  have key : ∀ (xs : List (Int × Th)) (s : Int), (∀ x ∈ xs, 0 ≤ x.2.n) → 0 ≤ s ∧ s ≤ 9007199254740992 → 0 ≤ xs.foldl (fun s x => s + min x.2.n (9007199254740992 - s)) s ∧ xs.foldl (fun s x => s + min x.2.n (9007199254740992 - s)) s ≤ 9007199254740992 := by
    intro xs
    induction xs with
    | nil => intro s _ h; exact h
    | cons x xs ih =>
      intro s hx h
      refine ih _ (fun y hy => hx y (by simp [hy])) ?_
      have := hx x (by simp)
      show 0 ≤ s + min x.2.n (9007199254740992 - s) ∧ s + min x.2.n (9007199254740992 - s) ≤ 9007199254740992
      omega
  exact fun xs h => key xs 0 h (by omega)
theorem row_slice {W : World} {base : Nat} {e : TypeId} {v : Value} {n : Nat} {xs : List Value} (h : W.ownsRow base e 1 v n xs) :
    ∃ a cap, v = .slice a n cap ∧ ∀ k, k < n → ∃ g, a = some ⟨g, 0, none⟩ ∧ W.cell? ⟨g, k, none⟩ = xs[k]? := by
  rcases h.2 with ⟨rfl, h0⟩ | ⟨g, cap, cur, rfl, -⟩
  · subst h0
    exact ⟨none, 0, rfl, fun k hk => by omega⟩
  · exact ⟨_, cap, rfl, fun k hk => ⟨g, rfl, h.cellAt k (by omega)⟩⟩

set_option maxHeartbeats 4000000 in
set_option maxRecDepth 100000 in
theorem Sum_W {w : World} {p : Nat} {M : WM} {F : Nat → Prop} (hW : IsW w p M F) {r h N lo : Int} (hr : (Lit.int .i64 r).wf = true) (ht : M.at r = some (mintT h N lo))
    (hP : ∀ x ∈ M.things, x.2.kind = 9 → ∃ h n m, x.2 = purseT h n m ∧ 0 ≤ n) :
    Calls Tryz.prog 28 #[.pointer (some ⟨p, 0, none⟩), .int .i64 r] w fun e w' => e = .returned (.tuple #[.int .i64 (sumF (M.things.filter (isP r))), .int .i64 lo, .int .i64 N, .int .i64 0]) ∧ Below w.heap.size w w' := by
  have HW := (show Hid (IsW w p M F) from hW)
  have hps := Purses_W hW hr ht (fun x hx hk => by obtain ⟨a, b, c, d, -⟩ := hP x hx hk; exact ⟨a, b, c, d⟩)
  have HPS := (show Hid _ from hps)
  have HQ : Hid (∀ w1, Below w.heap.size w w1 → Calls Tryz.prog 14 #[.pointer (some ⟨p, 0, none⟩), .int .i64 r] w1 fun e w' => e = .returned (.tuple #[.agg #[.int .u8 8, .int .i64 h, .int .u8 0, .int .i64 0, .string ⟨#[]⟩, .slice none 0 0, .int .i64 0, .slice none 0 0, .int .i64 N, .int .i64 lo, .int .i64 0, .int .i64 0, .int .u8 0, .bool false, .slice none 0 0, .slice none 0 0], .int .i64 0]) ∧ Below w1.heap.size w1 w') := fun w1 hb => What_lt (hW.below hb) hr ht plain0
  have HP := (show Hid _ from hP)
  clear hps hW ht hP
  refine (callsIn_wide (n := 5)).1 ?_
  refine callsIn_of_wp Tryz.func28 rfl trivial ?_ rfl
  simp only [Tryz.ntmps28, List.size_toArray, List.length_cons, List.length_nil, Nat.reduceAdd, Nat.reduceSub, Array.replicate_succ, Array.replicate_zero, List.push_toArray, List.append_toArray, List.nil_append, List.cons_append]
  gi_wp2_with fail
  refine ⟨trivial, (callsIn_wide.2 HPS.out).mono ?_⟩
  rintro e w1 ⟨v, rfl, hrow, hb1⟩
  obtain ⟨a, cap, rfl, hcells⟩ := row_slice hrow
  generalize hL : M.things.filter (isP r) = L at *
  have HL : Hid (∀ x ∈ L, x ∈ M.things ∧ ∃ h n m, x.2 = purseT h n m ∧ 0 ≤ n) := by
    intro x hx
    rw [← hL] at hx
    obtain ⟨h1, h2⟩ := List.mem_filter.1 hx
    have h3 : x.2.kind = 9 := by simp only [isP, Bool.and_eq_true, decide_eq_true_eq] at h2; exact h2.1
    exact ⟨h1, HP.out x h1 h3⟩
  have HN : Hid ((L.length : Int) ≤ 1099511627776) := by
    have h1 := HW.out.ok.len_le
    have h2 := HW.out.ok.last.2
    have h3 := List.length_filter_le (isP r) M.things
    rw [hL] at h3
    show _ ≤ _
    omega
  have HC := (show Hid (∀ k, k < L.length → ∃ g, a = some ⟨g, 0, none⟩ ∧ w1.cell? ⟨g, k, none⟩ = (L.map fun x => Value.int .i64 x.1)[k]?) from hcells)
  have HB1 := (show Hid (Below w.heap.size w w1) from hb1)
  have HLe := (show Hid (M.things.filter (isP r) = L) from hL)
  clear hrow hb1 hcells hL
  gi_wp2_with fail
  gi_loopw [4, 26] (fun v4 vi wr => ∃ k : Nat, vi = .int .i64 k ∧ k ≤ L.length ∧ v4 = .int .i64 (sumF (L.take k)) ∧ Hid (Below w1.heap.size w1 wr)) (fun _ vi _ => L.length - (intOf vi).toNat)
  case atStart => exact ⟨0, rfl, Nat.zero_le _, rfl, Below.refl _ _⟩
  case round =>
    obtain ⟨k, rfl, hk, rfl, HBr⟩ := hrel
    by_cases hkm : k < L.length
    · have hkz : (k : Int) < (L.length : Int) := by omega
      have hwk : wrap64 ((k : Int) + 1) = (k : Int) + 1 := by have := HN.out; unfold wrap64; omega
      obtain ⟨x, hx⟩ : ∃ x, L[k]? = some x := ⟨_, List.getElem?_eq_getElem hkm⟩
      obtain ⟨hxm, h2, n2, m2, hx2, hn2⟩ := HL.out x (List.mem_of_getElem? hx)
      obtain ⟨g, rfl, hcell⟩ := HC.out k hkm
      have hs0 := sumF_le (L.take k) (fun y hy => by obtain ⟨-, h', n', m', e, hn⟩ := HL.out y (List.mem_of_mem_take hy); rw [e]; exact hn)
      have Htk : Hid (sumF (L.take (k + 1)) = sumF (L.take k) + min n2 (9007199254740992 - sumF (L.take k))) := by
        show _ = _
        rw [List.take_add_one, hx]
        show sumF (L.take k ++ [x]) = _
        rw [sumF_snoc, hx2]
      have hcx : wr.cell? ⟨g, k, none⟩ = some (.int .i64 x.1) := by
        rw [List.getElem?_map, hx] at hcell
        exact (HBr.out.cell (p := ⟨g, k, none⟩) (World.block_lt_of_cell? _ _ hcell)).trans hcell
      have hat : M.at x.1 = some (purseT h2 n2 m2) := by rw [HW.out.ok.at_of_mem hxm, hx2]
      have HG : Hid (∀ w2, Below w.heap.size w w2 → Calls Tryz.prog 30 #[.pointer (some ⟨p, 0, none⟩), .int .i64 x.1] w2 fun e w' => e = .returned (.tuple #[.int .i64 n2, .int .i64 0]) ∧ Below w2.heap.size w2 w') :=
        fun w2 hb => Get_W (HW.out.below hb) (HW.out.ok.at_wf hat) hat
      generalize sumF (L.take k) = S at *
      have hw1 : wrap64 (9007199254740992 - S) = 9007199254740992 - S := by unfold wrap64; omega
      have hw2 : wrap64 (S + min n2 (9007199254740992 - S)) = S + min n2 (9007199254740992 - S) := by unfold wrap64; omega
      clear hx hxm hx2 hcell hat
      gi_wp2_with fail
      refine ⟨trivial, (callsIn_wide.2 (HG.out wr (HB1.out.trans (HBr.out.mono HB1.out.size)))).mono ?_⟩
      rintro e w2 ⟨rfl, hb2⟩
      gi_wp2_with fail
      go_roundw
      case rel => exact ⟨k + 1, by go_num, by omega, by rw [Htk.out], HBr.out.trans (hb2.mono HBr.out.size)⟩
      case measure => rw [hwk]; exact measure_down hkm
    · have hkz : ¬ (k : Int) < (L.length : Int) := by omega
      obtain rfl : k = L.length := by omega
      gi_wp2_with fail
      have hbr : Below w.heap.size w wr := HB1.out.trans (HBr.out.mono HB1.out.size)
      refine ⟨trivial, (callsIn_wide.2 (HQ.out wr hbr)).mono ?_⟩
      rintro e w2 ⟨rfl, hb2⟩
      obtain ⟨w3, hst, hb3, hg3, hs3⟩ := boxed_what' w2 #[.int .u8 8, .int .i64 h, .int .u8 0, .int .i64 0, .string ⟨#[]⟩, .slice none 0 0, .int .i64 0, .slice none 0 0, .int .i64 N, .int .i64 lo, .int .i64 0, .int .i64 0, .int .u8 0, .bool false, .slice none 0 0, .slice none 0 0] rfl (by simp [go_sem])
      have HB3 := (show Hid (Below w.heap.size w w3) from hbr.trans ((hb2.trans (hb3.mono hb2.size)).mono hbr.size))
      have c8 : w3.cell? ⟨w2.heap.size, 8, none⟩ = some (.int .i64 N) := by rw [cell_blk hg3]; rfl
      have c9 : w3.cell? ⟨w2.heap.size, 9, none⟩ = some (.int .i64 lo) := by rw [cell_blk hg3]; rfl
      clear hbr hb2 hb3 hg3 hs3
      gi_wp2_with fail
      gi_quiet (fail)
      gi_wp2_with fail
      refine bodyPost_ret (v := .tuple #[.int .i64 (sumF L), .int .i64 lo, .int .i64 N, .int .i64 0]) (by simp [results, Tryz.f28, go_sem]) rfl ⟨by rw [HLe.out], HB3.out.trans ⟨rfl, rfl, rfl, Nat.le_refl _, fun _ _ => rfl⟩⟩
end Go.Proofs.YtmefjkggibbhoaaGreat
