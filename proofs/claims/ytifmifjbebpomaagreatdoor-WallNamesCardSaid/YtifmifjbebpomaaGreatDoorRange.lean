/- A loop over a map with references as keys, said with the map as a function of its keys. -/
import Derived.Test.YtifmifjbebpomaaGreatDoorRep
namespace Go.Proofs.YtifmifjbebpomaaGreatDoor
open Go.RowKit Go.ChangeMaps Go.MapKept
open Go.Maps (Keyed)

/-- Block r is a loop over the map b, which has f; L says whose turn is still to come. -/
def Rg (w : World) (b r : Nat) (f : Value → Option Value) (L : Int → Bool) (cnt : Nat) : Prop :=
  ∃ (D : DataW Value) (n : Nat) (left : Lit → Bool), w.ranges Tryz.prog 24 tokR b r n D left cnt ∧
    (∀ key kl, keyOf Tryz.prog 24 key = some kl → Maps.has D kl = (f key).isSome ∧ ∀ v, f key = some v → ∀ zd, D.atKey kl zd = .held v) ∧
    ∀ x, (Lit.int .i64 x).wf = true → left (.int .i64 x) = L x

section
variable {w : World} {b r : Nat} {f : Value → Option Value} {L : Int → Bool} {cnt : Nat}

theorem Rg.of_blocks {w' : World} (h : Rg w b r f L cnt) (hb : w'.heap[b]? = w.heap[b]?) (hr : w'.heap[r]? = w.heap[r]?) : Rg w' b r f L cnt := by
  obtain ⟨D, n, left, ⟨es, clock, since, seen, c0, h1, h2, h3, h4, h5, h6⟩, r'⟩ := h
  exact ⟨D, n, left, ⟨es, clock, since, seen, c0, hb.trans h1, h2, h3, h4, hr.trans h5, h6⟩, r'⟩
theorem Rg.lt (h : Rg w b r f L cnt) : r < w.heap.size := by
  obtain ⟨D, n, left, h, _⟩ := h
  exact h.lt
theorem Rg.ltb (h : Rg w b r f L cnt) : b < w.heap.size := by
  obtain ⟨D, n, left, h, _⟩ := h
  exact h.owns.lt
theorem Rg.ne (h : Rg w b r f L cnt) : r ≠ b := by
  obtain ⟨D, n, left, h, _⟩ := h
  exact h.ne
theorem Rg.below {w' : World} (h : Rg w b r f L cnt) (hb : Below w.heap.size w w') : Rg w' b r f L cnt := h.of_blocks (hb.block b h.ltb) (hb.block r h.lt)
theorem Rg.left_eq (h : Rg w b r f L cnt) : w.rangeLeft b r = cnt := by
  obtain ⟨D, n, left, h, _⟩ := h
  exact h.left_eq
theorem Rg.congr {L' : Int → Bool} (h : Rg w b r f L cnt) (hL : ∀ x, (Lit.int .i64 x).wf = true → L' x = L x) : Rg w b r f L' cnt := by
  obtain ⟨D, n, left, h1, h2, h3⟩ := h
  exact ⟨D, n, left, h1, h2, fun x hx => (h3 x hx).trans (hL x hx).symm⟩
end

section
variable {w : World} {ops : Array Oper} {rest : List Oper} {o : Oper} {a : Act} {Q : Exit → Act → World → Prop}

theorem range_H (hg : o.guard = none) (m : Operand) (t e : TypeId) (hop : o.op = Op.range t m) (ht : Tryz.prog.underlying t = some (.map 24 e)) (b n : Nat) (f : Value → Option Value)
    (hm : a.eval m = .map (some b)) (h : HasMap Tryz.prog 24 w b f n)
    (hK : ∀ w' L cnt, Rg w' b w.heap.size f L cnt → (∀ x, (Lit.int .i64 x).wf = true → L x = (f (.int .i64 x)).isSome) → Below w.heap.size w w' → wpList Tryz.prog ops Q rest (a.put o.dst (.pointer (some ⟨w.heap.size, 0, none⟩))) w') :
    wpList Tryz.prog ops Q (o :: rest) a w := by
  obtain ⟨D, h1, h2, h3⟩ := h
  refine wpList_range_own w hg m t hop 24 e keyedRef ht tokR b n D hm h1 fun w' hrg hgr hsz => ?_
  refine hK w' (fun x => (f (.int .i64 x)).isSome) (Maps.size D) ⟨D, n, Maps.has D, hrg, h3, fun x hx => (h3 _ _ (key_ref hx)).1⟩ (fun x _ => rfl) ?_
  exact ⟨hgr.os, hgr.tape, hgr.output, hgr.size, fun k hk => hgr.block k hk (by simp)⟩

theorem next_H (hg : o.guard = none) (it : Operand) (hop : o.op = Op.next it false) (b r : Nat) (f : Value → Option Value) (L : Int → Bool) (cnt : Nat)
    (hit : a.eval it = .pointer (some ⟨r, 0, none⟩)) (h : Rg w b r f L cnt)
    (hDone : (∀ x, (Lit.int .i64 x).wf = true → L x = false) → wpList Tryz.prog ops Q rest (a.put o.dst (.tuple #[.bool false])) w)
    (hMore : ∀ (x : Int) (v : Value) (w' : World) (cnt' : Nat), (Lit.int .i64 x).wf = true → L x = true → f (.int .i64 x) = some v → Rg w' b r f (fun z => L z && !decide (z = x)) cnt' → cnt' < cnt →
      Keeps (fun y => y = r) w w' → w'.heap.size = w.heap.size → (Instr.entry (.pointer (some ⟨r, 0, none⟩))).run Tryz.prog w' = .ok (.tuple #[.int .i64 x, v]) w' → wpList Tryz.prog ops Q rest (a.put o.dst (.tuple #[.bool true, .int .i64 x, v])) w') :
    wpList Tryz.prog ops Q (o :: rest) a w := by
  obtain ⟨D, n, left, h1, h2, h3⟩ := h
  refine wpList_next_ranges w hg it hop 24 keyedRef tokR (Value.int .i64) (fun v : Value => v) (fun key kl hk => by obtain ⟨x, rfl, _⟩ := Maps.keyOf_int_inv Tryz.underlying24 hk; exact ⟨x, rfl⟩) (fun v y _ => ⟨v, rfl⟩) b r n D left cnt hit h1
    (fun _ hl => hDone fun x hx => (h3 x hx).symm.trans (hl _)) ?_
  intro x v kl y w' cnt' hkey hl hv hat hrg hlt hgr hsz hen
  obtain ⟨x', ex, rfl, hx⟩ := Maps.keyOf_int_inv Tryz.underlying24 hkey
  cases ex
  obtain ⟨g1, g2⟩ := h2 _ _ hkey
  have ey := (tokR_inj hv).1
  have hf : f (.int .i64 x) = some v := by
    cases hfx : f (.int .i64 x) with
    | none =>
      rw [hfx] at g1
      have h5 := Maps.atKey_of_not_has (D := D) (k := .int .i64 x) (by simpa using g1) .nil
      have h6 := hat .nil
      rw [h5, ey] at h6
      cases h6
    | some u =>
      have h6 := g2 u hfx .nil
      rw [hat .nil, ey] at h6
      cases h6
      rfl
  refine hMore x v w' cnt' hx ((h3 x hx).symm.trans hl) hf ⟨D, n, _, hrg, h2, fun z hz => ?_⟩ hlt (Keeps.of_grown hgr (fun z hz => by cases hz; rfl)) hsz hen
  show (left (.int .i64 z) && !(Lit.int .i64 z).sameKey (.int .i64 x)) = _
  rw [h3 z hz]
  simp [Lit.sameKey]
end
theorem thf_some {M : WM} {bl : Int → Nat} {x : Int} {v : Value} (h : thf M bl (.int .i64 x) = some v) : ∃ t, M.at x = some t ∧ v = .pointer (some ⟨bl x, 0, none⟩) := by
  simp only [thf] at h
  rw [Option.map_eq_some_iff] at h
  obtain ⟨t, h1, h2⟩ := h
  exact ⟨t, h1, h2.symm⟩
end Go.Proofs.YtifmifjbebpomaaGreatDoor
