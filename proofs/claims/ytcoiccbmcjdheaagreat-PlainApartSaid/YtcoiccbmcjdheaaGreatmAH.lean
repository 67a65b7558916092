/- A part of the proof, several texts in one: Range, Class, RefsW, Things. -/
import Derived.Test.YtcoiccbmcjdheaaGreatmAA
import Derived.Deep.QuietTactic
import Derived.BigQuiet
import Derived.Test.YtcoiccbmcjdheaaGreatmAG
import Derived.Test.YtcoiccbmcjdheaaGreatmAD
import Derived.Test.YtcoiccbmcjdheaaGreatmAE
import Derived.Sort.OwnSortedInts
import Derived.RangeFuncBox
import Derived.Deep.DeepCutAuto
import Derived.Deep.CutBlock
import Derived.RangeFuncNested
import Derived.RangeFuncBound
import Derived.RangeFuncCalls
import Derived.RangeFuncLeaves
import Derived.RangeFuncFrom
import Derived.Shelf.Abstract
import Derived.Shelf.RegionOpen
import Derived.WalkKit
import Derived.OwnWalkIn
import Derived.TacticsInMore
import Derived.LoopNIn
import Derived.LoopIn
import Derived.Maps.OwnIn
/- A loop over a map with references as keys, said with the map as a function of its keys. -/
namespace Go.Proofs.YtcoiccbmcjdheaaGreat
open Go.RowKit Go.ChangeMaps Go.MapKept
open Go.Maps (Keyed)

/-- Block r is a loop over the map b, which has f; L says whose turn is still to come. -/
def Rg (w : World) (b r : Nat) (f : Value → Option Value) (L : Int → Bool) (cnt : Nat) : Prop :=
  ∃ (D : DataW Value) (n : Nat) (left : Lit → Bool), w.ranges Tryz.prog 28 tokR b r n D left cnt ∧
    (∀ key kl, keyOf Tryz.prog 28 key = some kl → Maps.has D kl = (f key).isSome ∧ ∀ v, f key = some v → ∀ zd, D.atKey kl zd = .held v) ∧
    ∀ x, (Lit.int .i64 x).wf = true → left (.int .i64 x) = L x

section
variable {w : World} {b r : Nat} {f : Value → Option Value} {L : Int → Bool} {cnt : Nat}

theorem Rg.of_blocks {w' : World} (h : Rg w b r f L cnt) (hb : w'.heap[b]? = w.heap[b]?) (hr : w'.heap[r]? = w.heap[r]?) : Rg w' b r f L cnt := by
  obtain ⟨D, n, left, ⟨es, clock, since, seen, c0, h1, h2, h3, h4, h5, h6⟩, r'⟩ := h
  exact ⟨D, n, left, ⟨es, clock, since, seen, c0, hb.trans h1, h2, h3, h4, hr.trans h5, h6⟩, r'⟩
theorem Rg.lt (h : Rg w b r f L cnt) : r < w.heap.size := by
  obtain ⟨D, n, left, h, _⟩ := h
  exact h.lt
theorem Rg.ltb (h : Rg w b r f L cnt) : b < w.heap.size := by
  obtain ⟨D, n, left, h, _⟩ := h
  exact h.owns.lt
theorem Rg.ne (h : Rg w b r f L cnt) : r ≠ b := by
  obtain ⟨D, n, left, h, _⟩ := h
  exact h.ne
theorem Rg.below {w' : World} (h : Rg w b r f L cnt) (hb : Below w.heap.size w w') : Rg w' b r f L cnt := h.of_blocks (hb.block b h.ltb) (hb.block r h.lt)
theorem Rg.left_eq (h : Rg w b r f L cnt) : w.rangeLeft b r = cnt := by
  obtain ⟨D, n, left, h, _⟩ := h
  exact h.left_eq
theorem Rg.congr {L' : Int → Bool} (h : Rg w b r f L cnt) (hL : ∀ x, (Lit.int .i64 x).wf = true → L' x = L x) : Rg w b r f L' cnt := by
  obtain ⟨D, n, left, h1, h2, h3⟩ := h
  exact ⟨D, n, left, h1, h2, fun x hx => (h3 x hx).trans (hL x hx).symm⟩
end

section
variable {w : World} {ops : Array Oper} {rest : List Oper} {o : Oper} {a : Act} {Q : Exit → Act → World → Prop}

theorem range_H (hg : o.guard = none) (m : Operand) (t e : TypeId) (hop : o.op = Op.range t m) (ht : Tryz.prog.underlying t = some (.map 28 e)) (b n : Nat) (f : Value → Option Value)
    (hm : a.eval m = .map (some b)) (h : HasMap Tryz.prog 28 w b f n)
    (hK : ∀ w' L cnt, Rg w' b w.heap.size f L cnt → (∀ x, (Lit.int .i64 x).wf = true → L x = (f (.int .i64 x)).isSome) → Below w.heap.size w w' → wpList Tryz.prog ops Q rest (a.put o.dst (.pointer (some ⟨w.heap.size, 0, none⟩))) w') :
    wpList Tryz.prog ops Q (o :: rest) a w := by
  obtain ⟨D, h1, h2, h3⟩ := h
  refine wpList_range_own w hg m t hop 28 e keyedRef ht tokR b n D hm h1 fun w' hrg hgr hsz => ?_
  refine hK w' (fun x => (f (.int .i64 x)).isSome) (Maps.size D) ⟨D, n, Maps.has D, hrg, h3, fun x hx => (h3 _ _ (key_ref hx)).1⟩ (fun x _ => rfl) ?_
  exact ⟨hgr.os, hgr.tape, hgr.output, hgr.size, fun k hk => hgr.block k hk (by simp)⟩

theorem next_H (hg : o.guard = none) (it : Operand) (hop : o.op = Op.next it false) (b r : Nat) (f : Value → Option Value) (L : Int → Bool) (cnt : Nat)
    (hit : a.eval it = .pointer (some ⟨r, 0, none⟩)) (h : Rg w b r f L cnt)
    (hDone : (∀ x, (Lit.int .i64 x).wf = true → L x = false) → wpList Tryz.prog ops Q rest (a.put o.dst (.tuple #[.bool false])) w)
    (hMore : ∀ (x : Int) (v : Value) (w' : World) (cnt' : Nat), (Lit.int .i64 x).wf = true → L x = true → f (.int .i64 x) = some v → Rg w' b r f (fun z => L z && !decide (z = x)) cnt' → cnt' < cnt →
      Keeps (fun y => y = r) w w' → w'.heap.size = w.heap.size → (Instr.entry (.pointer (some ⟨r, 0, none⟩))).run Tryz.prog w' = .ok (.tuple #[.int .i64 x, v]) w' → wpList Tryz.prog ops Q rest (a.put o.dst (.tuple #[.bool true, .int .i64 x, v])) w') :
    wpList Tryz.prog ops Q (o :: rest) a w := by
  obtain ⟨D, n, left, h1, h2, h3⟩ := h
  refine wpList_next_ranges w hg it hop 28 keyedRef tokR (Value.int .i64) (fun v : Value => v) (fun key kl hk => by obtain ⟨x, rfl, _⟩ := Maps.keyOf_int_inv Tryz.underlying28 hk; exact ⟨x, rfl⟩) (fun v y _ => ⟨v, rfl⟩) b r n D left cnt hit h1
    (fun _ hl => hDone fun x hx => (h3 x hx).symm.trans (hl _)) ?_
  intro x v kl y w' cnt' hkey hl hv hat hrg hlt hgr hsz hen
  obtain ⟨x', ex, rfl, hx⟩ := Maps.keyOf_int_inv Tryz.underlying28 hkey
  cases ex
  obtain ⟨g1, g2⟩ := h2 _ _ hkey
  have ey := (tokR_inj hv).1
  have hf : f (.int .i64 x) = some v := by
    cases hfx : f (.int .i64 x) with
    | none =>
      rw [hfx] at g1
      have h5 := Maps.atKey_of_not_has (D := D) (k := .int .i64 x) (by simpa using g1) .nil
      have h6 := hat .nil
      rw [h5, ey] at h6
      cases h6
    | some u =>
      have h6 := g2 u hfx .nil
      rw [hat .nil, ey] at h6
      cases h6
      rfl
  refine hMore x v w' cnt' hx ((h3 x hx).symm.trans hl) hf ⟨D, n, _, hrg, h2, fun z hz => ?_⟩ hlt (Keeps.of_grown hgr (fun z hz => by cases hz; rfl)) hsz hen
  show (left (.int .i64 z) && !(Lit.int .i64 z).sameKey (.int .i64 x)) = _
  rw [h3 z hz]
  simp [Lit.sameKey]
end
theorem thf_some {M : WM} {bl : Int → Nat} {x : Int} {v : Value} (h : thf M bl (.int .i64 x) = some v) : ∃ t, M.at x = some t ∧ v = .pointer (some ⟨bl x, 0, none⟩) := by
  simp only [thf] at h
  rw [Option.map_eq_some_iff] at h
  obtain ⟨t, h1, h2⟩ := h
  exact ⟨t, h1, h2.symm⟩
end Go.Proofs.YtcoiccbmcjdheaaGreat
/- A region that draws its order, whose operations answer one value in every world of a class. -/
namespace Go.Proofs.YtcoiccbmcjdheaaGreat
open Go.RowKit

theorem region_class {P : Program} {C : World → Prop} {id : Nat} {Q : Exit → Act → World → Prop} {a : Act} {w : World} {l : List Oper} (hm : P.follows .mixedOrders = true) (hB : Region.lexB .any l.toArray = true) (hC : C w.drew)
    (h : wpQuiet P l.toArray C (fun a' => ∀ w', C w' → Q .normal a' w') l a) : (Code.region id l.toArray true).wp P Q a w :=
  wp_region_quiet (C := C) hm hB hC (by simpa using h)
theorem below_drew {w : World} : Below w.heap.size w w.drew := ⟨rfl, rfl, rfl, Nat.le_refl _, fun _ _ => rfl⟩
theorem below_drewN {w : World} (n : Nat) : Below w.heap.size w (w.drewN n) := ⟨rfl, rfl, rfl, Nat.le_refl _, fun _ _ => rfl⟩
end Go.Proofs.YtcoiccbmcjdheaaGreat
/- refs: all numbers of a world, rising. -/
namespace Go.Proofs.YtcoiccbmcjdheaaGreat
open Go.RowKit Go.ChangeMaps Go.MapKept
variable {w : World} {p : Nat} {M : WM} {F : Nat → Prop}

/-- What has come, and what is still to come. -/
structure Cs (M : WM) (L : Int → Bool) (ss : List Int) : Prop where
  nd : ss.Nodup
  mem : ∀ x, x ∈ ss ↔ ((M.at x).isSome = true ∧ L x = false)
theorem Cs.start {M : WM} (hM : M.ok) {bl : Int → Nat} {L : Int → Bool} (h : ∀ x, (Lit.int .i64 x).wf = true → L x = (thf M bl (.int .i64 x)).isSome) : Cs M L [] where
  nd := List.nodup_nil
  mem := fun x => by
    constructor
    · intro hx
      cases hx
    · rintro ⟨h1, h2⟩
      obtain ⟨t, ht⟩ := Option.isSome_iff_exists.1 h1
      rw [h x (hM.at_wf ht)] at h2
      simp [thf, ht] at h2
theorem Cs.step {M : WM} {L : Int → Bool} {ss : List Int} (h : Cs M L ss) {x : Int} {t : Th} (hx : M.at x = some t) (hL : L x = true) : Cs M (fun z => L z && !decide (z = x)) (ss ++ [x]) where
  nd := by
    rw [List.nodup_append]
    refine ⟨h.nd, by simp, fun a ha b hb => ?_⟩
    simp at hb
    subst hb
    intro e
    subst e
    rw [((h.mem a).1 ha).2] at hL
    cases hL
  mem := fun y => by
    rw [List.mem_append, h.mem y]
    by_cases e : y = x
    · subst e
      simp [hx]
    · simp [e]
theorem Cs.done {M : WM} (hM : M.ok) {L : Int → Bool} {ss : List Int} (h : Cs M L ss) (hL : ∀ x, (Lit.int .i64 x).wf = true → L x = false) : (ss.mergeSort fun x y => decide (x ≤ y)) = M.things.map (·.1) ∧ ss.length = M.things.length := by
  have hk : (M.things.map (·.1)).Pairwise (fun a b => a < b) := by
    rw [List.pairwise_map]
    exact hM.keys
  have hnd : (M.things.map (·.1)).Nodup := hk.imp (fun h => by omega)
  have hp : ss.Perm (M.things.map (·.1)) := (List.perm_ext_iff_of_nodup h.nd hnd).2 fun x => by
    rw [h.mem x, List.mem_map]
    constructor
    · rintro ⟨h1, -⟩
      obtain ⟨t, ht⟩ := Option.isSome_iff_exists.1 h1
      exact ⟨(x, t), at_mem ht, rfl⟩
    · rintro ⟨y, hy, rfl⟩
      have := hM.at_of_mem hy
      exact ⟨by rw [this]; rfl, hL _ (hM.at_wf this)⟩
  have tr : ∀ a b c : Int, decide (a ≤ b) = true → decide (b ≤ c) = true → decide (a ≤ c) = true := fun a b c h1 h2 => by simp at *; omega
  have tot : ∀ a b : Int, (decide (a ≤ b) || decide (b ≤ a)) = true := fun a b => by simp; omega
  refine ⟨?_, by rw [hp.length_eq, List.length_map]⟩
  exact List.Perm.eq_of_pairwise (le := fun a b => decide (a ≤ b) = true) (fun a b _ _ h1 h2 => by simp at h1 h2; omega) (List.pairwise_mergeSort tr tot ss) (hk.imp (fun h => by simp; omega)) ((List.mergeSort_perm ss _).trans hp)
theorem nodup_len : ∀ (l m : List Int), l.Nodup → (∀ x ∈ l, x ∈ m) → l.length ≤ m.length
  | [], _, _, _ => Nat.zero_le _
  | x :: l, m, h, hm => by
    obtain ⟨h1, h2⟩ := List.nodup_cons.1 h
    have hx := hm x (by simp)
    have := nodup_len l (m.erase x) h2 (fun y hy => (List.mem_erase_of_ne (fun e : y = x => h1 (e ▸ hy))).2 (hm y (by simp [hy])))
    rw [List.length_erase_of_mem hx] at this
    have := List.length_pos_of_mem hx
    simp only [List.length_cons]
    omega
theorem Cs.len {M : WM} {L : Int → Bool} {ss : List Int} (h : Cs M L ss) : ss.length ≤ M.things.length := by
  have := nodup_len ss (M.things.map (·.1)) h.nd (fun x hx => by
    obtain ⟨t, ht⟩ := Option.isSome_iff_exists.1 ((h.mem x).1 hx).1
    exact List.mem_map.2 ⟨(x, t), at_mem ht, rfl⟩)
  simpa using this
theorem WM.ok.len_le {M : WM} (hM : M.ok) : (M.things.length : Int) ≤ M.last := by
  have key : ∀ (l : List (Int × Th)) (b : Int), l.Pairwise (fun x y => x.1 < y.1) → (∀ x ∈ l, b < x.1 ∧ x.1 ≤ M.last) → b ≤ M.last → (l.length : Int) + b ≤ M.last := by
    intro l
    induction l with
    | nil => intro b _ _ h; simpa using h
    | cons x l ih =>
      intro b hp hx hb
      obtain ⟨h1, h2⟩ := List.pairwise_cons.1 hp
      have hx0 := hx x (by simp)
      have := ih x.1 h2 (fun y hy => ⟨h1 y hy, (hx y (by simp [hy])).2⟩) hx0.2
      simp only [List.length_cons]
      omega
  have := key M.things 0 hM.keys (fun x hx => hM.range x hx) hM.last.1
  omega

def RefsPost (w : World) (M : WM) (e : Ending) (w' : World) : Prop :=
  ∃ g cap, e = .returned (.slice (some ⟨g, 0, none⟩) M.things.length cap) ∧ w'.ownsRow w.heap.size 28 1 (.slice (some ⟨g, 0, none⟩) M.things.length cap) M.things.length ((M.things.map (·.1)).map (Value.int .i64)) ∧ Below w.heap.size w w'


end Go.Proofs.YtcoiccbmcjdheaaGreat
/- Things: the iterator over all things of a world, by its contract: for every loop body that keeps the cells that are not its own. -/
namespace Go.Proofs.YtcoiccbmcjdheaaGreat
open Go.RowKit Go.Shelf Go.ChangeMaps Go.MapKept
attribute [local go_sem] Oper.semAt_some

/-- What a round keeps: all cells that are not the body's own; what is its own was so, or is new. -/
structure KpO (own : World → Nat → Prop) (W W' : World) : Prop where
  size : W.heap.size ≤ W'.heap.size
  cells : ∀ b cs e fr, W.heap[b]? = some (.cells cs e fr) → ¬ own W b → W'.heap[b]? = some (.cells cs e fr)
  own' : ∀ b, own W' b → own W b ∨ W.heap.size ≤ b
theorem KpO.trans {own : World → Nat → Prop} {A B C : World} (h : KpO own A B) (k : KpO own B C) : KpO own A C where
  size := Nat.le_trans h.size k.size
  cells := fun b cs e fr hb ho => k.cells b cs e fr (h.cells b cs e fr hb ho) (fun hB => by
    rcases h.own' b hB with h1 | h1
    · exact ho h1
    · have := (Array.getElem?_eq_some_iff.1 hb).1; omega)
  own' := fun b hb => by
    rcases k.own' b hb with h1 | h1
    · rcases h.own' b h1 with h2 | h2
      · exact .inl h2
      · exact .inr h2
    · have := h.size
      exact .inr (by omega)

theorem infoKind : (Tryz.prog.info? 37).map (fun i => (i.zero, i.size, i.bytes)) = some (some (.int .u8 0), 1, 1) := by kernel_rfl

theorem append_oneI {F : Fence} {nF : Nat} {P : Program} {w : World} {ops : Array Oper} {rest : List Oper} {o : Oper} {a : Act} {Q : Exit → Act → World → Prop} (hgd : o.guard = none) (s x : Operand) (t : TypeId)
    (ho : o.op = .call { callee := .builtin .append, args := #[s, x], argTypes := #[t, t] }) (base : Nat) (e : TypeId) (z : Value) (bytes : Nat) (ht : P.underlying t = some (.slice e))
    (hinfo : (P.info? e).map (fun i => (i.zero, i.size, i.bytes)) = some (some z, 1, bytes)) (hzs : z.cells.size = 1)
    (v : Value) (n : Nat) (xs : List Value) (hs : a.eval s = v) (hown : Hid (w.ownsRow base e 1 v n xs)) (y : Value) (hx : a.eval x = .slice (some ⟨w.heap.size, 0, none⟩) 1 1) (hy : y.oneCell' = true)
    (hn : Hid ((n : Int) ≤ 1099511627777)) (hb : bytes ≤ 64) (hbase : Hid (base ≤ w.heap.size))
    (h : ∀ v' w', Hid (w'.ownsRow base e 1 v' (n + 1) (xs ++ [y])) → Hid (w.grownBy w' v.ownBlock) → Hid (Below base w w') → wpListIn F nF P ops Q rest (a.put o.dst v') w') : wpListIn F nF P ops Q (o :: rest) a (w.alloc (.cells #[y] e)) := by
  obtain ⟨i, hi, hz, h1, h2⟩ := info_parts hinfo
  have hn' := hn.out
  have hb2 : (n + 1) * bytes ≤ (n + 1) * 64 := Nat.mul_le_mul_left _ hb
  refine wpListIn_append_own _ hgd s x t ho base e i z 1 bytes ht hi hz h1 h2 hzs (by decide) v n xs hs (hown.out.alloc _) ⟨w.heap.size, 0, none⟩ 1 1 [y] hx rfl (cell_one_new _ _ _) (by simp [hy]) (by unfold maxLen; omega) (by omega) (by have := hbase.out; simp; omega) ?_
  intro v' w' r1 r2 _
  have hg : w.grownBy w' v.ownBlock := (World.grownBy_alloc w _ _).trans r2
  exact h v' w' r1 hg ⟨hg.os, hg.tape, hg.output, hg.size, fun k hk => hg.block k (by have := hbase.out; omega) (fun e => by have := hown.out.lt k e.symm; omega)⟩
/-- Rows of two kinds of elements are two blocks. -/
theorem row_ne_row {w : World} {base base' n n' : Nat} {e e' : TypeId} {v v' : Value} {xs xs' : List Value} (hne : e ≠ e') (h : w.ownsRow base e 1 v n xs) (h' : w.ownsRow base' e' 1 v' n' xs') : v.ownBlock = none ∨ v.ownBlock ≠ v'.ownBlock := by
  rcases h.2 with ⟨rfl, -⟩ | ⟨g, cap, cur, rfl, -, hb, -⟩
  · exact .inl rfl
  · right
    rcases h'.2 with ⟨rfl, -⟩ | ⟨g', cap', cur', rfl, -, hb', -⟩
    · simp [Value.ownBlock]
    · simp only [Value.ownBlock, ne_eq, Option.some.injEq]
      rintro rfl
      rw [hb] at hb'
      injection hb' with hb'
      injection hb' with _ he
      exact hne he

theorem grownBy_of_below {A B : World} (h : Below A.heap.size A B) : A.grownBy B none := ⟨h.os, h.tape, h.output, h.size, fun k hk _ => h.block k hk⟩
theorem row_KpO {own : World → Nat → Prop} {A B : World} {base g n cap : Nat} {e : TypeId} {xs : List Value} (h : A.ownsRow base e 1 (.slice (some ⟨g, 0, none⟩) n cap) n xs) (hk : KpO own A B) (ho : ¬ own A g) :
    B.ownsRow base e 1 (.slice (some ⟨g, 0, none⟩) n cap) n xs := by
  refine ⟨h.1, ?_⟩
  rcases h.2 with ⟨h0, -⟩ | ⟨g', cap', cur, h0, hb, hg, rest⟩
  · cases h0
  · cases h0
    exact .inr ⟨g, cap, cur, rfl, hb, hk.cells _ _ _ _ hg ho, rest⟩
theorem measure_down {n k : Nat} (h : k < n) : n - ((k : Int) + 1).toNat < n - (k : Int).toNat := by omega


end Go.Proofs.YtcoiccbmcjdheaaGreat
