/- A part of the proof, several texts in one: Pure, New. -/
import Derived.Test.YtifmifjbebpomaaGreatDoormAA
import Derived.Test.YtifmifjbebpomaaGreatDoormAC
import Derived.Deep.OwnRows
import Derived.Deep.QuietTactic
import Derived.BigQuiet
/- Plain laws on a world as data: a thing more, a thing that turns. -/
set_option linter.unusedSimpArgs false
namespace Go.Proofs.YtifmifjbebpomaaGreatDoor

theorem lookup_eq_some_mem {l : List (Int × Th)} {r : Int} {t : Th} (h : l.lookup r = some t) : (r, t) ∈ l := by
  induction l with
  | nil => cases h
  | cons x l ih =>
    obtain ⟨a, b⟩ := x
    rw [List.lookup_cons] at h
    by_cases e : r == a
    · rw [e] at h
      cases h
      have : r = a := by simpa using e
      subst this
      simp
    · rw [show (r == a) = false by simpa using e] at h
      exact List.mem_cons_of_mem _ (ih h)
theorem lookup_of_mem {l : List (Int × Th)} (hs : l.Pairwise (fun x y => x.1 < y.1)) {r : Int} {t : Th} (h : (r, t) ∈ l) : l.lookup r = some t := by
  induction l with
  | nil => cases h
  | cons x l ih =>
    obtain ⟨a, b⟩ := x
    obtain ⟨h1, h2⟩ := List.pairwise_cons.1 hs
    rw [List.lookup_cons]
    rcases List.mem_cons.1 h with e | e
    · cases e
      simp
    · have := h1 _ e
      have e2 : (r == a) = false := by simp; simp only at this; omega
      rw [e2]
      exact ih h2 e
theorem at_mem {M : WM} {r : Int} {t : Th} (h : M.at r = some t) : (r, t) ∈ M.things := lookup_eq_some_mem h
theorem WM.ok.at_of_mem {M : WM} (h : M.ok) {r : Int} {t : Th} (hm : (r, t) ∈ M.things) : M.at r = some t := lookup_of_mem h.keys hm
theorem WM.ok.at_range {M : WM} (h : M.ok) {r : Int} {t : Th} (hm : M.at r = some t) : 0 < r ∧ r ≤ M.last := h.range _ (at_mem hm)
theorem WM.ok.at_wf {M : WM} (h : M.ok) {r : Int} {t : Th} (hm : M.at r = some t) : (Lit.int .i64 r).wf = true := by
  have := h.at_range hm
  have := h.last
  exact WalkArith.wf_i64 (by omega)
theorem WM.ok.none_above {M : WM} (h : M.ok) {r : Int} (hr : M.last < r) : M.at r = none := by
  cases hm : M.at r with
  | none => rfl
  | some t => have := h.at_range hm; omega
theorem WM.ok.none_zero {M : WM} (h : M.ok) : M.at 0 = none := by
  cases hm : M.at 0 with
  | none => rfl
  | some t => have := h.at_range hm; omega

/-- One thing more. -/
def WM.add (M : WM) (t : Th) : WM :=
  { M with things := M.things ++ [(M.last + 1, t)], last := M.last + 1, made := if t.kind = 14 then M.made else M.made.set t.home.toNat (M.made.getD t.home.toNat 0 + 1) }

theorem lookup_append' (l : List (Int × Th)) (k : Int) (t : Th) (r : Int) : (l ++ [(k, t)]).lookup r = (l.lookup r).or (if r = k then some t else none) := by
  induction l with
  | nil =>
    by_cases e : r = k
    · subst e; simp
    · simp [e, List.lookup_cons, show (r == k) = false by simpa using e]
  | cons x l ih =>
    obtain ⟨a, b⟩ := x
    rw [List.cons_append, List.lookup_cons, List.lookup_cons]
    by_cases e : r == a
    · rw [e]; rfl
    · rw [show (r == a) = false by simpa using e]
      exact ih
theorem WM.add_at {M : WM} (h : M.ok) (t : Th) (r : Int) : (M.add t).at r = if r = M.last + 1 then some t else M.at r := by
  show (M.things ++ [(M.last + 1, t)]).lookup r = _
  rw [lookup_append']
  by_cases e : r = M.last + 1
  · subst e
    have := h.none_above (r := M.last + 1) (by omega)
    have e1 : M.things.lookup (M.last + 1) = none := this
    rw [e1]
    simp
  · simp [e, WM.at]
theorem WM.add_at_old {M : WM} (h : M.ok) (t : Th) {r : Int} {u : Th} (hr : M.at r = some u) : (M.add t).at r = some u := by
  rw [WM.add_at h, if_neg (by have := h.at_range hr; omega), hr]
theorem WM.add_at_new {M : WM} (h : M.ok) (t : Th) : (M.add t).at (M.last + 1) = some t := by rw [WM.add_at h, if_pos rfl]

theorem find_append_not {l : List (Int × Th)} {k : Int} {t : Th} {a b : Int} (hk : t.kind ≠ 14) : ((l ++ [(k, t)]).find? (fun x => x.2.kind == 14 && x.2.tgt == a && x.2.set == b)) = l.find? (fun x => x.2.kind == 14 && x.2.tgt == a && x.2.set == b) := by
  rw [List.find?_append]
  have : ([(k, t)] : List (Int × Th)).find? (fun x => x.2.kind == 14 && x.2.tgt == a && x.2.set == b) = none := by
    simp [hk]
  rw [this]
  simp
theorem WM.add_find_not {M : WM} {t : Th} (hk : t.kind ≠ 14) (a b : Int) : (M.add t).find a b = M.find a b := by
  show ((M.things ++ [(M.last + 1, t)]).find? _).map _ = _
  rw [find_append_not hk]
  rfl
theorem WM.add_find_facet {M : WM} {t : Th} (hk : t.kind = 14) (hn : M.find t.tgt t.set = none) (a b : Int) : (M.add t).find a b = if a = t.tgt ∧ b = t.set then some (M.last + 1) else M.find a b := by
  show ((M.things ++ [(M.last + 1, t)]).find? _).map _ = _
  rw [List.find?_append]
  by_cases e : a = t.tgt ∧ b = t.set
  · obtain ⟨rfl, rfl⟩ := e
    have h1 : M.things.find? (fun x => x.2.kind == 14 && x.2.tgt == t.tgt && x.2.set == t.set) = none := by
      simpa [WM.find] using hn
    rw [h1]
    simp [hk]
  · rw [if_neg e]
    have : ([(M.last + 1, t)] : List (Int × Th)).find? (fun x => x.2.kind == 14 && x.2.tgt == a && x.2.set == b) = none := by
      have : (t.tgt == a && t.set == b) = false := by
        cases h1 : t.tgt == a <;> cases h2 : t.set == b <;> simp_all
      simp [hk, this]
    rw [this]
    simp [WM.find]

theorem WM.find_at {M : WM} (h : M.ok) {a b r : Int} (hf : M.find a b = some r) : ∃ t, M.at r = some t ∧ t.kind = 14 ∧ t.tgt = a ∧ t.set = b := by
  unfold WM.find at hf
  rw [Option.map_eq_some_iff] at hf
  obtain ⟨x, hx, rfl⟩ := hf
  have hm := List.mem_of_find?_eq_some hx
  have hp := List.find?_some hx
  simp only [Bool.and_eq_true, beq_iff_eq] at hp
  exact ⟨x.2, h.at_of_mem hm, hp.1.1, hp.1.2, hp.2⟩
theorem WM.find_none {M : WM} {a b : Int} (hf : M.find a b = none) {r : Int} {t : Th} (ht : M.at r = some t) (hk : t.kind = 14) (h1 : t.tgt = a) (h2 : t.set = b) : False := by
  have : M.things.find? (fun x => x.2.kind == 14 && x.2.tgt == a && x.2.set == b) = none := by simpa [WM.find] using hf
  have := List.find?_eq_none.1 this _ (at_mem ht)
  simp [hk, h1, h2] at this

/-- What is asked of a thing that is added. -/
structure AddOk (M : WM) (t : Th) : Prop where
  wf : t.wf
  last : M.last + 1 ≤ 1099511627776
  home : t.kind ≠ 14 → 0 ≤ t.home ∧ t.home < M.made.length
  made : t.kind ≠ 14 → M.made.getD t.home.toNat 0 < 512
  wrap : wrapsB t.kind = true → ∃ u, M.at t.tgt = some u
  gate : t.kind = 15 → ∃ u, M.at t.bi = some u ∧ u.kind = 13
  purse : t.kind = 9 → ∃ u, M.at t.tgt = some u ∧ u.kind = 8
  facet : t.kind = 14 → M.find t.tgt t.set = none

theorem WM.add_ok {M : WM} (h : M.ok) {t : Th} (a : AddOk M t) : (M.add t).ok where
  sides := h.sides
  cuts := h.cuts
  made := by
    show (if t.kind = 14 then M.made else _).length = _
    split
    · exact h.made
    · rw [List.length_set]; exact h.made
  tree := h.tree
  keys := by
    show (M.things ++ [(M.last + 1, t)]).Pairwise _
    rw [List.pairwise_append]
    refine ⟨h.keys, by simp, fun x hx y hy => ?_⟩
    simp at hy
    subst hy
    have := h.range x hx
    simp only
    omega
  range x hx := by
    rcases List.mem_append.1 hx with hx | hx
    · have := h.range x hx
      show _ ∧ _ ≤ M.last + 1
      omega
    · simp at hx
      subst hx
      have := h.last
      show 0 < M.last + 1 ∧ M.last + 1 ≤ M.last + 1
      omega
  last := by
    have := h.last
    have := a.last
    show 0 ≤ M.last + 1 ∧ M.last + 1 ≤ _
    omega
  mades i x hx := by
    change (if t.kind = 14 then M.made else _)[i]? = some x at hx
    split at hx
    · exact h.mades i x hx
    · rename_i hk
      rw [List.getElem?_set] at hx
      split at hx
      · split at hx
        · cases hx
          have h1 := a.made hk
          have : M.made[t.home.toNat]? = some (M.made.getD t.home.toNat 0) := by rw [List.getD_eq_getElem?_getD, List.getElem?_eq_getElem (by omega)]; rfl
          have := h.mades _ _ this
          omega
        · cases hx
      · exact h.mades i x hx
  wf r u hu := by
    rw [WM.add_at h] at hu
    split at hu
    · cases hu; exact a.wf
    · exact h.wf r u hu
  homes r u hu hk := by
    have hl : (M.add t).made.length = M.made.length := by
      show (if t.kind = 14 then M.made else _).length = _
      split
      · rfl
      · rw [List.length_set]
    rw [hl]
    rw [WM.add_at h] at hu
    split at hu
    · cases hu; exact a.home hk
    · exact h.homes r u hu hk
  wrap := by
    obtain ⟨rk, h0, h1⟩ := h.wrap
    have hl := h.last
    refine ⟨fun r => if r = M.last + 1 then rk t.tgt + 1 else rk r, fun r => ?_, fun r u hu hw => ?_⟩
    · have e1 := h0 t.tgt
      have e2 := h0 r
      show (if r = M.last + 1 then rk t.tgt + 1 else rk r) ≤ (M.last + 1).toNat
      split <;> omega
    · rw [WM.add_at h] at hu
      split at hu
      · rename_i e
        cases hu
        obtain ⟨u, hu⟩ := a.wrap hw
        have := h.at_range hu
        refine ⟨⟨u, WM.add_at_old h _ hu⟩, ?_⟩
        show (if t.tgt = M.last + 1 then rk t.tgt + 1 else rk t.tgt) < if r = M.last + 1 then rk t.tgt + 1 else rk r
        rw [if_neg (by omega), if_pos e]
        omega
      · rename_i e
        obtain ⟨⟨v, hv⟩, h3⟩ := h1 r u hu hw
        have := h.at_range hv
        refine ⟨⟨v, WM.add_at_old h _ hv⟩, ?_⟩
        show (if u.tgt = M.last + 1 then rk t.tgt + 1 else rk u.tgt) < if r = M.last + 1 then rk t.tgt + 1 else rk r
        rw [if_neg (by omega), if_neg e]
        exact h3
  gate r u hu hk := by
    rw [WM.add_at h] at hu
    split at hu
    · cases hu
      obtain ⟨v, h1, h2⟩ := a.gate hk
      exact ⟨v, WM.add_at_old h _ h1, h2⟩
    · obtain ⟨v, h1, h2⟩ := h.gate r u hu hk
      exact ⟨v, WM.add_at_old h _ h1, h2⟩
  purse r u hu hk := by
    rw [WM.add_at h] at hu
    split at hu
    · cases hu
      obtain ⟨v, h1, h2⟩ := a.purse hk
      exact ⟨v, WM.add_at_old h _ h1, h2⟩
    · obtain ⟨v, h1, h2⟩ := h.purse r u hu hk
      exact ⟨v, WM.add_at_old h _ h1, h2⟩
  facet r u r' u' hu hu' k k' e1 e2 := by
    rw [WM.add_at h] at hu hu'
    split at hu <;> split at hu'
    · omega
    · cases hu
      exact (WM.find_none (a.facet k) hu' k' e1.symm e2.symm).elim
    · cases hu'
      exact (WM.find_none (a.facet k') hu k e1 e2).elim
    · exact h.facet r u r' u' hu hu' k k' e1 e2
end Go.Proofs.YtifmifjbebpomaaGreatDoor
/- New: a world of nothing. -/
namespace Go.Proofs.YtifmifjbebpomaaGreatDoor
open Go.RowKit Go.ChangeMaps Go.MapKept

def TreeOk (xs : List Int) : Prop := xs.length < 16 ∧ ∀ (i : Nat) (p : Int), xs[i]? = some p → 0 ≤ p ∧ p ≤ i

def WM.new (xs : List Int) : WM := ⟨xs, List.replicate (xs.length + 1) false, [], 0, List.replicate (xs.length + 1) 0⟩

theorem WM.new_ok {xs : List Int} (h : TreeOk xs) : (WM.new xs).ok where
  sides := h.1
  cuts := by simp [WM.new]
  made := by simp [WM.new]
  tree := h.2
  keys := by simp [WM.new]
  range := by simp [WM.new]
  last := by simp [WM.new]
  mades := fun i x hx => by
    simp only [WM.new, List.getElem?_replicate] at hx
    split at hx
    · cases hx; omega
    · cases hx
  wf := fun r t ht => by simp [WM.new, WM.at] at ht
  homes := fun r t ht => by simp [WM.new, WM.at] at ht
  wrap := ⟨fun _ => 0, fun _ => by simp, fun r t ht => by simp [WM.new, WM.at] at ht⟩
  gate := fun r t ht => by simp [WM.new, WM.at] at ht
  purse := fun r t ht => by simp [WM.new, WM.at] at ht
  facet := fun r t r' t' ht => by simp [WM.new, WM.at] at ht

theorem infoBool : (Tryz.prog.info? 4).map (fun i => (i.zero, i.size, i.bytes)) = some (some (.bool false), 1, 1) := by kernel_rfl
theorem infoInt : (Tryz.prog.info? 3).map (fun i => (i.zero, i.size, i.bytes)) = some (some (.int .i64 0), 1, 8) := by kernel_rfl

theorem made_row {w : World} {e : TypeId} {z : Value} {n : Nat} (hn : n ≤ 16) : Row (w.alloc (.cells (madeCells #[z] n) e)) w.heap.size e n (List.replicate n z) :=
  ⟨madeCells #[z] n, blk_new _ _, by simp [madeCells], by simp, by unfold maxLen; omega, fun j x hx => by
    rw [List.getElem?_replicate] at hx
    split at hx
    · cases hx
      rename_i h
      simp [madeCells, h, Nat.mod_one]
    · cases hx⟩

/-! ### the region that lays the world: what stays true of it -/
def upd {α : Type} (f : Nat → α) (i : Nat) (x : α) (j : Nat) : α := if j = i then x else f j

def NSides (w0 : World) (xs : List Int) (v : Value) (w : World) : Prop :=
  ∃ pa pc, v = .slice pa xs.length pc ∧ ∀ (j : Nat) (x : Int), xs[j]? = some x → ∃ b o, pa = some ⟨b, o, none⟩ ∧ w0.heap.size ≤ b ∧ b < w.heap.size ∧ (∃ cs fr, w.heap[b]? = some (.cells cs 23 fr)) ∧ w.cell? ⟨b, o + j, none⟩ = some (.int .i64 x)
def NRow (w0 : World) (n : Nat) (e : TypeId) (z : Value) (v : Value) (w : World) : Prop :=
  ∃ g, v = .slice (some ⟨g, 0, none⟩) n n ∧ w0.heap.size ≤ g ∧ g < w.heap.size ∧ Row w g e n (List.replicate n z)
def NMap (w0 : World) (k : TypeId) (v : Value) (w : World) : Prop := ∃ b, v = .map (some b) ∧ w0.heap.size ≤ b ∧ HasMap Tryz.prog k w b (fun _ => none) 0

theorem NSides.move {w0 : World} {xs : List Int} {v : Value} {w w' : World} (h : NSides w0 xs v w) (hb : Below w.heap.size w w') : NSides w0 xs v w' := by
  obtain ⟨pa, pc, h1, h2⟩ := h
  refine ⟨pa, pc, h1, fun j x hx => ?_⟩
  obtain ⟨b, o, h3, h4, h5, ⟨cs, fr, h6⟩, h7⟩ := h2 j x hx
  exact ⟨b, o, h3, h4, Nat.lt_of_lt_of_le h5 hb.size, ⟨cs, fr, below_blk hb h6⟩, (hb.cell (p := ⟨b, o + j, none⟩) h5).trans h7⟩
theorem NRow.move {w0 : World} {n : Nat} {e : TypeId} {z : Value} {v : Value} {w w' : World} (h : NRow w0 n e z v w) (hb : Below w.heap.size w w') : NRow w0 n e z v w' := by
  obtain ⟨g, h1, h2, h3, h4⟩ := h
  exact ⟨g, h1, h2, Nat.lt_of_lt_of_le h3 hb.size, h4.of_block (hb.block g h3)⟩
theorem NMap.move {w0 : World} {k : TypeId} {v : Value} {w w' : World} (h : NMap w0 k v w) (hb : Below w.heap.size w w') : NMap w0 k v w' := by
  obtain ⟨b, h1, h2, h3⟩ := h
  exact ⟨b, h1, h2, h3.of_block (hb.block b h3.lt)⟩

structure NI (w0 : World) (v : Value) (xs : List Int) (G : Nat → Bool) (T : Nat → Value) (w : World) : Prop where
  b : Below w0.heap.size w0 w
  a0 : T 0 = v
  a6 : T 6 = .int .i64 ((xs.length : Int) + 1)
  k0 : G 0 = true → T 28 = v
  k1 : G 1 = true → NSides w0 xs (T 29) w
  k2 : G 2 = true → T 30 = .int .i64 ((xs.length : Int) + 1)
  k3 : G 3 = true → NRow w0 (xs.length + 1) 4 (.bool false) (T 31) w
  k4 : G 4 = true → T 32 = .int .i64 ((xs.length : Int) + 1)
  k5 : G 5 = true → NRow w0 (xs.length + 1) 3 (.int .i64 0) (T 33) w
  k6 : G 6 = true → NMap w0 24 (T 34) w
  k7 : G 7 = true → NMap w0 190 (T 35) w
  k67 : G 6 = true → G 7 = true → T 34 ≠ T 35
  o8 : G 8 = true → G 1 = true ∧ G 3 = true ∧ G 5 = true ∧ G 6 = true ∧ G 7 = true
  k8 : G 8 = true → T 36 = .agg #[T 29, T 31, T 34, T 35, .int .i64 0, T 33]
  o9 : G 9 = true → G 8 = true
  k9 : G 9 = true → ∃ p, T 37 = .pointer (some ⟨p, 0, none⟩) ∧ w0.heap.size ≤ p ∧ w.heap[p]? = some (.cells #[T 29, T 31, T 34, T 35, .int .i64 0, T 33] 38 (0, 0))
  o10 : G 10 = true → G 9 = true
  k10 : G 10 = true → T 2 = T 37
  k11 : G 11 = true → T 3 = .int .i64 0

section
variable {w0 : World} {v : Value} {xs : List Int} {G : Nat → Bool} {T : Nat → Value} {w : World}

theorem NI.move {w' : World} (h : NI w0 v xs G T w) (hb : Below w.heap.size w w') : NI w0 v xs G T w' where
  b := h.b.trans (hb.mono h.b.size)
  a0 := h.a0
  a6 := h.a6
  k0 := h.k0
  k1 := fun g => (h.k1 g).move hb
  k2 := h.k2
  k3 := fun g => (h.k3 g).move hb
  k4 := h.k4
  k5 := fun g => (h.k5 g).move hb
  k6 := fun g => (h.k6 g).move hb
  k7 := fun g => (h.k7 g).move hb
  k67 := h.k67
  o8 := h.o8
  k8 := h.k8
  o9 := h.o9
  k9 := fun g => by
    obtain ⟨p, h1, h2, h3⟩ := h.k9 g
    exact ⟨p, h1, h2, below_blk hb h3⟩
  o10 := h.o10
  k10 := h.k10
  k11 := h.k11

set_option maxHeartbeats 2000000 in
theorem NI.step (h : NI w0 v xs G T w) (i d : Nat) (x : Value) (hi : G i = false)
    (hd : d = [28, 29, 30, 31, 32, 33, 34, 35, 36, 37, 2, 3].getD i 99) (hlt : i < 12)
    (f0 : i = 0 → x = v) (f1 : i = 1 → NSides w0 xs x w) (f2 : i = 2 → x = .int .i64 ((xs.length : Int) + 1)) (f3 : i = 3 → NRow w0 (xs.length + 1) 4 (.bool false) x w)
    (f4 : i = 4 → x = .int .i64 ((xs.length : Int) + 1)) (f5 : i = 5 → NRow w0 (xs.length + 1) 3 (.int .i64 0) x w) (f6 : i = 6 → NMap w0 24 x w ∧ (G 7 = true → x ≠ T 35))
    (f7 : i = 7 → NMap w0 190 x w ∧ (G 6 = true → T 34 ≠ x)) (f8 : i = 8 → (G 1 = true ∧ G 3 = true ∧ G 5 = true ∧ G 6 = true ∧ G 7 = true) ∧ x = .agg #[T 29, T 31, T 34, T 35, .int .i64 0, T 33])
    (f9 : i = 9 → G 8 = true ∧ ∃ p, x = .pointer (some ⟨p, 0, none⟩) ∧ w0.heap.size ≤ p ∧ w.heap[p]? = some (.cells #[T 29, T 31, T 34, T 35, .int .i64 0, T 33] 38 (0, 0)))
    (f10 : i = 10 → G 9 = true ∧ x = T 37) (f11 : i = 11 → x = .int .i64 0) : NI w0 v xs (upd G i true) (upd T d x) w := by
  have n1 : G 8 = true → ¬ G 1 = false := fun g e => by have := (h.o8 g).1; rw [e] at this; cases this
  have n3 : G 8 = true → ¬ G 3 = false := fun g e => by have := (h.o8 g).2.1; rw [e] at this; cases this
  have n5 : G 8 = true → ¬ G 5 = false := fun g e => by have := (h.o8 g).2.2.1; rw [e] at this; cases this
  have n6 : G 8 = true → ¬ G 6 = false := fun g e => by have := (h.o8 g).2.2.2.1; rw [e] at this; cases this
  have n7 : G 8 = true → ¬ G 7 = false := fun g e => by have := (h.o8 g).2.2.2.2; rw [e] at this; cases this
  obtain ⟨hb, a0, a6, k0, k1, k2, k3, k4, k5, k6, k7, k67, o8, k8, o9, k9, o10, k10, k11⟩ := h
  match i, hlt with
  | 0, _ =>
    have f := f0 rfl
    clear f0 f1 f2 f3 f4 f5 f6 f7 f8 f9 f10 f11
    subst hd
    constructor <;> first | assumption | (simp only [upd, List.getD_eq_getElem?_getD]; intros; simp_all)
  | 1, _ =>
    have f := f1 rfl
    clear f1 f0 f2 f3 f4 f5 f6 f7 f8 f9 f10 f11
    subst hd
    constructor <;> first | assumption | (simp only [upd, List.getD_eq_getElem?_getD]; intros; simp_all)
  | 2, _ =>
    have f := f2 rfl
    clear f2 f0 f1 f3 f4 f5 f6 f7 f8 f9 f10 f11
    subst hd
    constructor <;> first | assumption | (simp only [upd, List.getD_eq_getElem?_getD]; intros; simp_all)
  | 3, _ =>
    have f := f3 rfl
    clear f3 f0 f1 f2 f4 f5 f6 f7 f8 f9 f10 f11
    subst hd
    constructor <;> first | assumption | (simp only [upd, List.getD_eq_getElem?_getD]; intros; simp_all)
  | 4, _ =>
    have f := f4 rfl
    clear f4 f0 f1 f2 f3 f5 f6 f7 f8 f9 f10 f11
    subst hd
    constructor <;> first | assumption | (simp only [upd, List.getD_eq_getElem?_getD]; intros; simp_all)
  | 5, _ =>
    have f := f5 rfl
    clear f5 f0 f1 f2 f3 f4 f6 f7 f8 f9 f10 f11
    subst hd
    constructor <;> first | assumption | (simp only [upd, List.getD_eq_getElem?_getD]; intros; simp_all)
  | 6, _ =>
    have f := f6 rfl
    clear f6 f0 f1 f2 f3 f4 f5 f7 f8 f9 f10 f11
    subst hd
    constructor <;> first | assumption | (simp only [upd, List.getD_eq_getElem?_getD]; intros; simp_all)
  | 7, _ =>
    have f := f7 rfl
    clear f7 f0 f1 f2 f3 f4 f5 f6 f8 f9 f10 f11
    subst hd
    constructor <;> first | assumption | (simp only [upd, List.getD_eq_getElem?_getD]; intros; simp_all)
  | 8, _ =>
    have f := f8 rfl
    clear f8 f0 f1 f2 f3 f4 f5 f6 f7 f9 f10 f11
    subst hd
    constructor <;> first | assumption | (simp only [upd, List.getD_eq_getElem?_getD]; intros; simp_all)
  | 9, _ =>
    have f := f9 rfl
    clear f9 f0 f1 f2 f3 f4 f5 f6 f7 f8 f10 f11
    subst hd
    constructor <;> first | assumption | (simp only [upd, List.getD_eq_getElem?_getD]; intros; simp_all)
  | 10, _ =>
    have f := f10 rfl
    clear f10 f0 f1 f2 f3 f4 f5 f6 f7 f8 f9 f11
    subst hd
    constructor <;> first | assumption | (simp only [upd, List.getD_eq_getElem?_getD]; intros; simp_all)
  | 11, _ =>
    have f := f11 rfl
    clear f11 f0 f1 f2 f3 f4 f5 f6 f7 f8 f9 f10
    subst hd
    constructor <;> first | assumption | (simp only [upd, List.getD_eq_getElem?_getD]; intros; simp_all)
theorem NI.world (h : NI w0 v xs G T w) (ht : TreeOk xs) (hG : ∀ i, i < 12 → G i = true) :
    ∃ p, T 2 = .pointer (some ⟨p, 0, none⟩) ∧ T 3 = .int .i64 0 ∧ IsW w p (WM.new xs) (fun b => w0.heap.size ≤ b ∧ b < w.heap.size) := by
  obtain ⟨p, h37, hp0, hp⟩ := h.k9 (hG 9 (by decide))
  obtain ⟨pa, pc, h29, hpar⟩ := h.k1 (hG 1 (by decide))
  obtain ⟨cg, h31, hc0, hc1, hcut⟩ := h.k3 (hG 3 (by decide))
  obtain ⟨mg, h33, hm0, hm1, hmad⟩ := h.k5 (hG 5 (by decide))
  obtain ⟨tb, h34, ht0, hthi⟩ := h.k6 (hG 6 (by decide))
  obtain ⟨fb, h35, hf0, hfac⟩ := h.k7 (hG 7 (by decide))
  have hne := h.k67 (hG 6 (by decide)) (hG 7 (by decide))
  rw [h29, h31, h33, h34, h35] at hp
  refine ⟨p, (h.k10 (hG 10 (by decide))).trans h37, h.k11 (hG 11 (by decide)), pa, pc, cg, xs.length + 1, mg, xs.length + 1, tb, fb, 0, fun _ => 0, ?_⟩
  exact {
    hp := by simpa [WM.new] using hp
    pars := fun j x hx => by
      obtain ⟨b, o, h1, h2, h3, h4, h5⟩ := hpar j x hx
      exact ⟨b, o, h1, ⟨h2, h3⟩, h4, h5⟩
    cut := by simpa [WM.new] using hcut
    mad := by simpa [WM.new] using hmad
    things := hthi.congr (fun key kl _ => by unfold thf; split <;> simp [WM.new, WM.at])
    facets := hfac.congr (fun key kl _ => by
      unfold faf
      split
      · split
        · simp [WM.new, WM.find]
        · rfl
      · rfl)
    fnle := by simp [WM.new]
    blk := fun r t ht => by simp [WM.new, WM.at] at ht
    inj := fun r r' t t' ht => by simp [WM.new, WM.at] at ht
    own := ⟨⟨hp0, blk_lt hp⟩, ⟨hc0, hc1⟩, ⟨hm0, hm1⟩, ⟨ht0, hthi.lt⟩, ⟨hf0, hfac.lt⟩⟩
    tf := fun e => hne (by rw [h34, h35, e])
    lt := fun b hb => hb.2
    ok := WM.new_ok ht }
end
end Go.Proofs.YtifmifjbebpomaaGreatDoor
