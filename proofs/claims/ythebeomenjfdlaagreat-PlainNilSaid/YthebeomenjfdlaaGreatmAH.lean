/- A part of the proof, several texts in one: Range, Class, RefsW, Things. -/
import Derived.Test.YthebeomenjfdlaaGreatmAA
import Derived.Deep.QuietTactic
import Derived.BigQuiet
import Derived.Test.YthebeomenjfdlaaGreatmAG
import Derived.Test.YthebeomenjfdlaaGreatmAD
import Derived.Test.YthebeomenjfdlaaGreatmAE
import Derived.Sort.OwnSortedInts
import Derived.RangeFuncBox
import Derived.Deep.DeepCutAuto
import Derived.Deep.CutBlock
import Derived.RangeFuncNested
import Derived.RangeFuncBound
import Derived.RangeFuncCalls
import Derived.RangeFuncLeaves
import Derived.RangeFuncFrom
import Derived.Shelf.Abstract
import Derived.Shelf.RegionOpen
import Derived.WalkKit
import Derived.OwnWalkIn
import Derived.TacticsInMore
import Derived.LoopNIn
import Derived.LoopIn
import Derived.Maps.OwnIn
/- A loop over a map with references as keys, said with the map as a function of its keys. -/
namespace Go.Proofs.YthebeomenjfdlaaGreat
open Go.RowKit Go.ChangeMaps Go.MapKept
open Go.Maps (Keyed)

/-- Block r is a loop over the map b, which has f; L says whose turn is still to come. -/
def Rg (w : World) (b r : Nat) (f : Value → Option Value) (L : Int → Bool) (cnt : Nat) : Prop :=
  ∃ (D : DataW Value) (n : Nat) (left : Lit → Bool), w.ranges Tryz.prog 28 tokR b r n D left cnt ∧
    (∀ key kl, keyOf Tryz.prog 28 key = some kl → Maps.has D kl = (f key).isSome ∧ ∀ v, f key = some v → ∀ zd, D.atKey kl zd = .held v) ∧
    ∀ x, (Lit.int .i64 x).wf = true → left (.int .i64 x) = L x

section
variable {w : World} {b r : Nat} {f : Value → Option Value} {L : Int → Bool} {cnt : Nat}

theorem Rg.of_blocks {w' : World} (h : Rg w b r f L cnt) (hb : w'.heap[b]? = w.heap[b]?) (hr : w'.heap[r]? = w.heap[r]?) : Rg w' b r f L cnt := by
  obtain ⟨D, n, left, ⟨es, clock, since, seen, c0, h1, h2, h3, h4, h5, h6⟩, r'⟩ := h
  exact ⟨D, n, left, ⟨es, clock, since, seen, c0, hb.trans h1, h2, h3, h4, hr.trans h5, h6⟩, r'⟩
theorem Rg.lt (h : Rg w b r f L cnt) : r < w.heap.size := by
  obtain ⟨D, n, left, h, _⟩ := h
  exact h.lt
theorem Rg.ltb (h : Rg w b r f L cnt) : b < w.heap.size := by
  obtain ⟨D, n, left, h, _⟩ := h
  exact h.owns.lt
theorem Rg.ne (h : Rg w b r f L cnt) : r ≠ b := by
  obtain ⟨D, n, left, h, _⟩ := h
  exact h.ne
theorem Rg.below {w' : World} (h : Rg w b r f L cnt) (hb : Below w.heap.size w w') : Rg w' b r f L cnt := h.of_blocks (hb.block b h.ltb) (hb.block r h.lt)
theorem Rg.left_eq (h : Rg w b r f L cnt) : w.rangeLeft b r = cnt := by
  obtain ⟨D, n, left, h, _⟩ := h
  exact h.left_eq
theorem Rg.congr {L' : Int → Bool} (h : Rg w b r f L cnt) (hL : ∀ x, (Lit.int .i64 x).wf = true → L' x = L x) : Rg w b r f L' cnt := by
  obtain ⟨D, n, left, h1, h2, h3⟩ := h
  exact ⟨D, n, left, h1, h2, fun x hx => (h3 x hx).trans (hL x hx).symm⟩
end

section
variable {w : World} {ops : Array Oper} {rest : List Oper} {o : Oper} {a : Act} {Q : Exit → Act → World → Prop}

theorem range_H (hg : o.guard = none) (m : Operand) (t e : TypeId) (hop : o.op = Op.range t m) (ht : Tryz.prog.underlying t = some (.map 28 e)) (b n : Nat) (f : Value → Option Value)
    (hm : a.eval m = .map (some b)) (h : HasMap Tryz.prog 28 w b f n)
    (hK : ∀ w' L cnt, Rg w' b w.heap.size f L cnt → (∀ x, (Lit.int .i64 x).wf = true → L x = (f (.int .i64 x)).isSome) → Below w.heap.size w w' → wpList Tryz.prog ops Q rest (a.put o.dst (.pointer (some ⟨w.heap.size, 0, none⟩))) w') :
    wpList Tryz.prog ops Q (o :: rest) a w := by
  obtain ⟨D, h1, h2, h3⟩ := h
  refine wpList_range_own w hg m t hop 28 e keyedRef ht tokR b n D hm h1 fun w' hrg hgr hsz => ?_
  refine hK w' (fun x => (f (.int .i64 x)).isSome) (Maps.size D) ⟨D, n, Maps.has D, hrg, h3, fun x hx => (h3 _ _ (key_ref hx)).1⟩ (fun x _ => rfl) ?_
  exact ⟨hgr.os, hgr.tape, hgr.output, hgr.size, fun k hk => hgr.block k hk (by simp)⟩

theorem next_H (hg : o.guard = none) (it : Operand) (hop : o.op = Op.next it false) (b r : Nat) (f : Value → Option Value) (L : Int → Bool) (cnt : Nat)
    (hit : a.eval it = .pointer (some ⟨r, 0, none⟩)) (h : Rg w b r f L cnt)
    (hDone : (∀ x, (Lit.int .i64 x).wf = true → L x = false) → wpList Tryz.prog ops Q rest (a.put o.dst (.tuple #[.bool false])) w)
    (hMore : ∀ (x : Int) (v : Value) (w' : World) (cnt' : Nat), (Lit.int .i64 x).wf = true → L x = true → f (.int .i64 x) = some v → Rg w' b r f (fun z => L z && !decide (z = x)) cnt' → cnt' < cnt →
      Keeps (fun y => y = r) w w' → w'.heap.size = w.heap.size → (Instr.entry (.pointer (some ⟨r, 0, none⟩))).run Tryz.prog w' = .ok (.tuple #[.int .i64 x, v]) w' → wpList Tryz.prog ops Q rest (a.put o.dst (.tuple #[.bool true, .int .i64 x, v])) w') :
    wpList Tryz.prog ops Q (o :: rest) a w := by
  obtain ⟨D, n, left, h1, h2, h3⟩ := h
  refine wpList_next_ranges w hg it hop 28 keyedRef tokR (Value.int .i64) (fun v : Value => v) (fun key kl hk => by obtain ⟨x, rfl, _⟩ := Maps.keyOf_int_inv Tryz.underlying28 hk; exact ⟨x, rfl⟩) (fun v y _ => ⟨v, rfl⟩) b r n D left cnt hit h1
    (fun _ hl => hDone fun x hx => (h3 x hx).symm.trans (hl _)) ?_
  intro x v kl y w' cnt' hkey hl hv hat hrg hlt hgr hsz hen
  obtain ⟨x', ex, rfl, hx⟩ := Maps.keyOf_int_inv Tryz.underlying28 hkey
  cases ex
  obtain ⟨g1, g2⟩ := h2 _ _ hkey
  have ey := (tokR_inj hv).1
  have hf : f (.int .i64 x) = some v := by
    cases hfx : f (.int .i64 x) with
    | none =>
      rw [hfx] at g1
      have h5 := Maps.atKey_of_not_has (D := D) (k := .int .i64 x) (by simpa using g1) .nil
      have h6 := hat .nil
      rw [h5, ey] at h6
      cases h6
    | some u =>
      have h6 := g2 u hfx .nil
      rw [hat .nil, ey] at h6
      cases h6
      rfl
  refine hMore x v w' cnt' hx ((h3 x hx).symm.trans hl) hf ⟨D, n, _, hrg, h2, fun z hz => ?_⟩ hlt (Keeps.of_grown hgr (fun z hz => by cases hz; rfl)) hsz hen
  show (left (.int .i64 z) && !(Lit.int .i64 z).sameKey (.int .i64 x)) = _
  rw [h3 z hz]
  simp [Lit.sameKey]
end
theorem thf_some {M : WM} {bl : Int → Nat} {x : Int} {v : Value} (h : thf M bl (.int .i64 x) = some v) : ∃ t, M.at x = some t ∧ v = .pointer (some ⟨bl x, 0, none⟩) := by
  simp only [thf] at h
  rw [Option.map_eq_some_iff] at h
  obtain ⟨t, h1, h2⟩ := h
  exact ⟨t, h1, h2.symm⟩
end Go.Proofs.YthebeomenjfdlaaGreat
/- A region that draws its order, whose operations answer one value in every world of a class. -/
namespace Go.Proofs.YthebeomenjfdlaaGreat
open Go.RowKit

theorem region_class {P : Program} {C : World → Prop} {id : Nat} {Q : Exit → Act → World → Prop} {a : Act} {w : World} {l : List Oper} (hm : P.follows .mixedOrders = true) (hB : Region.lexB .any l.toArray = true) (hC : C w.drew)
    (h : wpQuiet P l.toArray C (fun a' => ∀ w', C w' → Q .normal a' w') l a) : (Code.region id l.toArray true).wp P Q a w :=
  wp_region_quiet (C := C) hm hB hC (by simpa using h)
theorem below_drew {w : World} : Below w.heap.size w w.drew := ⟨rfl, rfl, rfl, Nat.le_refl _, fun _ _ => rfl⟩
theorem below_drewN {w : World} (n : Nat) : Below w.heap.size w (w.drewN n) := ⟨rfl, rfl, rfl, Nat.le_refl _, fun _ _ => rfl⟩
end Go.Proofs.YthebeomenjfdlaaGreat
/- refs: all numbers of a world, rising. -/
namespace Go.Proofs.YthebeomenjfdlaaGreat
open Go.RowKit Go.ChangeMaps Go.MapKept
variable {w : World} {p : Nat} {M : WM} {F : Nat → Prop}

/-- What has come, and what is still to come. -/
structure Cs (M : WM) (L : Int → Bool) (ss : List Int) : Prop where
  nd : ss.Nodup
  mem : ∀ x, x ∈ ss ↔ ((M.at x).isSome = true ∧ L x = false)
theorem Cs.start {M : WM} (hM : M.ok) {bl : Int → Nat} {L : Int → Bool} (h : ∀ x, (Lit.int .i64 x).wf = true → L x = (thf M bl (.int .i64 x)).isSome) : Cs M L [] where
  nd := List.nodup_nil
  mem := fun x => by
    constructor
    · intro hx
      cases hx
    · rintro ⟨h1, h2⟩
      obtain ⟨t, ht⟩ := Option.isSome_iff_exists.1 h1
      rw [h x (hM.at_wf ht)] at h2
      simp [thf, ht] at h2
theorem Cs.step {M : WM} {L : Int → Bool} {ss : List Int} (h : Cs M L ss) {x : Int} {t : Th} (hx : M.at x = some t) (hL : L x = true) : Cs M (fun z => L z && !decide (z = x)) (ss ++ [x]) where
  nd := by
    rw [List.nodup_append]
    refine ⟨h.nd, by simp, fun a ha b hb => ?_⟩
    simp at hb
    subst hb
    intro e
    subst e
    rw [((h.mem a).1 ha).2] at hL
    cases hL
  mem := fun y => by
    rw [List.mem_append, h.mem y]
    by_cases e : y = x
    · subst e
      simp [hx]
    · simp [e]
theorem Cs.done {M : WM} (hM : M.ok) {L : Int → Bool} {ss : List Int} (h : Cs M L ss) (hL : ∀ x, (Lit.int .i64 x).wf = true → L x = false) : (ss.mergeSort fun x y => decide (x ≤ y)) = M.things.map (·.1) ∧ ss.length = M.things.length := by
  have hk : (M.things.map (·.1)).Pairwise (fun a b => a < b) := by
    rw [List.pairwise_map]
    exact hM.keys
  have hnd : (M.things.map (·.1)).Nodup := hk.imp (fun h => by omega)
  have hp : ss.Perm (M.things.map (·.1)) := (List.perm_ext_iff_of_nodup h.nd hnd).2 fun x => by
    rw [h.mem x, List.mem_map]
    constructor
    · rintro ⟨h1, -⟩
      obtain ⟨t, ht⟩ := Option.isSome_iff_exists.1 h1
      exact ⟨(x, t), at_mem ht, rfl⟩
    · rintro ⟨y, hy, rfl⟩
      have := hM.at_of_mem hy
      exact ⟨by rw [this]; rfl, hL _ (hM.at_wf this)⟩
  have tr : ∀ a b c : Int, decide (a ≤ b) = true → decide (b ≤ c) = true → decide (a ≤ c) = true := fun a b c h1 h2 => by simp at *; omega
  have tot : ∀ a b : Int, (decide (a ≤ b) || decide (b ≤ a)) = true := fun a b => by simp; omega
  refine ⟨?_, by rw [hp.length_eq, List.length_map]⟩
  exact List.Perm.eq_of_pairwise (le := fun a b => decide (a ≤ b) = true) (fun a b _ _ h1 h2 => by simp at h1 h2; omega) (List.pairwise_mergeSort tr tot ss) (hk.imp (fun h => by simp; omega)) ((List.mergeSort_perm ss _).trans hp)
theorem nodup_len : ∀ (l m : List Int), l.Nodup → (∀ x ∈ l, x ∈ m) → l.length ≤ m.length
  | [], _, _, _ => Nat.zero_le _
  | x :: l, m, h, hm => by
    obtain ⟨h1, h2⟩ := List.nodup_cons.1 h
    have hx := hm x (by simp)
    have := nodup_len l (m.erase x) h2 (fun y hy => (List.mem_erase_of_ne (fun e : y = x => h1 (e ▸ hy))).2 (hm y (by simp [hy])))
    rw [List.length_erase_of_mem hx] at this
    have := List.length_pos_of_mem hx
    simp only [List.length_cons]
    omega
theorem Cs.len {M : WM} {L : Int → Bool} {ss : List Int} (h : Cs M L ss) : ss.length ≤ M.things.length := by
  have := nodup_len ss (M.things.map (·.1)) h.nd (fun x hx => by
    obtain ⟨t, ht⟩ := Option.isSome_iff_exists.1 ((h.mem x).1 hx).1
    exact List.mem_map.2 ⟨(x, t), at_mem ht, rfl⟩)
  simpa using this
theorem WM.ok.len_le {M : WM} (hM : M.ok) : (M.things.length : Int) ≤ M.last := by
  have key : ∀ (l : List (Int × Th)) (b : Int), l.Pairwise (fun x y => x.1 < y.1) → (∀ x ∈ l, b < x.1 ∧ x.1 ≤ M.last) → b ≤ M.last → (l.length : Int) + b ≤ M.last := by
    intro l
    induction l with
    | nil => intro b _ _ h; simpa using h
    | cons x l ih =>
      intro b hp hx hb
      obtain ⟨h1, h2⟩ := List.pairwise_cons.1 hp
      have hx0 := hx x (by simp)
      have := ih x.1 h2 (fun y hy => ⟨h1 y hy, (hx y (by simp [hy])).2⟩) hx0.2
      simp only [List.length_cons]
      omega
  have := key M.things 0 hM.keys (fun x hx => hM.range x hx) hM.last.1
  omega

def RefsPost (w : World) (M : WM) (e : Ending) (w' : World) : Prop :=
  ∃ g cap, e = .returned (.slice (some ⟨g, 0, none⟩) M.things.length cap) ∧ w'.ownsRow w.heap.size 28 1 (.slice (some ⟨g, 0, none⟩) M.things.length cap) M.things.length ((M.things.map (·.1)).map (Value.int .i64)) ∧ Below w.heap.size w w'

set_option maxHeartbeats 2000000 in
set_option maxRecDepth 20000 in
theorem refs_W (hW : IsW w p M F) : Calls Tryz.prog 88 #[.pointer (some ⟨p, 0, none⟩)] w (RefsPost w M) := by
  obtain ⟨pa, pc, cg, cc, mg, mc, tb, fb, fn, bl, hV⟩ := hW
  have HV := (show Hid _ from hV)
  have hlast := hV.ok.len_le
  have hl2 := hV.ok.last.2
  have hn : (M.things.length : Int) ≤ 1099511627776 := by omega
  have c2 := hV.c2
  have hlen := hV.things.len Tryz.underlying69
  obtain ⟨i0, hi, hz0, hz1, hz2⟩ := info_parts infoRef
  obtain ⟨w1, hmk, hrow, hgr⟩ := run_make_own (P := Tryz.prog) (w := w) w.heap.size 101 28 i0 (.int .i64 0) 1 Tryz.underlying101 hi hz0 hz1 .i64 .i64 M.things.length (by rw [hz2]; omega) (by unfold maxLen; omega) (Nat.le_refl _)
  have hb1 : Below w.heap.size w w1 := ⟨hgr.os, hgr.tape, hgr.output, hgr.size, fun k hk => hgr.block k hk (by simp)⟩
  have HN := (show Hid ((M.things.length : Int) ≤ 1099511627776) from hn)
  have HR : Hid (w1.ownsRow w.heap.size 28 1 (.slice (some ⟨w.heap.size, 0, none⟩) 0 M.things.length) 0 []) := hrow
  have HB1 := (show Hid (Below w.heap.size w w1) from hb1)
  have c21 := (hV.below hb1).c2
  have HT1 := (show Hid _ from (hV.below hb1).things)
  clear hV hlast hl2 hn hrow hgr hb1 hi hz0 hz1 hz2
  go_enter Tryz.func88, Tryz.ntmps88
  go_wp2_with (first | (at_range; refine range_H rfl _ 69 118 rfl Tryz.underlying69 tb _ (thf M bl) rfl HT1.out ?_; intro w3 L cnt hrg hL hb3))
  have HG3 := (show Hid (Rg w3 tb w1.heap.size (thf M bl) L cnt) from hrg)
  have HC3 := (show Hid (Cs M L []) from Cs.start HV.out.ok hL)
  have HB3 := (show Hid (Below w.heap.size w w3) from HB1.out.trans (hb3.mono HB1.out.size))
  have HR3 : Hid (w3.ownsRow w.heap.size 28 1 (.slice (some ⟨w.heap.size, 0, none⟩) 0 M.things.length) 0 []) := World.ownsRow.kept (row := none) HR.out ⟨hb3.os, hb3.tape, hb3.output, hb3.size, fun k hk _ => hb3.block k hk⟩ (Or.inr (by simp [Value.ownBlock]))
  have hr0 : w.heap.size ≤ w1.heap.size := HB1.out.size
  have Hr0 := (show Hid (w.heap.size < w1.heap.size) from by
    rcases HR.out.2 with ⟨h, -⟩ | ⟨g, cap, cur, h1, h2, h3, -⟩
    · cases h
    · cases h1
      exact blk_lt h3)
  clear hrg hL hb3 c21 HT1 HR hmk hlen c2 hr0
  generalize w1.heap.size = r0 at *
  simp only [Go.Act.put, List.setIfInBounds_toArray, List.set_cons_succ, List.set_cons_zero]
  go_loopw [3] (fun v wr => ∃ L cnt ss, Hid (Rg wr tb r0 (thf M bl) L cnt) ∧ Hid (Cs M L ss) ∧ Hid (Below w.heap.size w wr) ∧ Hid (∃ g cap, v = .slice (some ⟨g, 0, none⟩) ss.length cap) ∧ Hid (wr.ownsRow w.heap.size 28 1 v ss.length (ss.map (Value.int .i64)))) (fun _ wr => wr.rangeLeft tb r0)
  case atStart => exact ⟨L, cnt, [], HG3, HC3, HB3, ⟨_, _, rfl⟩, HR3⟩
  case round =>
    clear HG3 HC3 HB3 HR3
    obtain ⟨L, cnt, ss, HG, HC, HB, HS, HR⟩ := hrel
    obtain ⟨g, cap, rfl⟩ := HS.out
    go_wp2_with (first | (at_next; refine next_H rfl _ rfl tb r0 (thf M bl) L cnt rfl HG.out ?_ ?_))
    · intro hdone
      obtain ⟨hsrt, hlen⟩ := HC.out.done HV.out.ok hdone
      rcases HR.out.2 with ⟨h, -⟩ | ⟨g', cap', cur, hv, hbase, hb, h1, h2, h3, h4⟩
      · cases h
      cases hv
      have hsz : ss.length < 4611686018427387904 := by have := HN.out; omega
      have hH := holds_of_blockI hb (by simpa using h4)
      have hs := AnyM.slices_Sort_int Tryz.sortLay g 0 cap ss wr hH (blk_lt hb) hsz
      have hs2 : Calls Tryz.prog 129 #[.slice (some ⟨g, 0, none⟩) ss.length cap] wr (fun e w' => e = .returned (.tuple #[]) ∧ Hid (RefsPost w M (.returned (.slice (some ⟨g, 0, none⟩) ss.length cap)) w')) := by
        refine Calls.mono hs ?_
        rintro e w' ⟨rfl, n, os, rfl⟩
        refine ⟨rfl, g, cap, by rw [hlen], ?_, ?_⟩
        · have := ownsRow_sortedI (n := n) (os := os) (ts := ss.mergeSort fun x y => decide (x ≤ y)) (by simp) hbase hb h1 h2 h3
          rw [← hlen, ← hsrt]
          exact this
        · exact HB.out.grown (grownBy_sortedI _) HB.out.size (fun j hj => by cases hj; exact hbase)
      have HS2 := (show Hid _ from hs2)
      clear hsrt hlen hb h1 h2 h3 h4 hH hs hs2 hsz hbase HR HG
      go_wp2_with fail
      refine Calls.mono HS2.out ?_
      rintro e w' ⟨rfl, HP⟩
      go_wp2_with fail
      go_ret
      exact HP.out
    · intro x v w4 cnt' hx hLx hf hrg' hlt hk hsz hen
      obtain ⟨t, ht, rfl⟩ := thf_some hf
      have HC4 := (show Hid (Cs M (fun z => L z && !decide (z = x)) (ss ++ [x])) from HC.out.step ht hLx)
      have hgr4 : wr.grownBy w4 (some r0) := ⟨hk.os, hk.tape, hk.output, hk.size, fun b hb hne => hk.block b hb (fun e => hne (by rw [e]))⟩
      have hgr0 : g < wr.heap.size ∧ w.heap.size ≤ g ∧ g ≠ r0 := by
        obtain ⟨D, n, left, hrr, -⟩ := HG.out
        have h1 := row_ne_iter HR.out hrr
        have h2 := HR.out.lt g rfl
        exact ⟨h2.2, h2.1, fun e => h1 (by rw [e]; rfl)⟩
      have HR4 : Hid (w4.ownsRow w.heap.size 28 1 (.slice (some ⟨g, 0, none⟩) ss.length cap) ss.length (ss.map (Value.int .i64))) := World.ownsRow.kept (row := some r0) HR.out hgr4 (Or.inr (by simp [Value.ownBlock]; exact hgr0.2.2))
      have HG4 := (show Hid (Rg w4 tb r0 (thf M bl) (fun z => L z && !decide (z = x)) cnt') from hrg')
      have Hlt := (show Hid (cnt' < cnt) from hlt)
      have Hsz4 := (show Hid (w4.heap.size = wr.heap.size) from hsz)
      have Hcnt := (show Hid (wr.rangeLeft tb r0 = cnt) from HG.out.left_eq)
      have HB4 : Hid (Below w.heap.size w w4) := HB.out.grown hgr4 HB.out.size (fun j hj => by cases hj; exact Nat.le_of_lt Hr0.out)
      have hbase : w.heap.size ≤ w4.heap.size := HB4.out.size
      have hown := HR4.out
      have Hp : Hid ((ss.length : Int) ≤ 1099511627777) := by
        have h1 := HC.out.len
        have h2 := HN.out
        show _ ≤ _
        omega
      have Hg0 := (show Hid _ from hgr0)
      have HOwn : Hid (w4.ownsRow w.heap.size 28 1 (.slice (some ⟨g, 0, none⟩) ss.length cap) ss.length (ss.map (Value.int .i64))) := hown
      have Htb : Hid (tb < w.heap.size) := HV.out.lt _ HV.out.own.2.2.2.1
      clear hLx hf hrg' hlt hk hsz ht hgr4 hgr0 HG HR HR4 HC
      go_wp2_with (first
        | (at_builtin; refine append_ref rfl _ _ rfl w.heap.size _ ss rfl HOwn.out x rfl Hp hbase ?_; intro v' w5 hown' hg5 hb5))
      have hg5' : w4.grownBy w5 (some g) := hg5
      have hsz4 : wr.heap.size ≤ w4.heap.size := by have := HG4.out.lt; have := Hsz4.out; omega
      have hRg5 : Rg w5 tb r0 (thf M bl) (fun z => L z && !decide (z = x)) cnt' := HG4.out.of_blocks (hg5'.block tb HG4.out.ltb (fun e => by cases e; have := Htb.out; have := Hg0.out.2.1; omega)) (hg5'.block r0 HG4.out.lt (fun e => by cases e; exact Hg0.out.2.2 rfl))
      have HRg5 := (show Hid (Rg w5 tb r0 (thf M bl) (fun z => L z && !decide (z = x)) cnt') from hRg5)
      have HB5 := (show Hid (Below w.heap.size w w5) from HB4.out.trans hb5)
      have HO5 : Hid (w5.ownsRow w.heap.size 28 1 v' (ss ++ [x]).length ((ss ++ [x]).map (Value.int .i64))) := hown'
      have HS5 : Hid (∃ g cap, v' = .slice (some ⟨g, 0, none⟩) (ss ++ [x]).length cap) := by
        obtain ⟨g5, cap5, h5⟩ := ownsRow_succ (k := ss.length) (by simpa using hown')
        exact ⟨g5, cap5, by rw [h5]; simp⟩
      refine ⟨⟨_, cnt', ss ++ [x], HRg5, HC4, HB5, HS5, HO5⟩, ?_⟩
      rw [Hcnt.out, HRg5.out.left_eq]
      exact Hlt.out
end Go.Proofs.YthebeomenjfdlaaGreat
/- Things: the iterator over all things of a world, by its contract: for every loop body that keeps the cells that are not its own. -/
namespace Go.Proofs.YthebeomenjfdlaaGreat
open Go.RowKit Go.Shelf Go.ChangeMaps Go.MapKept
attribute [local go_sem] Oper.semAt_some

/-- What a round keeps: all cells that are not the body's own; what is its own was so, or is new. -/
structure KpO (own : World → Nat → Prop) (W W' : World) : Prop where
  size : W.heap.size ≤ W'.heap.size
  cells : ∀ b cs e fr, W.heap[b]? = some (.cells cs e fr) → ¬ own W b → W'.heap[b]? = some (.cells cs e fr)
  own' : ∀ b, own W' b → own W b ∨ W.heap.size ≤ b
theorem KpO.trans {own : World → Nat → Prop} {A B C : World} (h : KpO own A B) (k : KpO own B C) : KpO own A C where
  size := Nat.le_trans h.size k.size
  cells := fun b cs e fr hb ho => k.cells b cs e fr (h.cells b cs e fr hb ho) (fun hB => by
    rcases h.own' b hB with h1 | h1
    · exact ho h1
    · have := (Array.getElem?_eq_some_iff.1 hb).1; omega)
  own' := fun b hb => by
    rcases k.own' b hb with h1 | h1
    · rcases h.own' b h1 with h2 | h2
      · exact .inl h2
      · exact .inr h2
    · have := h.size
      exact .inr (by omega)

theorem infoKind : (Tryz.prog.info? 37).map (fun i => (i.zero, i.size, i.bytes)) = some (some (.int .u8 0), 1, 1) := by kernel_rfl

theorem append_oneI {F : Fence} {nF : Nat} {P : Program} {w : World} {ops : Array Oper} {rest : List Oper} {o : Oper} {a : Act} {Q : Exit → Act → World → Prop} (hgd : o.guard = none) (s x : Operand) (t : TypeId)
    (ho : o.op = .call { callee := .builtin .append, args := #[s, x], argTypes := #[t, t] }) (base : Nat) (e : TypeId) (z : Value) (bytes : Nat) (ht : P.underlying t = some (.slice e))
    (hinfo : (P.info? e).map (fun i => (i.zero, i.size, i.bytes)) = some (some z, 1, bytes)) (hzs : z.cells.size = 1)
    (v : Value) (n : Nat) (xs : List Value) (hs : a.eval s = v) (hown : Hid (w.ownsRow base e 1 v n xs)) (y : Value) (hx : a.eval x = .slice (some ⟨w.heap.size, 0, none⟩) 1 1) (hy : y.oneCell' = true)
    (hn : Hid ((n : Int) ≤ 1099511627777)) (hb : bytes ≤ 64) (hbase : Hid (base ≤ w.heap.size))
    (h : ∀ v' w', Hid (w'.ownsRow base e 1 v' (n + 1) (xs ++ [y])) → Hid (w.grownBy w' v.ownBlock) → Hid (Below base w w') → wpListIn F nF P ops Q rest (a.put o.dst v') w') : wpListIn F nF P ops Q (o :: rest) a (w.alloc (.cells #[y] e)) := by
  obtain ⟨i, hi, hz, h1, h2⟩ := info_parts hinfo
  have hn' := hn.out
  have hb2 : (n + 1) * bytes ≤ (n + 1) * 64 := Nat.mul_le_mul_left _ hb
  refine wpListIn_append_own _ hgd s x t ho base e i z 1 bytes ht hi hz h1 h2 hzs (by decide) v n xs hs (hown.out.alloc _) ⟨w.heap.size, 0, none⟩ 1 1 [y] hx rfl (cell_one_new _ _ _) (by simp [hy]) (by unfold maxLen; omega) (by omega) (by have := hbase.out; simp; omega) ?_
  intro v' w' r1 r2 _
  have hg : w.grownBy w' v.ownBlock := (World.grownBy_alloc w _ _).trans r2
  exact h v' w' r1 hg ⟨hg.os, hg.tape, hg.output, hg.size, fun k hk => hg.block k (by have := hbase.out; omega) (fun e => by have := hown.out.lt k e.symm; omega)⟩
/-- Rows of two kinds of elements are two blocks. -/
theorem row_ne_row {w : World} {base base' n n' : Nat} {e e' : TypeId} {v v' : Value} {xs xs' : List Value} (hne : e ≠ e') (h : w.ownsRow base e 1 v n xs) (h' : w.ownsRow base' e' 1 v' n' xs') : v.ownBlock = none ∨ v.ownBlock ≠ v'.ownBlock := by
  rcases h.2 with ⟨rfl, -⟩ | ⟨g, cap, cur, rfl, -, hb, -⟩
  · exact .inl rfl
  · right
    rcases h'.2 with ⟨rfl, -⟩ | ⟨g', cap', cur', rfl, -, hb', -⟩
    · simp [Value.ownBlock]
    · simp only [Value.ownBlock, ne_eq, Option.some.injEq]
      rintro rfl
      rw [hb] at hb'
      injection hb' with hb'
      injection hb' with _ he
      exact hne he

theorem grownBy_of_below {A B : World} (h : Below A.heap.size A B) : A.grownBy B none := ⟨h.os, h.tape, h.output, h.size, fun k hk _ => h.block k hk⟩
theorem row_KpO {own : World → Nat → Prop} {A B : World} {base g n cap : Nat} {e : TypeId} {xs : List Value} (h : A.ownsRow base e 1 (.slice (some ⟨g, 0, none⟩) n cap) n xs) (hk : KpO own A B) (ho : ¬ own A g) :
    B.ownsRow base e 1 (.slice (some ⟨g, 0, none⟩) n cap) n xs := by
  refine ⟨h.1, ?_⟩
  rcases h.2 with ⟨h0, -⟩ | ⟨g', cap', cur, h0, hb, hg, rest⟩
  · cases h0
  · cases h0
    exact .inr ⟨g, cap, cur, rfl, hb, hk.cells _ _ _ _ hg ho, rest⟩
theorem measure_down {n k : Nat} (h : k < n) : n - ((k : Int) + 1).toNat < n - (k : Int).toNat := by omega

set_option maxHeartbeats 4000000 in
set_option maxRecDepth 100000 in
theorem things1_seq {w0 : World} {p : Nat} {M : WM} {Fw : Nat → Prop} {Bx n : Nat} (hW0 : IsW w0 p M Fw) (hBx : w0.cell? ⟨Bx, 0, none⟩ = some (.pointer (some ⟨p, 0, none⟩))) (own : World → Nat → Prop)
    (hown0 : ∀ W, Below w0.heap.size w0 W → ∀ b, own W b → b < w0.heap.size)
    {β : Type} (f : β → Int × Th) (ys : List β) (hys : ys.map f = M.things) :
    SeqStopsK Fence.wide n Tryz.prog 87 #[.pointer (some ⟨Bx, 0, none⟩)] (fun y : β => #[.int .i64 (f y).1, .int .u8 (f y).2.kind]) (KpO own) (fun xs => xs = ys) (fun pre => pre <+: ys) M.things.length w0 := by
  intro l J Jx W hWb hJ hJx hY h0
  have HW0 := (show Hid (IsW w0 p M Fw) from hW0)
  have HW : Hid (IsW W p M Fw) := hW0.below hWb
  have hbx : W.cell? ⟨Bx, 0, none⟩ = some (.pointer (some ⟨p, 0, none⟩)) := (hWb.cell (p := ⟨Bx, 0, none⟩) (World.block_lt_of_cell? _ _ hBx)).trans hBx
  have HWb := (show Hid (Below w0.heap.size w0 W) from hWb)
  have HBx : Hid (∀ W', Below W.heap.size W W' → W'.cell? ⟨Bx, 0, none⟩ = some (.pointer (some ⟨p, 0, none⟩))) := fun W' hb => (hb.cell (p := ⟨Bx, 0, none⟩) (World.block_lt_of_cell? _ _ hbx)).trans hbx
  have HJ := (show Hid (AbidesFrom W.heap.size J) from hJ)
  have HY := (show Hid _ from hY)
  have H0 := (show Hid (J [] W) from h0)
  have Ho := (show Hid _ from hown0)
  have Hys := (show Hid (ys.map f = M.things ∧ ys.length = M.things.length) from ⟨hys, by rw [← hys, List.length_map]⟩)
  clear hW0 hBx hWb hJ hY h0 hown0 hys
  refine callsIn_of_wp Tryz.func87 rfl trivial ?_ rfl
  simp only [Tryz.ntmps87, List.size_toArray, List.length_cons, List.length_nil, Nat.reduceAdd, Nat.reduceSub, Array.replicate_succ, Array.replicate_zero, List.push_toArray, List.append_toArray, List.nil_append, List.cons_append]
  gi_wp2_with fail
  refine ⟨trivial, (fun h => by cases h), (callsIn_wide.2 (none_W HW.out)).mono ?_⟩
  rintro e _ ⟨rfl, rfl⟩
  gi_wp2_with fail
  refine ⟨trivial, (fun h => by cases h), (callsIn_wide.2 (refs_W HW.out)).mono ?_⟩
  rintro e w1 ⟨g, cap, rfl, hrow, hb1⟩
  have HR1 : Hid (w1.ownsRow W.heap.size 28 1 (.slice (some ⟨g, 0, none⟩) M.things.length cap) M.things.length ((M.things.map (·.1)).map (Value.int .i64))) := hrow
  have HB1 := (show Hid (Below W.heap.size W w1) from hb1)
  clear hrow hb1
  have hlen := HW.out.ok.len_le
  have hlast := HW.out.ok.last.2
  have HN : Hid ((M.things.length : Int) ≤ 1099511627776) := by show _ ≤ _; omega
  have hg1 := HR1.out.lt g rfl
  have HG1 := (show Hid (W.heap.size ≤ g ∧ g < w1.heap.size) from hg1)
  clear hlen hlast hg1
  gi_wp2_with fail
  gi_loopw [3, 4, 14] (fun v3 v4 vi wr => ∃ k : Nat, vi = .int .i64 k ∧ k ≤ M.things.length ∧ Hid (wr.ownsRow w1.heap.size 28 1 v3 k ((M.things.take k).map fun x => Value.int .i64 x.1)) ∧ Hid (wr.ownsRow w1.heap.size 37 1 v4 k ((M.things.take k).map fun x => Value.int .u8 x.2.kind)) ∧
      Hid (wr.ownsRow W.heap.size 28 1 (.slice (some ⟨g, 0, none⟩) M.things.length cap) M.things.length ((M.things.map (·.1)).map (Value.int .i64))) ∧ Hid (Below W.heap.size W wr) ∧ Hid (w1.heap.size ≤ wr.heap.size)) (fun _ _ vi _ => M.things.length - (intOf vi).toNat)
  case atStart => exact ⟨0, rfl, Nat.zero_le _, World.ownsRow_nil _ _ _ _, World.ownsRow_nil _ _ _ _, HR1.out, HB1.out, Nat.le_refl _⟩
  case round =>
    obtain ⟨k, rfl, hk, H3, H4, HR, HB, HS⟩ := hrel
    by_cases hkm : k < M.things.length
    · have hkz : (k : Int) < (M.things.length : Int) := by omega
      obtain ⟨x, hx⟩ : ∃ x, M.things[k]? = some x := ⟨_, List.getElem?_eq_getElem hkm⟩
      have hat : M.at x.1 = some x.2 := HW.out.ok.at_of_mem (List.mem_of_getElem? hx)
      have Hat := (show Hid (M.at x.1 = some x.2) from hat)
      have Htk : Hid (M.things.take (k + 1) = M.things.take k ++ [x]) := by show _ = _; rw [List.take_add_one, hx]; rfl
      have hcx : wr.cell? ⟨g, k, none⟩ = some (.int .i64 x.1) := by
        have := HR.out.cellAt k (by omega)
        rw [this]
        simp [hx]
      have Hk1 : Hid ((k : Int) ≤ 1099511627777) := by have := HN.out; show _ ≤ _; omega
      have hwx := HW.out.ok.at_wf hat
      have Hwx := (show Hid _ from hwx)
      clear hx hat hwx
      have hwk : wrap64 ((k : Int) + 1) = (k : Int) + 1 := by have := HN.out; unfold wrap64; omega
      gi_wp2_with (first
        | (gi_at_builtin; refine append_oneI rfl _ _ 101 rfl w1.heap.size 28 (.int .i64 0) 8 Tryz.underlying101 infoRef rfl _ k _ rfl H3 (.int .i64 x.1) rfl rfl Hk1 (by decide) HS ?_; intro v3' w2 r1 r2 r3
           have HB2 : Hid (Below W.heap.size W w2) := HB.out.trans (r3.out.mono HB1.out.size)
           have q1 := HBx.out w2 HB2.out
           have HV2 := (show Hid (∃ pa pc cg cc mg mc tb fb fn bl, WV w2 p M Fw pa pc cg cc mg mc tb fb fn bl) from HW.out.below HB2.out)
           obtain ⟨tb, hc2, b0, hlk, hk0⟩ : ∃ tb, w2.cell? ⟨p, 2, none⟩ = some (.map (some tb)) ∧ ∃ b0, (Instr.lookup 69 (.map (some tb)) (.int .i64 x.1) false).run Tryz.prog w2 = .ok (.pointer (some ⟨b0, 0, none⟩)) w2 ∧ w2.cell? ⟨b0, 0, none⟩ = some (.int .u8 x.2.kind) := by
             obtain ⟨pa, pc, cg, cc, mg, mc, tb, fb, fn, bl, hV⟩ := HV2.out
             have hlk := hV.look Hwx.out
             rw [Hat.out] at hlk
             exact ⟨tb, hV.c2, bl x.1, hlk, (thc_cell (hV.blk _ _ Hat.out).1).1⟩
           have H4' : Hid (w2.ownsRow w1.heap.size 37 1 u4 k ((M.things.take k).map fun x => Value.int .u8 x.2.kind)) := World.ownsRow.kept H4.out r2.out (row_ne_row (by decide) H4.out H3.out)
           have HR' : Hid (w2.ownsRow W.heap.size 28 1 (.slice (some ⟨g, 0, none⟩) M.things.length cap) M.things.length ((M.things.map (·.1)).map (Value.int .i64))) := World.ownsRow.kept HR.out r2.out (.inr (fun e => by have := H3.out.lt g e.symm; have := HG1.out; omega))
           have HS2 : Hid (w1.heap.size ≤ w2.heap.size) := Nat.le_trans HS.out r3.out.size)
        | (gi_at_builtin; refine append_oneI rfl _ _ 156 rfl w1.heap.size 37 (.int .u8 0) 1 Tryz.underlying156 infoKind rfl _ k _ rfl H4' (.int .u8 x.2.kind) rfl rfl Hk1 (by decide) HS2 ?_; intro v4' w3 s1 s2 s3))
      have HB3 : Hid (Below W.heap.size W w3) := HB2.out.trans (s3.out.mono HB1.out.size)
      have H3' : Hid (w3.ownsRow w1.heap.size 28 1 v3' (k + 1) ((M.things.take (k + 1)).map fun x => Value.int .i64 x.1)) := by
        show World.ownsRow _ _ _ _ _ _ _
        rw [Htk.out, List.map_append]
        exact World.ownsRow.kept r1.out s2.out (row_ne_row (by decide) r1.out H4'.out)
      have H4'' : Hid (w3.ownsRow w1.heap.size 37 1 v4' (k + 1) ((M.things.take (k + 1)).map fun x => Value.int .u8 x.2.kind)) := by
        show World.ownsRow _ _ _ _ _ _ _
        rw [Htk.out, List.map_append]
        exact s1.out
      have HR'' : Hid (w3.ownsRow W.heap.size 28 1 (.slice (some ⟨g, 0, none⟩) M.things.length cap) M.things.length ((M.things.map (·.1)).map (Value.int .i64))) := World.ownsRow.kept HR'.out s2.out (.inr (fun e => by have := H4'.out.lt g e.symm; have := HG1.out; omega))
      have HS3 : Hid (w1.heap.size ≤ w3.heap.size) := Nat.le_trans HS2.out s3.out.size
      go_roundw
      case rel => exact ⟨k + 1, by go_num, by omega, H3', H4'', HR'', HB3, HS3⟩
      case measure => rw [hwk]; exact measure_down hkm
    · have hkz : ¬ (k : Int) < (M.things.length : Int) := by omega
      obtain rfl : k = M.things.length := by omega
      rw [List.take_length] at H3 H4
      have HB1' := HB
      rcases H3.out.2 with ⟨rfl, h30⟩ | ⟨g3, cap3, cur3, rfl, hl3, hb3, ha3⟩
      · have Hl0 : Hid (ys = []) := List.eq_nil_of_length_eq_zero (Hys.out.2.trans h30)
        have hJr : Hid (J [] wr) := HJ.out [] W wr none H0.out (grownBy_of_below HB.out) (fun r h => by cases h)
        have hkz0 : ¬ (0 : Int) < ((M.things.length : Nat) : Int) := by omega
        clear h30 hkz
        gi_wp2_with fail
        gi_loopw [37] (fun vi w2 => vi = .int .i64 0 ∧ Hid (J [] w2)) (fun _ _ => 0)
        case atStart => exact ⟨rfl, hJr⟩
        case round =>
          obtain ⟨rfl, hJs⟩ := hrel
          gi_wp2_with fail
          go_end0
          exact ⟨⟨_, rfl⟩, .inl (by first | exact ⟨ys, rfl, by rw [Hl0.out]; exact hJs⟩ | (rw [Hl0.out]; exact hJs))⟩
      · rcases H4.out.2 with ⟨rfl, h40⟩ | ⟨g4, cap4, cur4, rfl, hl4, hb4, ha4⟩
        · have Hl0 : Hid (ys = []) := List.eq_nil_of_length_eq_zero (Hys.out.2.trans h40)
          have hJr : Hid (J [] wr) := HJ.out [] W wr none H0.out (grownBy_of_below HB.out) (fun r h => by cases h)
          have hkz0 : ¬ (0 : Int) < ((M.things.length : Nat) : Int) := by omega
          clear h40 hkz hl3 hb3 ha3
          gi_wp2_with fail
          gi_loopw [37] (fun vi w2 => vi = .int .i64 0 ∧ Hid (J [] w2)) (fun _ _ => 0)
          case atStart => exact ⟨rfl, hJr⟩
          case round =>
            obtain ⟨rfl, hJs⟩ := hrel
            gi_wp2_with fail
            go_end0
            exact ⟨⟨_, rfl⟩, .inl (by first | exact ⟨ys, rfl, by rw [Hl0.out]; exact hJs⟩ | (rw [Hl0.out]; exact hJs))⟩
        · have hg3 := H3.out.lt g3 rfl
          have hg4 := H4.out.lt g4 rfl
          have HG3 := (show Hid (w1.heap.size ≤ g3 ∧ g3 < wr.heap.size) from hg3)
          have HG4 := (show Hid (w1.heap.size ≤ g4 ∧ g4 < wr.heap.size) from hg4)
          have hJr : Hid (J [] wr) := HJ.out [] W wr none H0.out (grownBy_of_below HB.out) (fun r h => by cases h)
          have Ho1 : Hid (∀ b, own wr b → b < w0.heap.size ∨ wr.heap.size ≤ b) := fun b hb => .inl (Ho.out wr (HWb.out.trans (HB.out.mono HWb.out.size)) b hb)
          clear hl3 hb3 ha3 hl4 hb4 ha4 hg3 hg4 hkz
          gi_wp2_with fail
          gi_loopw [37] (fun vi w2 => ∃ k : Nat, vi = .int .i64 k ∧ k ≤ M.things.length ∧ Hid (J (ys.take k) w2) ∧ Hid (w2.ownsRow w1.heap.size 28 1 (.slice (some ⟨g3, 0, none⟩) M.things.length cap3) M.things.length (M.things.map fun x => .int .i64 x.1)) ∧
              Hid (w2.ownsRow w1.heap.size 37 1 (.slice (some ⟨g4, 0, none⟩) M.things.length cap4) M.things.length (M.things.map fun x => .int .u8 x.2.kind)) ∧ Hid (∀ b, own w2 b → b < w0.heap.size ∨ wr.heap.size ≤ b) ∧ Hid (wr.heap.size ≤ w2.heap.size)) (fun vi _ => M.things.length - (intOf vi).toNat)
          case atStart => exact ⟨0, rfl, Nat.zero_le _, hJr, H3.out, H4.out, Ho1.out, Nat.le_refl _⟩
          case round =>
            obtain ⟨k, rfl, hk2, HJk, K3, K4, Ho2, HS2⟩ := hrel
            by_cases hkm2 : k < M.things.length
            · have hkz : (k : Int) < (M.things.length : Int) := by omega
              obtain ⟨y, hy0⟩ : ∃ y, ys[k]? = some y := ⟨_, List.getElem?_eq_getElem (by rw [Hys.out.2]; exact hkm2)⟩
              have Htk : Hid (ys.take (k + 1) = ys.take k ++ [y]) := by show _ = _; rw [List.take_add_one, hy0]; rfl
              have hx : M.things[k]? = some (f y) := by rw [← Hys.out.1, List.getElem?_map, hy0]; rfl
              have hwk : wrap64 ((k : Int) + 1) = (k : Int) + 1 := by have := HN.out; unfold wrap64; omega
              have hc3 : wr.cell? ⟨g3, k, none⟩ = some (.int .i64 (f y).1) := by
                have := K3.out.cellAt k (by omega)
                rw [this]
                simp [hx]
              have hc4 : wr.cell? ⟨g4, k, none⟩ = some (.int .u8 (f y).2.kind) := by
                have := K4.out.cellAt k (by omega)
                rw [this]
                simp [hx]
              obtain ⟨fn, tmps, assign, body, hy, hR⟩ := HY.out (ys.take k) y wr HJk.out (by rw [List.length_take, Hys.out.2]; omega)
              clear hx hy0
              gi_wp2_with fail
              refine ⟨(fun h => by cases h), hR.mono ?_⟩
              rintro e W3 (⟨rfl, hJ3, hk3⟩ | ⟨rfl, hJx3⟩)
              · gi_wp2_with fail
                go_roundw
                case rel =>
                  refine ⟨k + 1, by go_num, by omega, by show J _ _; rw [Htk.out]; exact hJ3, row_KpO K3.out hk3 ?_, row_KpO K4.out hk3 ?_, ?_, Nat.le_trans HS2.out hk3.size⟩
                  · intro hb; have := Ho2.out _ hb; have := HG3.out; have := HB1.out.size; have := HWb.out.size; omega
                  · intro hb; have := Ho2.out _ hb; have := HG4.out; have := HB1.out.size; have := HWb.out.size; omega
                  · intro b hb
                    rcases hk3.own' b hb with h | h
                    · exact Ho2.out b h
                    · have := HS2.out; exact .inr (by omega)
                case measure => rw [hwk]; exact measure_down hkm2
              · gi_wp2_with fail
                refine bodyPost_ret (results_none rfl _ _ _) rfl ?_
                exact ⟨⟨_, rfl⟩, .inr ⟨ys.take k ++ [y], by rw [← Htk.out]; exact List.take_prefix _ _, hJx3⟩⟩
            · have hkz : ¬ (k : Int) < (M.things.length : Int) := by omega
              obtain rfl : k = M.things.length := by omega
              gi_wp2_with fail
              go_end0
              exact ⟨⟨_, rfl⟩, .inl (by have := HJk.out; rw [← Hys.out.2, List.take_length] at this; first | exact this | exact ⟨ys, rfl, this⟩)⟩
end Go.Proofs.YthebeomenjfdlaaGreat
