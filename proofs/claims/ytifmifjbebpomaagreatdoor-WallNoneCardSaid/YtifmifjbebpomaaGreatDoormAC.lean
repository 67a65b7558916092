/- A part of the proof, several texts in one: WalkD, WaA, Any, Grow, Clone. -/
import Derived.Test.YtifmifjbebpomaaGreatDoormAB
import Derived.Orders
import Derived.Test.YtifmifjbebpomaaGreatDoormAA
import Derived.StillTail
import Derived.Deep.QuietTactic
import Derived.BigQuiet
/- The way of a thing, its base. -/
namespace Go.Proofs.YtifmifjbebpomaaGreatDoor
open Go.RowKit Go.ChangeMaps Go.MapKept

def wayF (M : WM) : Nat → Int → List Int
  | 0, _ => []
  | f + 1, r => match M.at r with
    | none => []
    | some t => r :: (if wrapsB t.kind = true then wayF M f t.tgt else [])
def WayIs (M : WM) (r : Int) (l : List Int) : Prop := ∃ f0, ∀ f, f0 ≤ f → wayF M f r = l

theorem WayIs.uniq {M : WM} {r : Int} {l l' : List Int} (h : WayIs M r l) (h' : WayIs M r l') : l = l' := by
  obtain ⟨f, h⟩ := h
  obtain ⟨f', h'⟩ := h'
  exact (h (f + f') (by omega)).symm.trans (h' (f + f') (by omega))
theorem WayIs.none {M : WM} {r : Int} {l : List Int} (h : WayIs M r l) (hr : M.at r = none) : l = [] := by
  obtain ⟨f, h⟩ := h
  have := h (f + 1) (by omega)
  simpa [wayF, hr] using this.symm
theorem WayIs.wrap {M : WM} {r : Int} {l : List Int} {t : Th} (h : WayIs M r l) (hr : M.at r = some t) (hk : wrapsB t.kind = true) : ∃ l', l = r :: l' ∧ WayIs M t.tgt l' := by
  obtain ⟨f, h⟩ := h
  have h1 := h (f + 1) (by omega)
  refine ⟨wayF M f t.tgt, by simpa [wayF, hr, hk] using h1.symm, f, fun g hg => ?_⟩
  have h2 := h (g + 1) (by omega)
  rw [← h1] at h2
  simpa [wayF, hr, hk] using h2
theorem WayIs.base {M : WM} {r : Int} {l : List Int} {t : Th} (h : WayIs M r l) (hr : M.at r = some t) (hk : wrapsB t.kind = false) : l = [r] := by
  obtain ⟨f, h⟩ := h
  have h1 := h (f + 1) (by omega)
  simpa [wayF, hr, hk] using h1.symm
theorem WayIs.mk_none {M : WM} {r : Int} (hr : M.at r = .none) : WayIs M r [] := ⟨1, fun f hf => by obtain ⟨g, rfl⟩ : ∃ g, f = g + 1 := ⟨f - 1, by omega⟩; simp [wayF, hr]⟩
theorem WayIs.mk_wrap {M : WM} {r : Int} {l : List Int} {t : Th} (hr : M.at r = some t) (hk : wrapsB t.kind = true) (h : WayIs M t.tgt l) : WayIs M r (r :: l) := by
  obtain ⟨f0, h⟩ := h
  exact ⟨f0 + 1, fun f hf => by obtain ⟨g, rfl⟩ : ∃ g, f = g + 1 := ⟨f - 1, by omega⟩; simp [wayF, hr, hk, h g (by omega)]⟩
theorem WayIs.mk_base {M : WM} {r : Int} {t : Th} (hr : M.at r = some t) (hk : wrapsB t.kind = false) : WayIs M r [r] :=
  ⟨1, fun f hf => by obtain ⟨g, rfl⟩ : ∃ g, f = g + 1 := ⟨f - 1, by omega⟩; simp [wayF, hr, hk]⟩

theorem way_ex {M : WM} (hok : M.ok) (r : Int) : ∃ l, WayIs M r l ∧ (l.length : Int) ≤ M.last + 1 := by
  obtain ⟨rk, hrk0, hrk⟩ := hok.wrap
  have hl := hok.last
  suffices h : ∃ l, WayIs M r l ∧ l.length ≤ rk r + 1 by
    obtain ⟨l, h1, h2⟩ := h
    have := hrk0 r
    exact ⟨l, h1, by omega⟩
  generalize hm : rk r = m
  induction m using Nat.strongRecOn generalizing r with
  | ind m ih =>
    subst hm
    cases hr : M.at r with
    | none => exact ⟨[], WayIs.mk_none hr, by simp⟩
    | some t =>
      cases hk : wrapsB t.kind with
      | true =>
        obtain ⟨l, h1, h2⟩ := ih _ (hrk r t hr hk).2 t.tgt rfl
        have := (hrk r t hr hk).2
        exact ⟨_, WayIs.mk_wrap hr hk h1, by simp; omega⟩
      | false => exact ⟨_, WayIs.mk_base hr hk, by simp⟩


set_option maxRecDepth 20000 in
theorem Way_W {w : World} {p : Nat} {M : WM} {F : Nat → Prop} (hW : IsW w p M F) {r : Int} {l : List Int} (hr : (Lit.int .i64 r).wf = true) (hl : WayIs M r l) :
    Calls Tryz.prog 57 #[.pointer (some ⟨p, 0, none⟩), .int .i64 r] w fun e w' => ∃ v, e = .returned v ∧ w'.ownsRow w.heap.size 24 1 v l.length (l.map (Value.int .i64)) ∧ Below w.heap.size w w' := by
  have Hb : Hid ((l.length : Int) ≤ 1099511627777) := by
    obtain ⟨l', h1, h2⟩ := way_ex hW.ok r
    obtain rfl := hl.uniq h1
    have := hW.ok.last
    show _ ≤ _
    omega
  obtain ⟨rk, -, hrk⟩ := hW.ok.wrap
  obtain ⟨pa, pc, cg, cc, mg, mc, tb, fb, fn, bl, hW⟩ := hW
  have HW := (show Hid (WV w p M F pa pc cg cc mg mc tb fb fn bl) from hW)
  have Hl := (show Hid (WayIs M r l) from hl)
  have Hrk := (show Hid (∀ (r : Int) (t : Th), M.at r = some t → wrapsB t.kind = true → (∃ u, M.at t.tgt = some u) ∧ rk t.tgt < rk r) from hrk)
  clear hW hl hrk
  go_enter Tryz.func57, Tryz.ntmps57
  go_wp2
  go_loopw [1, 5] (fun vr vs wr => ∃ q pre rest, vr = .int .i64 q ∧ (Lit.int .i64 q).wf = true ∧ Hid (WayIs M q rest) ∧ Hid (l = pre ++ rest) ∧ wr.ownsRow w.heap.size 24 1 vs pre.length (pre.map (Value.int .i64)) ∧ Below w.heap.size w wr) (fun vr _ _ => rk (intOf vr))
  case atStart => exact ⟨r, [], l, rfl, hr, Hl.out, rfl, World.ownsRow_nil _ _ _ _, Below.refl _ _⟩
  case round =>
    obtain ⟨q, pre, rest, rfl, hq, Hv, He, hown, hB⟩ := hrel
    have HB := (show Hid (Below w.heap.size w wr) from hB)
    have h := HW.out.below hB
    have hsz := hB.size
    have hn := Is_W ⟨_, _, _, _, _, _, _, _, _, _, h⟩ hq
    clear hB
    have c2 := h.c2
    have hl := h.look hq
    cases ha : M.at q with
    | none =>
      rw [ha] at hn
      clear hl
      go_wp2_with (go_at_call 23; refine hn.mono ?_; rintro e w' ⟨rfl, rfl⟩)
      go_ret
      have e1 : l = pre := by
        have := He.out
        rw [Hv.out.none ha] at this
        simpa using this
      exact ⟨_, rfl, by rw [e1]; exact hown, HB.out⟩
    | some t =>
      rw [ha] at hn
      clear hl c2
      have htgt := (h.ok.wf q t ha).tgt
      have Hp : Hid ((pre.length : Int) ≤ 1099511627777) := by
        show _ ≤ _
        have h1 := Hb.out
        have h2 := He.out
        cases hk : wrapsB t.kind with
        | true =>
          obtain ⟨l', e1, _⟩ := Hv.out.wrap ha hk
          rw [h2, e1] at h1
          simp at h1
          omega
        | false =>
          rw [h2, Hv.out.base ha hk] at h1
          simp at h1
          omega
      clear h
      have hwr := fun W => wraps_W t.kind W
      cases hk : wrapsB t.kind with
      | false =>
        have Hk : Hid (wrapsB t.kind = false) := hk
        rw [hk] at hwr
        clear hk
        go_wp2_with (first
          | (go_at_call 23; refine hn.mono ?_; rintro e w' ⟨rfl, rfl⟩)
          | (at_builtin; refine append_ref rfl _ _ rfl w.heap.size _ pre rfl hown q rfl Hp hsz ?_; intro v' w1 hown' _ hb1; have hB1 : Below w.heap.size w w1 := HB.out.trans hb1; have HB1 := (show Hid (Below w.heap.size w w1) from hB1); have h1 := HW.out.below hB1; have c2 := h1.c2; have hl := h1.look hq; rw [ha] at hl; simp only [Option.map_some] at hl; obtain ⟨k0, -, -, -, k6, -, -, -⟩ := thc_cell (h1.blk q t ha).1; clear h1 hB1 hb1)
          | (go_at_call 90; refine (hwr _).mono ?_; rintro e w' ⟨rfl, rfl⟩))
        go_ret
        have e1 : l = pre ++ [q] := by rw [He.out, Hv.out.base ha Hk.out]
        exact ⟨_, rfl, by rw [e1]; exact hown', HB1.out⟩
      | true =>
        have Hk : Hid (wrapsB t.kind = true) := hk
        rw [hk] at hwr
        clear hk
        go_wp2_with (first
          | (go_at_call 23; refine hn.mono ?_; rintro e w' ⟨rfl, rfl⟩)
          | (at_builtin; refine append_ref rfl _ _ rfl w.heap.size _ pre rfl hown q rfl Hp hsz ?_; intro v' w1 hown' _ hb1; have hB1 : Below w.heap.size w w1 := HB.out.trans hb1; have HB1 := (show Hid (Below w.heap.size w w1) from hB1); have h1 := HW.out.below hB1; have c2 := h1.c2; have hl := h1.look hq; rw [ha] at hl; simp only [Option.map_some] at hl; obtain ⟨k0, -, -, -, k6, -, -, -⟩ := thc_cell (h1.blk q t ha).1; clear h1 hB1 hb1)
          | (go_at_call 90; refine (hwr _).mono ?_; rintro e w' ⟨rfl, rfl⟩))
        go_roundw
        case rel =>
          obtain ⟨l', e1, hl'⟩ := Hv.out.wrap ha Hk.out
          refine ⟨t.tgt, pre ++ [q], l', rfl, htgt, hl', ?_, hown', HB1.out⟩
          show _ = _
          rw [He.out, e1]
          simp
        case measure => exact (Hrk.out q t ha Hk.out).2

theorem Base_W {w : World} {p : Nat} {M : WM} {F : Nat → Prop} (hW : IsW w p M F) {r : Int} {l : List Int} (hr : (Lit.int .i64 r).wf = true) (hl : WayIs M r l) :
    Calls Tryz.prog 30 #[.pointer (some ⟨p, 0, none⟩), .int .i64 r] w fun e w' => e = .returned (.int .i64 (l.getLast?.getD 0)) ∧ Below w.heap.size w w' := by
  have hn := Way_W hW hr hl
  have hlen : Hid ((l.length : Int) ≤ 1099511627777) := by
    obtain ⟨l', h1, h2⟩ := way_ex hW.ok r
    obtain rfl := hl.uniq h1
    have := hW.ok.last
    show _ ≤ _
    omega
  clear hW
  go_enter Tryz.func30, Tryz.ntmps30
  go_wp2_with fail
  refine hn.mono ?_
  rintro e w1 ⟨v, rfl, hown, hb⟩
  rcases hown.2 with ⟨rfl, h0⟩ | ⟨g, cap, cur, rfl, hbase, hg, h1, h2, h3, h4⟩
  · go_wp2_with fail
    go_ret
    have : l = [] := by simpa using h0
    subst this
    exact ⟨rfl, hb⟩
  · cases hlr : l.reverse with
    | nil =>
      have : l = [] := by simpa using hlr
      subst this
      go_wp2_with fail
      go_ret
      exact ⟨rfl, hb⟩
    | cons x l' =>
      obtain rfl : l = l'.reverse ++ [x] := by
        have := congrArg List.reverse hlr
        simpa using this
      have hc : w1.cell? ⟨g, l'.length, none⟩ = some (.int .i64 x) := by
        rw [cell_blk hg]
        have e1 : (List.map (Value.int .i64) (l'.reverse ++ [x]))[l'.length]? = some (.int .i64 x) := by simp
        rw [← h4, List.getElem?_take] at e1
        split at e1
        · simpa using e1
        · cases e1
      have hll : (l'.reverse ++ [x]).length = l'.length + 1 := by simp
      rw [hll] at hlen ⊢
      have Hx : Hid ((l'.reverse ++ [x]).getLast?.getD 0 = x) := by show _ = _; simp
      have hlen' : (l'.length : Int) ≤ 1099511627776 := by have := hlen.out; omega
      have hz : ((l'.length : Int) + 1 == 0) = false := by simp; omega
      clear hown hg h1 h2 h3 h4 hll hlr hn hbase hl
      go_wp2_with fail
      go_ret
      exact ⟨by rw [Hx.out]; rfl, hb⟩
end Go.Proofs.YtifmifjbebpomaaGreatDoor
/- Ways between sides, as plain data. -/
namespace Go.Proofs.YtifmifjbebpomaaGreatDoor
open Go.RowKit Go.ChangeMaps Go.MapKept

/-- The edges that one goes up from x (u), and from y (d), until they meet. -/
inductive PathIs (M : WM) : Nat → Nat → List Int → List Int → Prop
  | eq (x : Nat) : PathIs M x x [] []
  | up {x y q : Nat} {u d : List Int} (h : y < x) (hq : M.par (x - 1) = (q : Int)) (hp : PathIs M q y u d) : PathIs M x y ((x : Int) :: u) d
  | down {x y q : Nat} {u d : List Int} (h : x < y) (hq : M.par (y - 1) = (q : Int)) (hp : PathIs M x q u d) : PathIs M x y u ((y : Int) :: d)

theorem WM.ok.par_nat {M : WM} (h : M.ok) {x : Nat} (h0 : 0 < x) (hx : x < M.made.length) : ∃ q : Nat, M.par (x - 1) = (q : Int) ∧ q < x := by
  have h1 := h.made
  have := h.par_le (n := x - 1) (by omega)
  exact ⟨(M.par (x - 1)).toNat, by omega, by omega⟩
theorem path_ex {M : WM} (hok : M.ok) : ∀ (n x y : Nat), x + y ≤ n → x < M.made.length → y < M.made.length → ∃ u d, PathIs M x y u d ∧ u.length ≤ x ∧ d.length ≤ y := by
  intro n
  induction n with
  | zero =>
    intro x y h _ _
    obtain ⟨rfl, rfl⟩ : x = 0 ∧ y = 0 := by omega
    exact ⟨[], [], .eq 0, by simp, by simp⟩
  | succ n ih =>
    intro x y h hx hy
    rcases Nat.lt_trichotomy x y with hl | rfl | hl
    · obtain ⟨q, h1, h2⟩ := hok.par_nat (by omega) hy
      obtain ⟨u, d, h3, h4, h5⟩ := ih x q (by omega) hx (by omega)
      exact ⟨_, _, .down hl h1 h3, h4, by simp only [List.length_cons]; omega⟩
    · exact ⟨[], [], .eq x, by simp, by simp⟩
    · obtain ⟨q, h1, h2⟩ := hok.par_nat (by omega) hx
      obtain ⟨u, d, h3, h4, h5⟩ := ih q y (by omega) (by omega) hy
      exact ⟨_, _, .up hl h1 h3, by simp only [List.length_cons]; omega, h5⟩
theorem PathIs.len {M : WM} (hok : M.ok) {x y : Nat} {u d : List Int} (h : PathIs M x y u d) (hx : x < M.made.length) (hy : y < M.made.length) : u.length ≤ x ∧ d.length ≤ y := by
  induction h with
  | eq => simp
  | up h hq hp ih =>
    obtain ⟨q', h1, h2⟩ := hok.par_nat (by omega) hx
    have := ih (by omega) hy
    simp only [List.length_cons]
    omega
  | down h hq hp ih =>
    obtain ⟨q', h1, h2⟩ := hok.par_nat (by omega) hy
    have := ih hx (by omega)
    simp only [List.length_cons]
    omega
theorem PathIs.inv_eq {M : WM} {x : Nat} {u d : List Int} (h : PathIs M x x u d) : u = [] ∧ d = [] := by
  generalize hy : x = y at h
  rw [← hy] at h
  cases h with
  | eq => exact ⟨rfl, rfl⟩
  | up h => omega
  | down h => omega
theorem PathIs.inv_up {M : WM} {x y : Nat} {u d : List Int} (h : PathIs M x y u d) (hl : y < x) : ∃ q u', u = (x : Int) :: u' ∧ M.par (x - 1) = ((q : Nat) : Int) ∧ PathIs M q y u' d := by
  cases h with
  | eq => omega
  | up h hq hp => exact ⟨_, _, rfl, hq, hp⟩
  | down h => omega
theorem PathIs.inv_down {M : WM} {x y : Nat} {u d : List Int} (h : PathIs M x y u d) (hl : x < y) : ∃ q d', d = (y : Int) :: d' ∧ M.par (y - 1) = ((q : Nat) : Int) ∧ PathIs M x q u d' := by
  cases h with
  | eq => omega
  | up h => omega
  | down h hq hp => exact ⟨_, _, rfl, hq, hp⟩
/-- The parents, as wall.parents tells them. -/
def WM.parC (M : WM) (s : Nat) : Int := if s = 0 then -1 else if s < M.made.length then M.par (s - 1) else 0
def WM.parsA (M : WM) (k : Nat) : List Int := (List.range 16).map fun s => if s = 0 then -1 else if s < k then M.par (s - 1) else 0

/-- A hop. -/
structure Hop where
  edge : Int
  thing : Int
  free : Bool
def Hop.cs (h : Hop) : List Value := [.int .i64 h.edge, .int .i64 h.thing, .bool h.free]
/-- Is a thing's own hop open? -/
def WM.gateB (M : WM) (t : Th) : Bool := if t.kind = 15 then !((M.at t.bi).elim false (·.full)) else true
def edgeH (M : WM) (n : Int) : Hop := ⟨n, 0, !(edgeB M n && M.cutAt n.toNat)⟩
/-- The hops from a side over the things of a way. -/
inductive HopsIs (M : WM) : Int → List Int → List Hop → Prop
  | nil (a : Int) : HopsIs M a [] []
  | facet {a r : Int} {l : List Int} {ys : List Hop} {t : Th} (h : M.at r = some t) (hk : t.kind = 14) (hl : HopsIs M a l ys) : HopsIs M a (r :: l) (⟨0, r, true⟩ :: ys)
  | thing {a r : Int} {l : List Int} {ys : List Hop} {t : Th} {u d : List Int} (h : M.at r = some t) (hk : t.kind ≠ 14) (hp : PathIs M a.toNat t.home.toNat u d) (hl : HopsIs M t.home l ys) :
      HopsIs M a (r :: l) ((u ++ d.reverse).map (edgeH M) ++ ⟨0, r, M.gateB t⟩ :: ys)
end Go.Proofs.YtifmifjbebpomaaGreatDoor
/- A region that draws its order, by what stays true of it: whatever comes up keeps it. -/
namespace Go.Proofs.YtifmifjbebpomaaGreatDoor
open Go.RowKit

theorem count_set_true {l : List Bool} {i : Nat} (hi : i < l.length) (h : l[i] = false) : (l.set i true).count false + 1 = l.count false := by
  induction l generalizing i with
  | nil => simp at hi
  | cons x l ih =>
    cases i with
    | zero =>
      simp only [List.getElem_cons_zero] at h
      subst h
      simp
    | succ i =>
      have := ih (i := i) (by simpa using hi) (by simpa using h)
      cases x <;> simp <;> omega

section
variable {P : Program} {ops : Array Oper} {Q : Exit → Act → World → Prop}

theorem ready_of_none (L : Array Bool) (hL : L.size = ops.size) (hord : ∀ (i : Nat) (o : Oper), ops[i]? = some o → ∀ e ∈ o.after, e.on < i)
    (hr : Region.ready .any ops L = []) : ∀ i, i < ops.size → L.getD i true = true := by
  intro i
  induction i using Nat.strongRecOn with
  | ind i ih =>
    intro hi
    cases hLi : L.getD i true with
    | true => rfl
    | false =>
      exfalso
      have : i ∈ Region.ready .any ops L := by
        unfold Region.ready
        rw [List.mem_filter]
        refine ⟨List.mem_range.2 hi, ?_⟩
        rw [hLi, Array.getElem?_eq_getElem hi]
        simp only [Bool.not_false, Bool.true_and, Option.map_some, Option.getD_some]
        rw [Array.all_eq_true_iff_forall_mem]
        intro e he
        have h1 := hord i _ (Array.getElem?_eq_getElem hi) e he
        have h2 := ih e.on h1 (by omega)
        have h3 : L.getD e.on false = true := by
          have : e.on < L.size := by omega
          simpa [Array.getD, this] using h2
        simp [h3]
      rw [hr] at this
      cases this

theorem wpAny_inv (Inv : Array Bool → Act → World → Prop) (hord : ∀ (i : Nat) (o : Oper), ops[i]? = some o → ∀ e ∈ o.after, e.on < i)
    (step : ∀ L a w i o, Inv L a w → ops[i]? = some o → L.getD i true = false → (∀ e ∈ o.after, Region.binds .any e = true → L.getD e.on false = true) →
      if Region.wanted o (yielded ops a.tmps) then o.wp P a w (Inv (L.setIfInBounds i true)) Q else Inv (L.setIfInBounds i true) (a.put o.dst undef) w)
    (done : ∀ L a w, Inv L a w → (∀ i, i < ops.size → L.getD i true = true) → Q .normal a w) :
    ∀ (fuel : Nat) (L : Array Bool) (a : Act) (w : World), L.size = ops.size → L.toList.count false ≤ fuel → Inv L a w → wpAny P .any ops Q fuel L a w
  | 0, L, a, w, hL, hc, hI => by
    have hall : ∀ i, i < ops.size → L.getD i true = true := by
      intro i hi
      have h0 : L.toList.count false = 0 := by omega
      rw [List.count_eq_zero] at h0
      cases h : L.getD i true with
      | true => rfl
      | false =>
        exfalso
        apply h0
        have hi' : i < L.size := by omega
        have : L[i] = false := by simpa [Array.getD, hi'] using h
        rw [← this]
        simp
    refine ⟨?_, done L a w hI hall⟩
    unfold Region.ready
    rw [List.filter_eq_nil_iff]
    intro i hi
    rw [hall i (List.mem_range.1 hi)]
    simp
  | fuel + 1, L, a, w, hL, hc, hI => by
    refine ⟨fun h => done L a w hI (ready_of_none L hL hord h), fun i hi => ?_⟩
    unfold Region.ready at hi
    rw [List.mem_filter] at hi
    obtain ⟨h1, h2⟩ := hi
    have h1 := List.mem_range.1 h1
    rw [Bool.and_eq_true, Array.getElem?_eq_getElem h1, Option.map_some, Option.getD_some, Array.all_eq_true_iff_forall_mem] at h2
    obtain ⟨h3, h4⟩ := h2
    have h3 : L.getD i true = false := by simpa using h3
    have hs := step L a w i _ hI (Array.getElem?_eq_getElem h1) h3 (fun e he hb => by
      have := h4 e he
      simpa [hb] using this)
    have hi' : i < L.size := by omega
    have hLi : L.toList[i]'(by simpa using hi') = false := by
      have : L[i] = false := by simpa [Array.getD, hi'] using h3
      simpa using this
    have hcnt := count_set_true (l := L.toList) (by simpa using hi') hLi
    have next : ∀ a w, Inv (L.setIfInBounds i true) a w → wpAny P .any ops Q fuel (L.setIfInBounds i true) a w := fun a w h =>
      wpAny_inv Inv hord step done fuel _ a w (by simpa using hL) (by rw [Array.toList_setIfInBounds]; omega) h
    unfold wpOp
    rw [Array.getElem?_eq_getElem h1]
    simp only
    split at hs
    · rename_i hw
      rw [if_pos hw]
      exact .inl (Oper.wp_mono next hs)
    · rename_i hw
      rw [if_neg hw]
      exact next _ _ hs

/-- The whole region. -/
theorem wp_region_inv {id : Nat} {a : Act} {w : World} (hm : P.follows .mixedOrders = true) (Inv : Array Bool → Act → World → Prop) (hord : ∀ (i : Nat) (o : Oper), ops[i]? = some o → ∀ e ∈ o.after, e.on < i)
    (h0 : Inv (Array.replicate ops.size false) a w.drew)
    (step : ∀ L a w i o, Inv L a w → ops[i]? = some o → L.getD i true = false → (∀ e ∈ o.after, Region.binds .any e = true → L.getD e.on false = true) →
      if Region.wanted o (yielded ops a.tmps) then o.wp P a w (Inv (L.setIfInBounds i true)) Q else Inv (L.setIfInBounds i true) (a.put o.dst undef) w)
    (done : ∀ L a w, Inv L a w → (∀ i, i < ops.size → L.getD i true = true) → Q .normal a w) : (Code.region id ops true).wp P Q a w :=
  wp_region_any hm (wpAny_inv Inv hord step done ops.size _ a _ (by simp) (by simp) h0)
end
end Go.Proofs.YtifmifjbebpomaaGreatDoor
/- A region that draws its order, whose operations make memory: what is known of each operation's value stays known as the memory grows. -/
namespace Go.Proofs.YtifmifjbebpomaaGreatDoor
open Go.RowKit

/-- The value that an operation has left. -/
def valOf (o : Oper) (a : Act) : Value := match o.dst with | some d => a.tmps.getD d undef | none => undef
/-- The block that a value names. -/
def blkOf : Value → Option Nat
  | .map b => b
  | .slice (some a) _ _ => some a.block
  | .pointer (some a) => some a.block
  | _ => none
/-- What an operation is given: what is known of those that it waits for; the slots that the region does not write. -/
structure Given (l : List Oper) (Φ : Nat → Value → World → Prop) (cre : Nat → Bool) (a0 : Act) (o : Oper) (a : Act) (w : World) : Prop where
  dep : ∀ e ∈ o.after, Region.binds .any e = true → ∀ oj, l[e.on]? = some oj → Φ e.on (valOf oj a) w
  fr : ∀ t, (∀ oj ∈ l, oj.dst ≠ some t) → a.tmps.getD t undef = a0.tmps.getD t undef
  sz : a.tmps.size = a0.tmps.size
  ne : ∀ e ∈ o.after, ∀ f ∈ o.after, Region.binds .any e = true → Region.binds .any f = true → e.on ≠ f.on → ∀ oi oj, l[e.on]? = some oi → l[f.on]? = some oj → cre e.on = true → cre f.on = true → blkOf (valOf oi a) ≠ blkOf (valOf oj a)
/-- The region's form. -/
def growB (l : List Oper) (n : Nat) : Bool :=
  (l.zipIdx.all fun x => x.1.guard.isNone && (x.1.after.all fun e => decide (e.on < x.2)) && (match x.1.dst with | some d => decide (d < n) | none => true)) &&
  (l.zipIdx.all fun x => l.zipIdx.all fun y => decide (x.2 = y.2) || x.1.dst.isNone || decide (x.1.dst ≠ y.1.dst))

structure GInv (l : List Oper) (R : World → World → Prop) (Φ : Nat → Value → World → Prop) (cre : Nat → Bool) (C : World → Prop) (a0 : Act) (L : Array Bool) (a : Act) (w : World) : Prop where
  lsz : L.size = l.length
  c : C w
  sz : a.tmps.size = a0.tmps.size
  df : a.defers = a0.defers
  fr : ∀ t, (∀ oj ∈ l, oj.dst ≠ some t) → a.tmps.getD t undef = a0.tmps.getD t undef
  phi : ∀ (i : Nat) (o : Oper), l[i]? = some o → L.getD i false = true → Φ i (valOf o a) w
  blk : ∀ (i : Nat) (o : Oper), l[i]? = some o → L.getD i false = true → cre i = true → ∃ b, blkOf (valOf o a) = some b ∧ b < w.heap.size
  ne : ∀ (i j : Nat) (oi oj : Oper), i ≠ j → l[i]? = some oi → l[j]? = some oj → L.getD i false = true → L.getD j false = true → cre i = true → cre j = true → blkOf (valOf oi a) ≠ blkOf (valOf oj a)

theorem put_getD (a : Act) (d : Nat) (v : Value) (t : Nat) (h : t ≠ d) : (a.put (some d) v).tmps.getD t undef = a.tmps.getD t undef := by
  have : ¬ d = t := fun e => h e.symm
  simp only [Act.put, Array.getD_eq_getD_getElem?, Array.getElem?_setIfInBounds, if_neg this]
theorem put_getD_same (a : Act) (d : Nat) (v : Value) (h : d < a.tmps.size) : (a.put (some d) v).tmps.getD d undef = v := by
  simp [Act.put, Array.getD_eq_getD_getElem?, h]

theorem wp_region_grow {P : Program} {Q : Exit → Act → World → Prop} {id : Nat} {l : List Oper} {a0 : Act} {w0 : World} (hm : P.follows .mixedOrders = true) (hB : growB l a0.tmps.size = true)
    (R : World → World → Prop) (Φ : Nat → Value → World → Prop) (cre : Nat → Bool) (C : World → Prop)
    (hΦ : ∀ j v w w', R w w' → Φ j v w → Φ j v w') (hRs : ∀ w w', R w w' → w.heap.size ≤ w'.heap.size) (hC0 : C w0.drew) (hC : ∀ w w', C w → R w w' → C w')
    (step : ∀ (i : Nat) (o : Oper) (a : Act) (w : World), l[i]? = some o → C w → Given l Φ cre a0 o a w →
      o.wp P a w (fun a' w' => ∃ v, a' = a.put o.dst v ∧ R w w' ∧ Φ i (o.dst.elim undef fun _ => v) w' ∧ (cre i = true → o.dst.isSome = true ∧ ∃ b, blkOf v = some b ∧ w.heap.size ≤ b ∧ b < w'.heap.size)) Q)
    (done : ∀ a w, C w → a.defers = a0.defers → a.tmps.size = a0.tmps.size → (∀ t, (∀ oj ∈ l, oj.dst ≠ some t) → a.tmps.getD t undef = a0.tmps.getD t undef) → (∀ (i : Nat) (o : Oper), l[i]? = some o → Φ i (valOf o a) w) →
      (∀ (i j : Nat) (oi oj : Oper), i ≠ j → l[i]? = some oi → l[j]? = some oj → cre i = true → cre j = true → blkOf (valOf oi a) ≠ blkOf (valOf oj a)) → Q .normal a w) :
    (Code.region id l.toArray true).wp P Q a0 w0 := by
  simp only [growB, Bool.and_eq_true] at hB
  obtain ⟨hB1, hB2⟩ := hB
  have at1 : ∀ (i : Nat) (o : Oper), l[i]? = some o → o.guard = none ∧ (∀ e ∈ o.after, e.on < i) ∧ ∀ d, o.dst = some d → d < a0.tmps.size := fun i o ho => by
    have := List.all_eq_true.1 hB1 (o, i) (List.mem_zipIdx_iff_getElem?.2 ho)
    simp only [Bool.and_eq_true, Option.isNone_iff_eq_none, Array.all_eq_true_iff_forall_mem, decide_eq_true_eq] at this
    obtain ⟨⟨h1, h2⟩, h3⟩ := this
    exact ⟨h1, h2, fun d hd => by rw [hd] at h3; simpa using h3⟩
  have at2 : ∀ (i j : Nat) (oi oj : Oper), i ≠ j → l[i]? = some oi → l[j]? = some oj → ∀ d, oi.dst = some d → oj.dst ≠ some d := fun i j oi oj hne hi hj d hd => by
    have h1 := List.all_eq_true.1 hB2 (oi, i) (List.mem_zipIdx_iff_getElem?.2 hi)
    have h2 := List.all_eq_true.1 h1 (oj, j) (List.mem_zipIdx_iff_getElem?.2 hj)
    simp only [Bool.or_eq_true, decide_eq_true_eq, Option.isNone_iff_eq_none] at h2
    rcases h2 with (h2 | h2) | h2
    · exact absurd h2 hne
    · rw [hd] at h2; cases h2
    · rw [hd] at h2; exact fun e => h2 e.symm
  refine wp_region_inv hm (GInv l R Φ cre C a0) (fun i o ho => (at1 i o (by simpa using ho)).2.1) ?_ ?_ ?_
  · exact {
      lsz := by simp
      c := hC0
      sz := rfl
      df := rfl
      fr := fun t _ => rfl
      phi := fun i o _ h => by rw [getD_replicate_false] at h; cases h
      blk := fun i o _ h => by rw [getD_replicate_false] at h; cases h
      ne := fun i j oi oj _ _ _ h => by rw [getD_replicate_false] at h; cases h }
  · intro L a w i o hI ho hL hdep
    have ho' : l[i]? = some o := by simpa using ho
    obtain ⟨hg, -, hd⟩ := at1 i o ho'
    have hwant : Region.wanted o (yielded l.toArray a.tmps) = true := by simp [Region.wanted, hg]
    rw [if_pos hwant]
    have hil : i < L.size := by rw [hI.lsz]; exact (List.getElem?_eq_some_iff.1 ho').1
    refine Oper.wp_mono ?_ (step i o a w ho' hI.c ⟨fun e he hb oj hj => hI.phi _ _ hj (hdep e he hb), hI.fr, hI.sz, fun e he f hf hbe hbf hne oi oj hi hj hci hcj => hI.ne _ _ _ _ hne hi hj (hdep e he hbe) (hdep f hf hbf) hci hcj⟩)
    rintro a' w' ⟨v, rfl, hR, hv, hcr⟩
    have vother : ∀ (j : Nat) (oj : Oper), j ≠ i → l[j]? = some oj → valOf oj (a.put o.dst v) = valOf oj a := fun j oj hj hoj => by
      cases hdo : o.dst with
      | none => rfl
      | some d =>
        unfold valOf
        cases hdj : oj.dst with
        | none => rfl
        | some t =>
          have := at2 i j o oj (Ne.symm hj) ho' hoj d hdo
          exact put_getD a d v t (fun e => this (by rw [hdj, e]))
    have vself : valOf o (a.put o.dst v) = o.dst.elim undef fun _ => v := by
      unfold valOf
      cases hdo : o.dst with
      | none => rfl
      | some d => exact put_getD_same a d v (by rw [hI.sz]; exact hd d hdo)
    have lold : ∀ j, j ≠ i → (L.setIfInBounds i true).getD j false = true → L.getD j false = true := fun j hj h => by
      rwa [getD_set_ne false (Ne.symm hj)] at h
    exact {
      lsz := by simpa using hI.lsz
      c := hC _ _ hI.c hR
      sz := by
        rw [← hI.sz]
        cases o.dst with
        | none => rfl
        | some d => simp [Act.put]
      df := by
        rw [← hI.df]
        cases o.dst <;> rfl
      fr := fun t ht => by
        rw [← hI.fr t ht]
        cases hdo : o.dst with
        | none => rfl
        | some d => exact put_getD a d v t (fun e => ht o (List.mem_of_getElem? ho') (by rw [hdo, e]))
      phi := fun j oj hj hl => by
        by_cases e : j = i
        · subst e
          rw [ho'] at hj
          cases hj
          rw [vself]
          exact hv
        · rw [vother j oj e hj]
          exact hΦ _ _ _ _ hR (hI.phi j oj hj (lold j e hl))
      blk := fun j oj hj hl hc => by
        by_cases e : j = i
        · subst e
          rw [ho'] at hj
          cases hj
          obtain ⟨h1, b, h2, h3, h4⟩ := hcr hc
          rw [vself]
          obtain ⟨d, hd'⟩ := Option.isSome_iff_exists.1 h1
          rw [hd']
          exact ⟨b, h2, h4⟩
        · rw [vother j oj e hj]
          obtain ⟨b, h2, h3⟩ := hI.blk j oj hj (lold j e hl) hc
          exact ⟨b, h2, Nat.lt_of_lt_of_le h3 (hRs _ _ hR)⟩
      ne := fun j k oj ok hne hj hk hlj hlk hcj hck => by
        have key : ∀ (j : Nat) (oj : Oper), j ≠ i → l[j]? = some oj → L.getD j false = true → cre j = true → cre i = true → blkOf (valOf oj a) ≠ blkOf (valOf o (a.put o.dst v)) := fun j oj hj hoj hlj hcj hci => by
          obtain ⟨b, h2, h3⟩ := hI.blk j oj hoj hlj hcj
          obtain ⟨h1, b', h2', h3', h4'⟩ := hcr hci
          obtain ⟨d, hd'⟩ := Option.isSome_iff_exists.1 h1
          rw [vself, hd', h2]
          show some b ≠ blkOf v
          rw [h2']
          simp
          omega
        by_cases e : j = i
        · subst e
          rw [ho'] at hj
          cases hj
          rw [vother k ok (Ne.symm hne) hk]
          exact (key k ok (Ne.symm hne) hk (lold k (Ne.symm hne) hlk) hck hcj).symm
        · by_cases e' : k = i
          · subst e'
            rw [ho'] at hk
            cases hk
            rw [vother j oj e hj]
            exact key j oj e hj (lold j e hlj) hcj hck
          · rw [vother j oj e hj, vother k ok e' hk]
            exact hI.ne j k oj ok hne hj hk (lold j e hlj) (lold k e' hlk) hcj hck }
  · intro L a w hI hall
    have hl : ∀ (i : Nat) (o : Oper), l[i]? = some o → L.getD i false = true := fun i o ho => by
      have hi := (List.getElem?_eq_some_iff.1 ho).1
      have h1 := hall i (by simpa using hi)
      have : i < L.size := by rw [hI.lsz]; exact hi
      simpa [Array.getD, this] using h1
    exact done a w hI.c hI.df hI.sz hI.fr (fun i o ho => hI.phi i o ho (hl i o ho)) (fun i j oi oj hne hi hj => hI.ne i j oi oj hne hi hj (hl i oi hi) (hl j oj hj))
end Go.Proofs.YtifmifjbebpomaaGreatDoor
/- slices.Clone of sides; a region of any order, by what stays true. -/
namespace Go.Proofs.YtifmifjbebpomaaGreatDoor
open Go.RowKit Go.ChangeMaps Go.MapKept

/-- The sides that a slice holds. -/
def SideS (w : World) (v : Value) (xs : List Int) : Prop :=
  (∃ n c, v = .slice none n c ∧ xs = []) ∨ ∃ b off c, v = .slice (some ⟨b, off, none⟩) xs.length c ∧ ∀ (j : Nat) (x : Int), xs[j]? = some x → w.cell? ⟨b, off + j, none⟩ = some (.int .i64 x)

set_option maxRecDepth 8000 in
theorem cloneSide_nil (w : World) (n c : Nat) : Calls Tryz.prog 45 #[.slice none n c] w fun e w' => e = .returned (.slice none 0 0) ∧ w = w' := by
  go_enter Tryz.func45, Tryz.ntmps45
  go_wp2
  go_ret
  exact ⟨rfl, rfl⟩

theorem infoSide : (Tryz.prog.info? 23).map (fun i => (i.zero, i.size, i.bytes)) = some (some (.int .i64 0), 1, 8) := by kernel_rfl
theorem append_sides {w : World} {ops : Array Oper} {rest : List Oper} {o : Oper} {a : Act} {Q : Exit → Act → World → Prop} (hgd : o.guard = none) (s x : Operand)
    (ho : o.op = .call { callee := .builtin .append, args := #[s, x], argTypes := #[32, 32] }) (A : Addr) (c n : Nat) (xs : List Int) (hs : a.eval s = .slice (some ⟨w.heap.size, 0, none⟩) 0 0) (hn : n = xs.length)
    (hx : a.eval x = .slice (some A) n c) (hc : Hid (∀ (j : Nat) (x : Int), xs[j]? = some x → w.cell? (A.add j) = some (.int .i64 x))) (hn : Hid (xs.length < 16))
    (h : ∀ v' w', w'.ownsRow w.heap.size 23 1 v' xs.length (xs.map (Value.int .i64)) → Below w.heap.size w w' → wpList Tryz.prog ops Q rest (a.put o.dst v') w') : wpList Tryz.prog ops Q (o :: rest) a (w.alloc (.cells #[] 23)) := by
  obtain ⟨i, hi, hz, h1, h2⟩ := info_parts infoSide
  have hn := hn.out
  refine wpList_append_own _ hgd s x 32 ho w.heap.size 23 i (.int .i64 0) 1 8 Tryz.underlying32 hi hz h1 h2 rfl (by decide) (.slice (some ⟨w.heap.size, 0, none⟩) 0 0) 0 [] hs
    ⟨by simp, .inr ⟨w.heap.size, 0, #[], rfl, Nat.le_refl _, blk_new _ _, by omega, by unfold maxLen; omega, by simp, by simp⟩⟩ A n c (xs.map (Value.int .i64)) hx (by simp; omega)
    (fun j u hu => ?_) (fun u hu => ?_) (by unfold maxLen; omega) (by omega) (by simp) ?_
  · rw [List.getElem?_map] at hu
    cases hj : xs[j]? with
    | none => rw [hj] at hu; cases hu
    | some y =>
      rw [hj] at hu
      cases hu
      exact cell_al (hc.out j y hj) _
  · obtain ⟨y, -, rfl⟩ := List.mem_map.1 hu
    rfl
  · intro v' w' r1 r2 _
    have hg : w.grownBy w' (Value.slice (some ⟨w.heap.size, 0, none⟩) 0 0).ownBlock := (World.grownBy_alloc w _ _).trans r2
    refine h v' w' (by simpa [*] using r1) ⟨hg.os, hg.tape, hg.output, hg.size, fun k hk => hg.block k (by omega) (fun e => ?_)⟩
    simp [Value.ownBlock] at e
    omega

set_option maxRecDepth 8000 in
theorem cloneSide_at (w : World) (A : Addr) (c : Nat) (xs : List Int) (hx : ∀ (j : Nat) (x : Int), xs[j]? = some x → w.cell? (A.add j) = some (.int .i64 x)) (hn : xs.length < 16) :
    Calls Tryz.prog 45 #[.slice (some A) xs.length c] w fun e w' => ∃ v, e = .returned v ∧ w'.ownsRow w.heap.size 23 1 v xs.length (xs.map (Value.int .i64)) ∧ Below w.heap.size w w' := by
  have Hx := (show Hid _ from hx)
  have Hn := (show Hid (xs.length < 16) from hn)
  obtain ⟨n, hnx⟩ : ∃ n, n = xs.length := ⟨_, rfl⟩
  have Hnx := (show Hid (n = xs.length) from hnx)
  rw [← hnx]
  clear hx hn hnx
  go_enter Tryz.func45, Tryz.ntmps45
  go_wp2_with (at_builtin; refine append_sides rfl _ _ rfl A c n xs rfl Hnx.out rfl Hx Hn ?_; intro v w1 hv hb1; have HV := (show Hid _ from hv); have HB1 := (show Hid (Below w.heap.size w w1) from hb1); clear hv hb1)
  go_ret
  exact ⟨v, rfl, Hnx.out ▸ HV.out, HB1.out⟩
theorem cloneSide_some (w : World) (b off c : Nat) (xs : List Int) (hx : ∀ (j : Nat) (x : Int), xs[j]? = some x → w.cell? ⟨b, off + j, none⟩ = some (.int .i64 x)) (hn : xs.length < 16) :
    Calls Tryz.prog 45 #[.slice (some ⟨b, off, none⟩) xs.length c] w fun e w' => ∃ v, e = .returned v ∧ w'.ownsRow w.heap.size 23 1 v xs.length (xs.map (Value.int .i64)) ∧ Below w.heap.size w w' :=
  cloneSide_at w ⟨b, off, none⟩ c xs (fun j x h => by
    have hadd : (⟨b, off, none⟩ : Addr).add j = ⟨b, off + j, none⟩ := by unfold Addr.add; split <;> simp_all
    rw [hadd]
    exact hx j x h) hn
end Go.Proofs.YtifmifjbebpomaaGreatDoor
