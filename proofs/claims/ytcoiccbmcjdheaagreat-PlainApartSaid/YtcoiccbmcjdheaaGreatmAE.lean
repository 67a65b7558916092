/- A part of the proof, several texts in one: WalkC, WalkD, Clone, Any, Pure. -/
import Derived.Test.YtcoiccbmcjdheaaGreatmAD
import Derived.Deep.QuietTactic
import Derived.BigQuiet
import Derived.Orders
import Derived.Test.YtcoiccbmcjdheaaGreatmAA
/- The sides' tree: Open, Parent, cuts. -/
namespace Go.Proofs.YtcoiccbmcjdheaaGreat
open Go.RowKit Go.ChangeMaps Go.MapKept

def WM.cutAt (M : WM) (n : Nat) : Bool := M.cuts.getD n false
def WM.par (M : WM) (n : Nat) : Int := M.parents.getD n 0
def openF (M : WM) : Nat → Int → Int → Bool
  | 0, _, _ => true
  | f + 1, a, b => if a = b then true else if a < b then (if M.cutAt b.toNat then false else openF M f (M.par (b.toNat - 1)) a) else (if M.cutAt a.toNat then false else openF M f (M.par (a.toNat - 1)) b)
def WM.openB (M : WM) (a b : Int) : Bool := sideB M a && sideB M b && openF M (a.toNat + b.toNat) a b

section
variable {w : World} {p : Nat} {M : WM} {F : Nat → Prop} {pa : Option Addr} {pc cg cc mg mc tb fb fn : Nat} {bl : Int → Nat}
theorem WV.cutCell (h : WV w p M F pa pc cg cc mg mc tb fb fn bl) {n : Nat} (hn : n < M.made.length) : w.cell? ⟨cg, n, none⟩ = some (.bool (M.cutAt n)) := by
  have h1 := h.ok.cuts
  have h2 := h.ok.made
  exact h.cut.cell (by rw [List.getElem?_map, List.getElem?_eq_getElem (by omega), WM.cutAt, List.getD_eq_getElem?_getD, List.getElem?_eq_getElem (by omega)]; rfl)
theorem WV.parCell (h : WV w p M F pa pc cg cc mg mc tb fb fn bl) {n : Nat} (hn : n < M.parents.length) : ∃ b o, pa = some ⟨b, o, none⟩ ∧ w.cell? ⟨b, o + n, none⟩ = some (.int .i64 (M.par n)) := by
  obtain ⟨b, o, h1, _, _, h2⟩ := h.pars n (M.par n) (by rw [WM.par, List.getD_eq_getElem?_getD, List.getElem?_eq_getElem hn]; rfl)
  exact ⟨b, o, h1, h2⟩
theorem WM.ok.par_le (h : M.ok) {n : Nat} (hn : n < M.parents.length) : 0 ≤ M.par n ∧ M.par n ≤ n := by
  have := h.tree n (M.par n) (by rw [WM.par, List.getD_eq_getElem?_getD, List.getElem?_eq_getElem hn]; rfl)
  exact this
end

section
variable {w : World} {p : Nat} {M : WM} {F : Nat → Prop}


end
end Go.Proofs.YtcoiccbmcjdheaaGreat
/- The way of a thing, its base. -/
namespace Go.Proofs.YtcoiccbmcjdheaaGreat
open Go.RowKit Go.ChangeMaps Go.MapKept

def wayF (M : WM) : Nat → Int → List Int
  | 0, _ => []
  | f + 1, r => match M.at r with
    | none => []
    | some t => r :: (if wrapsB t.kind = true then wayF M f t.tgt else [])
def WayIs (M : WM) (r : Int) (l : List Int) : Prop := ∃ f0, ∀ f, f0 ≤ f → wayF M f r = l

theorem WayIs.uniq {M : WM} {r : Int} {l l' : List Int} (h : WayIs M r l) (h' : WayIs M r l') : l = l' := by
  obtain ⟨f, h⟩ := h
  obtain ⟨f', h'⟩ := h'
  exact (h (f + f') (by omega)).symm.trans (h' (f + f') (by omega))
theorem WayIs.none {M : WM} {r : Int} {l : List Int} (h : WayIs M r l) (hr : M.at r = none) : l = [] := by
  obtain ⟨f, h⟩ := h
  have := h (f + 1) (by omega)
  simpa [wayF, hr] using this.symm
theorem WayIs.wrap {M : WM} {r : Int} {l : List Int} {t : Th} (h : WayIs M r l) (hr : M.at r = some t) (hk : wrapsB t.kind = true) : ∃ l', l = r :: l' ∧ WayIs M t.tgt l' := by
  obtain ⟨f, h⟩ := h
  have h1 := h (f + 1) (by omega)
  refine ⟨wayF M f t.tgt, by simpa [wayF, hr, hk] using h1.symm, f, fun g hg => ?_⟩
  have h2 := h (g + 1) (by omega)
  rw [← h1] at h2
  simpa [wayF, hr, hk] using h2
theorem WayIs.base {M : WM} {r : Int} {l : List Int} {t : Th} (h : WayIs M r l) (hr : M.at r = some t) (hk : wrapsB t.kind = false) : l = [r] := by
  obtain ⟨f, h⟩ := h
  have h1 := h (f + 1) (by omega)
  simpa [wayF, hr, hk] using h1.symm
theorem WayIs.mk_none {M : WM} {r : Int} (hr : M.at r = .none) : WayIs M r [] := ⟨1, fun f hf => by obtain ⟨g, rfl⟩ : ∃ g, f = g + 1 := ⟨f - 1, by omega⟩; simp [wayF, hr]⟩
theorem WayIs.mk_wrap {M : WM} {r : Int} {l : List Int} {t : Th} (hr : M.at r = some t) (hk : wrapsB t.kind = true) (h : WayIs M t.tgt l) : WayIs M r (r :: l) := by
  obtain ⟨f0, h⟩ := h
  exact ⟨f0 + 1, fun f hf => by obtain ⟨g, rfl⟩ : ∃ g, f = g + 1 := ⟨f - 1, by omega⟩; simp [wayF, hr, hk, h g (by omega)]⟩
theorem WayIs.mk_base {M : WM} {r : Int} {t : Th} (hr : M.at r = some t) (hk : wrapsB t.kind = false) : WayIs M r [r] :=
  ⟨1, fun f hf => by obtain ⟨g, rfl⟩ : ∃ g, f = g + 1 := ⟨f - 1, by omega⟩; simp [wayF, hr, hk]⟩

theorem way_ex {M : WM} (hok : M.ok) (r : Int) : ∃ l, WayIs M r l ∧ (l.length : Int) ≤ M.last + 1 := by
  obtain ⟨rk, hrk0, hrk⟩ := hok.wrap
  have hl := hok.last
  suffices h : ∃ l, WayIs M r l ∧ l.length ≤ rk r + 1 by
    obtain ⟨l, h1, h2⟩ := h
    have := hrk0 r
    exact ⟨l, h1, by omega⟩
  generalize hm : rk r = m
  induction m using Nat.strongRecOn generalizing r with
  | ind m ih =>
    subst hm
    cases hr : M.at r with
    | none => exact ⟨[], WayIs.mk_none hr, by simp⟩
    | some t =>
      cases hk : wrapsB t.kind with
      | true =>
        obtain ⟨l, h1, h2⟩ := ih _ (hrk r t hr hk).2 t.tgt rfl
        have := (hrk r t hr hk).2
        exact ⟨_, WayIs.mk_wrap hr hk h1, by simp; omega⟩
      | false => exact ⟨_, WayIs.mk_base hr hk, by simp⟩




end Go.Proofs.YtcoiccbmcjdheaaGreat
/- slices.Clone of sides; a region of any order, by what stays true. -/
namespace Go.Proofs.YtcoiccbmcjdheaaGreat
open Go.RowKit Go.ChangeMaps Go.MapKept

/-- The sides that a slice holds. -/
def SideS (w : World) (v : Value) (xs : List Int) : Prop :=
  (∃ n c, v = .slice none n c ∧ xs = []) ∨ ∃ b off c, v = .slice (some ⟨b, off, none⟩) xs.length c ∧ ∀ (j : Nat) (x : Int), xs[j]? = some x → w.cell? ⟨b, off + j, none⟩ = some (.int .i64 x)

set_option maxRecDepth 8000 in
theorem cloneSide_nil (w : World) (n c : Nat) : Calls Tryz.prog 33 #[.slice none n c] w fun e w' => e = .returned (.slice none 0 0) ∧ w = w' := by
  go_enter Tryz.func33, Tryz.ntmps33
  go_wp2
  go_ret
  exact ⟨rfl, rfl⟩

theorem infoSide : (Tryz.prog.info? 31).map (fun i => (i.zero, i.size, i.bytes)) = some (some (.int .i64 0), 1, 8) := by kernel_rfl
theorem append_sides {w : World} {ops : Array Oper} {rest : List Oper} {o : Oper} {a : Act} {Q : Exit → Act → World → Prop} (hgd : o.guard = none) (s x : Operand)
    (ho : o.op = .call { callee := .builtin .append, args := #[s, x], argTypes := #[69, 69] }) (A : Addr) (c n : Nat) (xs : List Int) (hs : a.eval s = .slice (some ⟨w.heap.size, 0, none⟩) 0 0) (hn : n = xs.length)
    (hx : a.eval x = .slice (some A) n c) (hc : Hid (∀ (j : Nat) (x : Int), xs[j]? = some x → w.cell? (A.add j) = some (.int .i64 x))) (hn : Hid (xs.length < 16))
    (h : ∀ v' w', w'.ownsRow w.heap.size 31 1 v' xs.length (xs.map (Value.int .i64)) → Below w.heap.size w w' → wpList Tryz.prog ops Q rest (a.put o.dst v') w') : wpList Tryz.prog ops Q (o :: rest) a (w.alloc (.cells #[] 31)) := by
  obtain ⟨i, hi, hz, h1, h2⟩ := info_parts infoSide
  have hn := hn.out
  refine wpList_append_own _ hgd s x 69 ho w.heap.size 31 i (.int .i64 0) 1 8 Tryz.underlying69 hi hz h1 h2 rfl (by decide) (.slice (some ⟨w.heap.size, 0, none⟩) 0 0) 0 [] hs
    ⟨by simp, .inr ⟨w.heap.size, 0, #[], rfl, Nat.le_refl _, blk_new _ _, by omega, by unfold maxLen; omega, by simp, by simp⟩⟩ A n c (xs.map (Value.int .i64)) hx (by simp; omega)
    (fun j u hu => ?_) (fun u hu => ?_) (by unfold maxLen; omega) (by omega) (by simp) ?_
  · rw [List.getElem?_map] at hu
    cases hj : xs[j]? with
    | none => rw [hj] at hu; cases hu
    | some y =>
      rw [hj] at hu
      cases hu
      exact cell_al (hc.out j y hj) _
  · obtain ⟨y, -, rfl⟩ := List.mem_map.1 hu
    rfl
  · intro v' w' r1 r2 _
    have hg : w.grownBy w' (Value.slice (some ⟨w.heap.size, 0, none⟩) 0 0).ownBlock := (World.grownBy_alloc w _ _).trans r2
    refine h v' w' (by simpa [*] using r1) ⟨hg.os, hg.tape, hg.output, hg.size, fun k hk => hg.block k (by omega) (fun e => ?_)⟩
    simp [Value.ownBlock] at e
    omega

set_option maxRecDepth 8000 in
theorem cloneSide_at (w : World) (A : Addr) (c : Nat) (xs : List Int) (hx : ∀ (j : Nat) (x : Int), xs[j]? = some x → w.cell? (A.add j) = some (.int .i64 x)) (hn : xs.length < 16) :
    Calls Tryz.prog 33 #[.slice (some A) xs.length c] w fun e w' => ∃ v, e = .returned v ∧ w'.ownsRow w.heap.size 31 1 v xs.length (xs.map (Value.int .i64)) ∧ Below w.heap.size w w' := by
  have Hx := (show Hid _ from hx)
  have Hn := (show Hid (xs.length < 16) from hn)
  obtain ⟨n, hnx⟩ : ∃ n, n = xs.length := ⟨_, rfl⟩
  have Hnx := (show Hid (n = xs.length) from hnx)
  rw [← hnx]
  clear hx hn hnx
  go_enter Tryz.func33, Tryz.ntmps33
  go_wp2_with (at_builtin; refine append_sides rfl _ _ rfl A c n xs rfl Hnx.out rfl Hx Hn ?_; intro v w1 hv hb1; have HV := (show Hid _ from hv); have HB1 := (show Hid (Below w.heap.size w w1) from hb1); clear hv hb1)
  go_ret
  exact ⟨v, rfl, Hnx.out ▸ HV.out, HB1.out⟩
theorem cloneSide_some (w : World) (b off c : Nat) (xs : List Int) (hx : ∀ (j : Nat) (x : Int), xs[j]? = some x → w.cell? ⟨b, off + j, none⟩ = some (.int .i64 x)) (hn : xs.length < 16) :
    Calls Tryz.prog 33 #[.slice (some ⟨b, off, none⟩) xs.length c] w fun e w' => ∃ v, e = .returned v ∧ w'.ownsRow w.heap.size 31 1 v xs.length (xs.map (Value.int .i64)) ∧ Below w.heap.size w w' :=
  cloneSide_at w ⟨b, off, none⟩ c xs (fun j x h => by
    have hadd : (⟨b, off, none⟩ : Addr).add j = ⟨b, off + j, none⟩ := by unfold Addr.add; split <;> simp_all
    rw [hadd]
    exact hx j x h) hn
end Go.Proofs.YtcoiccbmcjdheaaGreat
/- A region that draws its order, by what stays true of it: whatever comes up keeps it. -/
namespace Go.Proofs.YtcoiccbmcjdheaaGreat
open Go.RowKit

theorem count_set_true {l : List Bool} {i : Nat} (hi : i < l.length) (h : l[i] = false) : (l.set i true).count false + 1 = l.count false := by
  induction l generalizing i with
  | nil => simp at hi
  | cons x l ih =>
    cases i with
    | zero =>
      simp only [List.getElem_cons_zero] at h
      subst h
      simp
    | succ i =>
      have := ih (i := i) (by simpa using hi) (by simpa using h)
      cases x <;> simp <;> omega

section
variable {P : Program} {ops : Array Oper} {Q : Exit → Act → World → Prop}

theorem ready_of_none (L : Array Bool) (hL : L.size = ops.size) (hord : ∀ (i : Nat) (o : Oper), ops[i]? = some o → ∀ e ∈ o.after, e.on < i)
    (hr : Region.ready .any ops L = []) : ∀ i, i < ops.size → L.getD i true = true := by
  intro i
  induction i using Nat.strongRecOn with
  | ind i ih =>
    intro hi
    cases hLi : L.getD i true with
    | true => rfl
    | false =>
      exfalso
      have : i ∈ Region.ready .any ops L := by
        unfold Region.ready
        rw [List.mem_filter]
        refine ⟨List.mem_range.2 hi, ?_⟩
        rw [hLi, Array.getElem?_eq_getElem hi]
        simp only [Bool.not_false, Bool.true_and, Option.map_some, Option.getD_some]
        rw [Array.all_eq_true_iff_forall_mem]
        intro e he
        have h1 := hord i _ (Array.getElem?_eq_getElem hi) e he
        have h2 := ih e.on h1 (by omega)
        have h3 : L.getD e.on false = true := by
          have : e.on < L.size := by omega
          simpa [Array.getD, this] using h2
        simp [h3]
      rw [hr] at this
      cases this

theorem wpAny_inv (Inv : Array Bool → Act → World → Prop) (hord : ∀ (i : Nat) (o : Oper), ops[i]? = some o → ∀ e ∈ o.after, e.on < i)
    (step : ∀ L a w i o, Inv L a w → ops[i]? = some o → L.getD i true = false → (∀ e ∈ o.after, Region.binds .any e = true → L.getD e.on false = true) →
      if Region.wanted o (yielded ops a.tmps) then o.wp P a w (Inv (L.setIfInBounds i true)) Q else Inv (L.setIfInBounds i true) (a.put o.dst undef) w)
    (done : ∀ L a w, Inv L a w → (∀ i, i < ops.size → L.getD i true = true) → Q .normal a w) :
    ∀ (fuel : Nat) (L : Array Bool) (a : Act) (w : World), L.size = ops.size → L.toList.count false ≤ fuel → Inv L a w → wpAny P .any ops Q fuel L a w
  | 0, L, a, w, hL, hc, hI => by
    have hall : ∀ i, i < ops.size → L.getD i true = true := by
      intro i hi
      have h0 : L.toList.count false = 0 := by omega
      rw [List.count_eq_zero] at h0
      cases h : L.getD i true with
      | true => rfl
      | false =>
        exfalso
        apply h0
        have hi' : i < L.size := by omega
        have : L[i] = false := by simpa [Array.getD, hi'] using h
        rw [← this]
        simp
    refine ⟨?_, done L a w hI hall⟩
    unfold Region.ready
    rw [List.filter_eq_nil_iff]
    intro i hi
    rw [hall i (List.mem_range.1 hi)]
    simp
  | fuel + 1, L, a, w, hL, hc, hI => by
    refine ⟨fun h => done L a w hI (ready_of_none L hL hord h), fun i hi => ?_⟩
    unfold Region.ready at hi
    rw [List.mem_filter] at hi
    obtain ⟨h1, h2⟩ := hi
    have h1 := List.mem_range.1 h1
    rw [Bool.and_eq_true, Array.getElem?_eq_getElem h1, Option.map_some, Option.getD_some, Array.all_eq_true_iff_forall_mem] at h2
    obtain ⟨h3, h4⟩ := h2
    have h3 : L.getD i true = false := by simpa using h3
    have hs := step L a w i _ hI (Array.getElem?_eq_getElem h1) h3 (fun e he hb => by
      have := h4 e he
      simpa [hb] using this)
    have hi' : i < L.size := by omega
    have hLi : L.toList[i]'(by simpa using hi') = false := by
      have : L[i] = false := by simpa [Array.getD, hi'] using h3
      simpa using this
    have hcnt := count_set_true (l := L.toList) (by simpa using hi') hLi
    have next : ∀ a w, Inv (L.setIfInBounds i true) a w → wpAny P .any ops Q fuel (L.setIfInBounds i true) a w := fun a w h =>
      wpAny_inv Inv hord step done fuel _ a w (by simpa using hL) (by rw [Array.toList_setIfInBounds]; omega) h
    unfold wpOp
    rw [Array.getElem?_eq_getElem h1]
    simp only
    split at hs
    · rename_i hw
      rw [if_pos hw]
      exact .inl (Oper.wp_mono next hs)
    · rename_i hw
      rw [if_neg hw]
      exact next _ _ hs

/-- The whole region. -/
theorem wp_region_inv {id : Nat} {a : Act} {w : World} (hm : P.follows .mixedOrders = true) (Inv : Array Bool → Act → World → Prop) (hord : ∀ (i : Nat) (o : Oper), ops[i]? = some o → ∀ e ∈ o.after, e.on < i)
    (h0 : Inv (Array.replicate ops.size false) a w.drew)
    (step : ∀ L a w i o, Inv L a w → ops[i]? = some o → L.getD i true = false → (∀ e ∈ o.after, Region.binds .any e = true → L.getD e.on false = true) →
      if Region.wanted o (yielded ops a.tmps) then o.wp P a w (Inv (L.setIfInBounds i true)) Q else Inv (L.setIfInBounds i true) (a.put o.dst undef) w)
    (done : ∀ L a w, Inv L a w → (∀ i, i < ops.size → L.getD i true = true) → Q .normal a w) : (Code.region id ops true).wp P Q a w :=
  wp_region_any hm (wpAny_inv Inv hord step done ops.size _ a _ (by simp) (by simp) h0)
end
end Go.Proofs.YtcoiccbmcjdheaaGreat
/- Plain laws on a world as data: a thing more, a thing that turns. -/
set_option linter.unusedSimpArgs false
namespace Go.Proofs.YtcoiccbmcjdheaaGreat

theorem lookup_eq_some_mem {l : List (Int × Th)} {r : Int} {t : Th} (h : l.lookup r = some t) : (r, t) ∈ l := by
  induction l with
  | nil => cases h
  | cons x l ih =>
    obtain ⟨a, b⟩ := x
    rw [List.lookup_cons] at h
    by_cases e : r == a
    · rw [e] at h
      cases h
      have : r = a := by simpa using e
      subst this
      simp
    · rw [show (r == a) = false by simpa using e] at h
      exact List.mem_cons_of_mem _ (ih h)
theorem lookup_of_mem {l : List (Int × Th)} (hs : l.Pairwise (fun x y => x.1 < y.1)) {r : Int} {t : Th} (h : (r, t) ∈ l) : l.lookup r = some t := by
  induction l with
  | nil => cases h
  | cons x l ih =>
    obtain ⟨a, b⟩ := x
    obtain ⟨h1, h2⟩ := List.pairwise_cons.1 hs
    rw [List.lookup_cons]
    rcases List.mem_cons.1 h with e | e
    · cases e
      simp
    · have := h1 _ e
      have e2 : (r == a) = false := by simp; simp only at this; omega
      rw [e2]
      exact ih h2 e
theorem at_mem {M : WM} {r : Int} {t : Th} (h : M.at r = some t) : (r, t) ∈ M.things := lookup_eq_some_mem h
theorem WM.ok.at_of_mem {M : WM} (h : M.ok) {r : Int} {t : Th} (hm : (r, t) ∈ M.things) : M.at r = some t := lookup_of_mem h.keys hm
theorem WM.ok.at_range {M : WM} (h : M.ok) {r : Int} {t : Th} (hm : M.at r = some t) : 0 < r ∧ r ≤ M.last := h.range _ (at_mem hm)
theorem WM.ok.at_wf {M : WM} (h : M.ok) {r : Int} {t : Th} (hm : M.at r = some t) : (Lit.int .i64 r).wf = true := by
  have := h.at_range hm
  have := h.last
  exact WalkArith.wf_i64 (by omega)
theorem WM.ok.none_above {M : WM} (h : M.ok) {r : Int} (hr : M.last < r) : M.at r = none := by
  cases hm : M.at r with
  | none => rfl
  | some t => have := h.at_range hm; omega
theorem WM.ok.none_zero {M : WM} (h : M.ok) : M.at 0 = none := by
  cases hm : M.at 0 with
  | none => rfl
  | some t => have := h.at_range hm; omega

/-- One thing more. -/
def WM.add (M : WM) (t : Th) : WM :=
  { M with things := M.things ++ [(M.last + 1, t)], last := M.last + 1, made := if t.kind = 14 then M.made else M.made.set t.home.toNat (M.made.getD t.home.toNat 0 + 1) }

theorem lookup_append' (l : List (Int × Th)) (k : Int) (t : Th) (r : Int) : (l ++ [(k, t)]).lookup r = (l.lookup r).or (if r = k then some t else none) := by
  induction l with
  | nil =>
    by_cases e : r = k
    · subst e; simp
    · simp [e, List.lookup_cons, show (r == k) = false by simpa using e]
  | cons x l ih =>
    obtain ⟨a, b⟩ := x
    rw [List.cons_append, List.lookup_cons, List.lookup_cons]
    by_cases e : r == a
    · rw [e]; rfl
    · rw [show (r == a) = false by simpa using e]
      exact ih
theorem WM.add_at {M : WM} (h : M.ok) (t : Th) (r : Int) : (M.add t).at r = if r = M.last + 1 then some t else M.at r := by
  show (M.things ++ [(M.last + 1, t)]).lookup r = _
  rw [lookup_append']
  by_cases e : r = M.last + 1
  · subst e
    have := h.none_above (r := M.last + 1) (by omega)
    have e1 : M.things.lookup (M.last + 1) = none := this
    rw [e1]
    simp
  · simp [e, WM.at]
theorem WM.add_at_old {M : WM} (h : M.ok) (t : Th) {r : Int} {u : Th} (hr : M.at r = some u) : (M.add t).at r = some u := by
  rw [WM.add_at h, if_neg (by have := h.at_range hr; omega), hr]
theorem WM.add_at_new {M : WM} (h : M.ok) (t : Th) : (M.add t).at (M.last + 1) = some t := by rw [WM.add_at h, if_pos rfl]

theorem find_append_not {l : List (Int × Th)} {k : Int} {t : Th} {a b : Int} (hk : t.kind ≠ 14) : ((l ++ [(k, t)]).find? (fun x => x.2.kind == 14 && x.2.tgt == a && x.2.set == b)) = l.find? (fun x => x.2.kind == 14 && x.2.tgt == a && x.2.set == b) := by
  rw [List.find?_append]
  have : ([(k, t)] : List (Int × Th)).find? (fun x => x.2.kind == 14 && x.2.tgt == a && x.2.set == b) = none := by
    simp [List.find?_cons, hk]
  rw [this]
  simp
theorem WM.add_find_not {M : WM} {t : Th} (hk : t.kind ≠ 14) (a b : Int) : (M.add t).find a b = M.find a b := by
  show ((M.things ++ [(M.last + 1, t)]).find? _).map _ = _
  rw [find_append_not hk]
  rfl
theorem WM.add_find_facet {M : WM} {t : Th} (hk : t.kind = 14) (hn : M.find t.tgt t.set = none) (a b : Int) : (M.add t).find a b = if a = t.tgt ∧ b = t.set then some (M.last + 1) else M.find a b := by
  show ((M.things ++ [(M.last + 1, t)]).find? _).map _ = _
  rw [List.find?_append]
  by_cases e : a = t.tgt ∧ b = t.set
  · obtain ⟨rfl, rfl⟩ := e
    have h1 : M.things.find? (fun x => x.2.kind == 14 && x.2.tgt == t.tgt && x.2.set == t.set) = none := by
      simpa [WM.find] using hn
    rw [h1]
    simp [List.find?_cons, hk]
  · rw [if_neg e]
    have : ([(M.last + 1, t)] : List (Int × Th)).find? (fun x => x.2.kind == 14 && x.2.tgt == a && x.2.set == b) = none := by
      have : (t.tgt == a && t.set == b) = false := by
        cases h1 : t.tgt == a <;> cases h2 : t.set == b <;> simp_all
      simp [List.find?_cons, hk, this]
    rw [this]
    simp [WM.find]

theorem WM.find_at {M : WM} (h : M.ok) {a b r : Int} (hf : M.find a b = some r) : ∃ t, M.at r = some t ∧ t.kind = 14 ∧ t.tgt = a ∧ t.set = b := by
  unfold WM.find at hf
  rw [Option.map_eq_some_iff] at hf
  obtain ⟨x, hx, rfl⟩ := hf
  have hm := List.mem_of_find?_eq_some hx
  have hp := List.find?_some hx
  simp only [Bool.and_eq_true, beq_iff_eq] at hp
  exact ⟨x.2, h.at_of_mem hm, hp.1.1, hp.1.2, hp.2⟩
theorem WM.find_none {M : WM} {a b : Int} (hf : M.find a b = none) {r : Int} {t : Th} (ht : M.at r = some t) (hk : t.kind = 14) (h1 : t.tgt = a) (h2 : t.set = b) : False := by
  have : M.things.find? (fun x => x.2.kind == 14 && x.2.tgt == a && x.2.set == b) = none := by simpa [WM.find] using hf
  have := List.find?_eq_none.1 this _ (at_mem ht)
  simp [hk, h1, h2] at this

/-- What is asked of a thing that is added. -/
structure AddOk (M : WM) (t : Th) : Prop where
  wf : t.wf
  last : M.last + 1 ≤ 1099511627776
  home : t.kind ≠ 14 → 0 ≤ t.home ∧ t.home < M.made.length
  made : t.kind ≠ 14 → M.made.getD t.home.toNat 0 < 512
  wrap : wrapsB t.kind = true → ∃ u, M.at t.tgt = some u
  gate : t.kind = 15 → ∃ u, M.at t.bi = some u ∧ u.kind = 13
  purse : t.kind = 9 → ∃ u, M.at t.tgt = some u ∧ u.kind = 8
  facet : t.kind = 14 → M.find t.tgt t.set = none

theorem WM.add_ok {M : WM} (h : M.ok) {t : Th} (a : AddOk M t) : (M.add t).ok where
  sides := h.sides
  cuts := h.cuts
  made := by
    show (if t.kind = 14 then M.made else _).length = _
    split
    · exact h.made
    · rw [List.length_set]; exact h.made
  tree := h.tree
  keys := by
    show (M.things ++ [(M.last + 1, t)]).Pairwise _
    rw [List.pairwise_append]
    refine ⟨h.keys, by simp, fun x hx y hy => ?_⟩
    simp at hy
    subst hy
    have := h.range x hx
    simp only
    omega
  range x hx := by
    rcases List.mem_append.1 hx with hx | hx
    · have := h.range x hx
      show _ ∧ _ ≤ M.last + 1
      omega
    · simp at hx
      subst hx
      have := h.last
      show 0 < M.last + 1 ∧ M.last + 1 ≤ M.last + 1
      omega
  last := by
    have := h.last
    have := a.last
    show 0 ≤ M.last + 1 ∧ M.last + 1 ≤ _
    omega
  mades i x hx := by
    change (if t.kind = 14 then M.made else _)[i]? = some x at hx
    split at hx
    · exact h.mades i x hx
    · rename_i hk
      rw [List.getElem?_set] at hx
      split at hx
      · split at hx
        · cases hx
          have h1 := a.made hk
          have : M.made[t.home.toNat]? = some (M.made.getD t.home.toNat 0) := by rw [List.getD_eq_getElem?_getD, List.getElem?_eq_getElem (by omega)]; rfl
          have := h.mades _ _ this
          omega
        · cases hx
      · exact h.mades i x hx
  wf r u hu := by
    rw [WM.add_at h] at hu
    split at hu
    · cases hu; exact a.wf
    · exact h.wf r u hu
  homes r u hu hk := by
    have hl : (M.add t).made.length = M.made.length := by
      show (if t.kind = 14 then M.made else _).length = _
      split
      · rfl
      · rw [List.length_set]
    rw [hl]
    rw [WM.add_at h] at hu
    split at hu
    · cases hu; exact a.home hk
    · exact h.homes r u hu hk
  wrap := by
    obtain ⟨rk, h0, h1⟩ := h.wrap
    have hl := h.last
    refine ⟨fun r => if r = M.last + 1 then rk t.tgt + 1 else rk r, fun r => ?_, fun r u hu hw => ?_⟩
    · have e1 := h0 t.tgt
      have e2 := h0 r
      show (if r = M.last + 1 then rk t.tgt + 1 else rk r) ≤ (M.last + 1).toNat
      split <;> omega
    · rw [WM.add_at h] at hu
      split at hu
      · rename_i e
        cases hu
        obtain ⟨u, hu⟩ := a.wrap hw
        have := h.at_range hu
        refine ⟨⟨u, WM.add_at_old h _ hu⟩, ?_⟩
        show (if t.tgt = M.last + 1 then rk t.tgt + 1 else rk t.tgt) < if r = M.last + 1 then rk t.tgt + 1 else rk r
        rw [if_neg (by omega), if_pos e]
        omega
      · rename_i e
        obtain ⟨⟨v, hv⟩, h3⟩ := h1 r u hu hw
        have := h.at_range hv
        refine ⟨⟨v, WM.add_at_old h _ hv⟩, ?_⟩
        show (if u.tgt = M.last + 1 then rk t.tgt + 1 else rk u.tgt) < if r = M.last + 1 then rk t.tgt + 1 else rk r
        rw [if_neg (by omega), if_neg e]
        exact h3
  gate r u hu hk := by
    rw [WM.add_at h] at hu
    split at hu
    · cases hu
      obtain ⟨v, h1, h2⟩ := a.gate hk
      exact ⟨v, WM.add_at_old h _ h1, h2⟩
    · obtain ⟨v, h1, h2⟩ := h.gate r u hu hk
      exact ⟨v, WM.add_at_old h _ h1, h2⟩
  purse r u hu hk := by
    rw [WM.add_at h] at hu
    split at hu
    · cases hu
      obtain ⟨v, h1, h2⟩ := a.purse hk
      exact ⟨v, WM.add_at_old h _ h1, h2⟩
    · obtain ⟨v, h1, h2⟩ := h.purse r u hu hk
      exact ⟨v, WM.add_at_old h _ h1, h2⟩
  facet r u r' u' hu hu' k k' e1 e2 := by
    rw [WM.add_at h] at hu hu'
    split at hu <;> split at hu'
    · omega
    · cases hu
      exact (WM.find_none (a.facet k) hu' k' e1.symm e2.symm).elim
    · cases hu'
      exact (WM.find_none (a.facet k') hu k e1 e2).elim
    · exact h.facet r u r' u' hu hu' k k' e1 e2
end Go.Proofs.YtcoiccbmcjdheaaGreat
