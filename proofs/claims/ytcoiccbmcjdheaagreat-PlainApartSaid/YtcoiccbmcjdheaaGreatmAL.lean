/- A part of the proof, several texts in one: GHeld. -/
import Derived.Test.YtcoiccbmcjdheaaGreatmAK
import Derived.Test.YtcoiccbmcjdheaaGreatmAD
import Derived.Laws.AppendOwnNone
/- held, names: the references in a thing whose values are any. -/
namespace Go.Proofs.YtcoiccbmcjdheaaGreat
open Go.RowKit Go.ChangeMaps Go.MapKept

/-- A thing's lists, wherever they lie. -/
structure Lies (w : World) (F : Nat → Prop) (t : Th) : Prop where
  v : SlAt w F t.vl t.v.l
  vs : SlAt w F t.vals t.vs
  code : t.code = .slice none 0 0
  names : t.names = .slice none 0 0
theorem Deep.lies {w : World} {F : Nat → Prop} {t : Th} (h : Deep w F t) : Lies w F t := ⟨h.v.at, h.vs.at, h.code, h.names⟩
theorem Lies.on {w w' : World} {F : Nat → Prop} {t : Th} (h : Lies w F t) (hb : Below w.heap.size w w') : Lies w' F t := ⟨h.v.on hb, h.vs.on hb, h.code, h.names⟩
theorem Deep.on {w w' : World} {F : Nat → Prop} {t : Th} (h : Deep w F t) (hb : Below w.heap.size w w') : Deep w' F t := ⟨h.v.on hb, h.vs.on hb, h.code, h.names⟩
theorem Lies.mono {w : World} {F F' : Nat → Prop} {t : Th} (h : Lies w F t) (hF : ∀ b, F b → F' b) : Lies w F' t := ⟨h.v.mono hF, h.vs.mono hF, h.code, h.names⟩

/-- The references in a thing's values. -/
def heldL (t : Th) : List Int := refsV t.v ++ t.vs.flatMap refsV

/-- 'l = append(l, more..)', both lists of references of the call's own (or nil). -/
theorem append_refs {w : World} {ops : Array Oper} {rest : List Oper} {o : Oper} {a : Act} {Q : Exit → Act → World → Prop} (hgd : o.guard = none) (s x : Operand)
    (ho : o.op = .call { callee := .builtin .append, args := #[s, x], argTypes := #[64, 64] }) (base : Nat) (v u : Value) (l m : List Int) (hs : a.eval s = v) (hx : a.eval x = u)
    (hown : w.ownsRow base 28 1 v l.length (l.map (Value.int .i64))) (B : Nat) (hnew : w.ownsRow B 28 1 u m.length (m.map (Value.int .i64))) (hn : l.length + m.length ≤ 1000000) (hbase : base ≤ w.heap.size)
    (h : ∀ v' w', w'.ownsRow base 28 1 v' (l ++ m).length ((l ++ m).map (Value.int .i64)) → Below base w w' → wpList Tryz.prog ops Q rest (a.put o.dst v') w') : wpList Tryz.prog ops Q (o :: rest) a w := by
  obtain ⟨i, hi, hz, h1, h2⟩ := info_parts infoRef
  rcases hnew with ⟨hl, ⟨rfl, h0⟩ | ⟨g, cap, cur, rfl, hg, hb, hc, hm, hcs, ht⟩⟩
  · have hm0 : m = [] := List.length_eq_zero_iff.1 h0
    subst hm0
    refine wpList_append_own_none hgd s x 64 ho base 28 i 1 Tryz.underlying64 hi v l.length _ hs hown hx ?_
    exact h v w (by simpa using hown) (Below.refl _ _)
  · refine wpList_append_own _ hgd s x 64 ho base 28 i (.int .i64 0) 1 8 Tryz.underlying64 hi hz h1 h2 rfl (by decide) v l.length _ hs hown ⟨g, 0, none⟩ m.length cap (m.map (Value.int .i64)) hx (by simp) (fun j y hj => ?_) (fun y hy => ?_) (by unfold maxLen; omega) (by omega) hbase ?_
    · rw [show (⟨g, 0, none⟩ : Addr).add j = ⟨g, j, none⟩ by rw [Addr.add_lit, Nat.zero_add], cell_blk hb, ← Array.getElem?_toList]
      rw [← ht, List.getElem?_take] at hj
      split at hj
      · exact hj
      · cases hj
    · simp only [List.mem_map] at hy
      obtain ⟨z, -, rfl⟩ := hy
      rfl
    · intro v' w' r1 r2 _
      exact h v' w' (by simpa using r1) ⟨r2.os, r2.tape, r2.output, r2.size, fun k hk => r2.block k (by omega) (fun e => by have := hown.lt k e.symm; omega)⟩

theorem execOp_ldVh17 (ρ : Operand → Value) (ty : TypeId) (pos : String) (af : Array Edge) (g : Option (Nat × Bool)) :
    execOp ρ { dst := some 17, op := .load 34 (.tmp 16), type := ty, pos := pos, after := af, guard := g } = ldV (ρ (.tmp 16)) := rfl

theorem flat_len {l : List Val} {n : Nat} (h : l.length ≤ n) : (l.flatMap refsV).length ≤ n * 512 := by
  induction l generalizing n with
  | nil => simp
  | cons x l ih =>
    cases n with
    | zero => simp at h
    | succ n =>
      have := ih (n := n) (by simpa using h)
      have := refsV_le x
      simp only [List.flatMap_cons, List.length_append]
      omega

theorem row_mono {w : World} {base base' s n : Nat} {e : TypeId} {v : Value} {xs : List Value} (h : w.ownsRow base e s v n xs) (hb : base' ≤ base) : w.ownsRow base' e s v n xs := by
  obtain ⟨h1, h2⟩ := h
  refine ⟨h1, ?_⟩
  rcases h2 with h2 | ⟨g, cap, cur, h3, h4, h5⟩
  · exact .inl h2
  · exact .inr ⟨g, cap, cur, h3, by omega, h5⟩
/-- In held's loops. -/
def HdL (w : World) (xs : List Int) (v : Value) (wr : World) : Prop :=
  wr.ownsRow (w.heap.size + 1) 28 1 v xs.length (xs.map (Value.int .i64)) ∧ Below w.heap.size w wr ∧ wr.cell? ⟨w.heap.size, 15, none⟩ = some (.slice none 0 0)
theorem row_on {w w' : World} {base s n : Nat} {e : TypeId} {v : Value} {xs : List Value} (h : w.ownsRow base e s v n xs) (hb : Below w.heap.size w w') : w'.ownsRow base e s v n xs := by
  obtain ⟨h1, h2⟩ := h
  refine ⟨h1, ?_⟩
  rcases h2 with h2 | ⟨g, cap, cur, h3, h4, h5, h6⟩
  · exact .inl h2
  · exact .inr ⟨g, cap, cur, h3, h4, below_blk hb h5, h6⟩

attribute [local go_sem ↓] execOp_ldVh17 in
set_option maxHeartbeats 4000000 in
set_option maxRecDepth 8000 in
theorem held_G {w : World} {F : Nat → Prop} (t : Th) (hD : Lies w F t) (hl : t.vs.length ≤ 1024) : Calls Tryz.prog 96 #[.agg (thc t)] w fun e w' => ∃ u, e = .returned u ∧ RefsAt w w' u (heldL t) ∧ Below w.heap.size w w' := by
  obtain ⟨pv, cv, hv⟩ := hD.v.form
  obtain ⟨ps, cs, hvs⟩ := hD.vs.form
  obtain ⟨k, h, ⟨vk, vn, vstr, vl, vr⟩, raw, vs, vals, n, l, tg, bi, s, fu, code, names⟩ := t
  obtain ⟨hS1, hS2, hc, hnm⟩ := hD
  simp only at hv hvs hS1 hS2 hc hnm hl
  subst hv hvs hc hnm
  have hb0 : Below w.heap.size w (w.alloc (.cells (thc ⟨k, h, ⟨vk, vn, vstr, vl, vr⟩, .slice pv vl.length cv, vs, .slice ps vs.length cs, n, l, tg, bi, s, fu, .slice none 0 0, .slice none 0 0⟩) 42)) := (Below.refl _ _).alloc (Nat.le_refl _) _
  have HR := (show Hid _ from Refs_G (w := w.alloc (.cells (thc ⟨k, h, ⟨vk, vn, vstr, vl, vr⟩, .slice pv vl.length cv, vs, .slice ps vs.length cs, n, l, tg, bi, s, fu, .slice none 0 0, .slice none 0 0⟩) 42)) ⟨vk, vn, vstr, vl, vr⟩ (.slice pv vl.length cv) (hS1.on hb0))
  have HS2 := (show Hid (SlAt w F (.slice ps vs.length cs) vs) from hS2)
  have Hl := (show Hid (vs.length ≤ 1024) from hl)
  have HB0 := (show Hid _ from And.intro hb0 (blk_new w (.cells (thc ⟨k, h, ⟨vk, vn, vstr, vl, vr⟩, .slice pv vl.length cv, vs, .slice ps vs.length cs, n, l, tg, bi, s, fu, .slice none 0 0, .slice none 0 0⟩) 42)))
  clear hS1 hS2 hl hb0
  simp only [thc, vcs] at HR HB0 ⊢
  simp only [heldL]
  go_enter Tryz.func96, Tryz.ntmps96
  go_wp2_with fail
  refine Calls.mono HR.out ?_
  rintro e w1 ⟨u, rfl, hr1, hb1⟩
  have HB1 := (show Hid (Below w.heap.size w w1) from HB0.out.1.trans (hb1.mono HB0.out.1.size))
  have b1 := below_blk hb1 HB0.out.2
  have c7 : w1.cell? ⟨w.heap.size, 7, none⟩ = some (.slice ps vs.length cs) := by rw [cell_blk b1]; rfl
  have c15 : w1.cell? ⟨w.heap.size, 15, none⟩ = some (.slice none 0 0) := by rw [cell_blk b1]; rfl
  have Hb1 := (show Hid _ from b1)
  have HO1 : Hid (w1.ownsRow (w.heap.size + 1) 28 1 u (refsV ⟨vk, vn, vstr, vl, vr⟩).length ((refsV ⟨vk, vn, vstr, vl, vr⟩).map (Value.int .i64))) := by
    have := hr1
    unfold RefsAt at this
    rwa [World.size_alloc] at this
  clear hr1 hb1 HR HB0
  go_wp2_with fail
  go_loopw [14, 3] (fun vi vx wr => ∃ i : Nat, vi = .int .i64 i ∧ i ≤ vs.length ∧ Hid (HdL w (refsV ⟨vk, vn, vstr, vl, vr⟩ ++ (vs.take i).flatMap refsV) vx wr)) (fun vi _ _ => vs.length - (intOf vi).toNat)
  case atStart =>
    refine ⟨0, rfl, Nat.zero_le _, ?_⟩
    show HdL _ _ _ _
    simp only [List.take_zero, List.flatMap_nil, List.append_nil]
    exact ⟨HO1.out, HB1.out, c15⟩
  case round =>
    clear c7 c15 Hb1 HO1 HB1
    obtain ⟨i, rfl, hi, HL⟩ := hrel
    by_cases hil : i < vs.length
    · have hiz : (i : Int) < (vs.length : Int) := by omega
      obtain ⟨x, hx⟩ : ∃ x, vs[i]? = some x := ⟨_, List.getElem?_eq_getElem hil⟩
      obtain ⟨b, o, c', raw, hpe, hrg, -, -, hSx⟩ := (HS2.out.on HL.out.2.1).range hx
      cases hpe
      obtain ⟨xk, xn, xs, xl, xr⟩ := x
      obtain ⟨pa2, c2, rfl⟩ := hSx.form
      have hld0 := loadV_mid hrg rfl
      have hld : (ldV (.pointer (some ⟨b, o + i * 5, none⟩))).run Tryz.prog wr = .ok (.value (.agg #[.int .u8 xk, .int .i64 xn, .string xs, .slice pa2 xl.length c2, .int .i64 xr])) wr := hld0
      have hb2 : Below wr.heap.size wr (wr.alloc (.cells #[.int .u8 xk, .int .i64 xn, .string xs, .slice pa2 xl.length c2, .int .i64 xr] 34)) := (Below.refl _ _).alloc (Nat.le_refl _) _
      have HC := (show Hid _ from And.intro hb2 (Refs_G (w := wr.alloc (.cells #[.int .u8 xk, .int .i64 xn, .string xs, .slice pa2 xl.length c2, .int .i64 xr] 34)) ⟨xk, xn, xs, xl, xr⟩ (.slice pa2 xl.length c2) (hSx.on hb2)))
      have Htk : Hid (refsV ⟨vk, vn, vstr, vl, vr⟩ ++ (vs.take (i + 1)).flatMap refsV = (refsV ⟨vk, vn, vstr, vl, vr⟩ ++ (vs.take i).flatMap refsV) ++ refsV ⟨xk, xn, xs, xl, xr⟩) := by
        show _ = _
        rw [List.take_add_one, hx]
        simp
      have Hlen : Hid ((refsV ⟨vk, vn, vstr, vl, vr⟩ ++ (vs.take i).flatMap refsV).length + (refsV ⟨xk, xn, xs, xl, xr⟩).length ≤ 1000000) := by
        have h1 := refsV_le ⟨vk, vn, vstr, vl, vr⟩
        have h2 := refsV_le ⟨xk, xn, xs, xl, xr⟩
        have h3 := flat_len (l := vs.take i) (n := 1024) (by simp; have := Hl.out; omega)
        show _ ≤ _
        rw [List.length_append]
        omega
      have hi1 : i < 1024 := by have := Hl.out; omega
      generalize refsV ⟨vk, vn, vstr, vl, vr⟩ ++ (vs.take i).flatMap refsV = pre at HL Htk Hlen
      clear hld0 hx hrg hSx hb2
      go_wp2_with fail
      refine Calls.mono HC.out.2 ?_
      rintro e w2 ⟨u2, rfl, hr2, hb2⟩
      have hB2 : Below wr.heap.size wr w2 := HC.out.1.trans (hb2.mono HC.out.1.size)
      have HO2 := (show Hid _ from row_on HL.out.1 hB2)
      have HN2 := (show Hid _ from hr2)
      have HB2 := (show Hid (Below w.heap.size w w2) from HL.out.2.1.trans (hB2.mono HL.out.2.1.size))
      have HZ2 : Hid (wr.heap.size ≤ w2.heap.size ∧ w.heap.size < wr.heap.size ∧ w2.cell? ⟨w.heap.size, 15, none⟩ = some (.slice none 0 0)) := by
        have hlt := World.block_lt_of_cell? _ _ HL.out.2.2
        exact ⟨hB2.size, hlt, (hB2.cell (p := ⟨w.heap.size, 15, none⟩) hlt).trans HL.out.2.2⟩
      clear hr2 hb2 hB2 HC HL
      go_wp2_with (first
        | (at_builtin; refine append_refs rfl _ _ rfl (w.heap.size + 1) _ _ pre (refsV ⟨xk, xn, xs, xl, xr⟩) rfl rfl HO2.out _ HN2.out Hlen.out (by have := HZ2.out.1; have := HZ2.out.2.1; omega) ?_; intro v' w5 hown' hb5))
      have HL' : Hid (HdL w (refsV ⟨vk, vn, vstr, vl, vr⟩ ++ (vs.take (i + 1)).flatMap refsV) v' w5) := by
        rw [Htk.out]
        have hlt : w.heap.size < w2.heap.size := by have := HZ2.out.1; have := HZ2.out.2.1; omega
        exact ⟨hown', HB2.out.trans (hb5.mono (Nat.le_succ _)), (World.cell?_of_block (a := ⟨w.heap.size, 15, none⟩) (hb5.block w.heap.size (Nat.lt_succ_self _))).trans HZ2.out.2.2⟩
      go_roundw
      case rel => exact ⟨i + 1, by go_num, by omega, HL'⟩
      case measure =>
        simp [intOf]
        omega
    · have hiz : ¬ (i : Int) < (vs.length : Int) := by omega
      obtain rfl : i = vs.length := by omega
      have c15 := HL.out.2.2
      rw [List.take_length] at HL
      go_wp2_with fail
      go_rounds 1
      go_ret
      exact ⟨_, rfl, row_mono HL.out.1 (Nat.le_succ _), HL.out.2.1⟩

/-! ### names: are all references things? -/
def namesB (M : WM) (t : Th) : Bool := (heldL t).all fun r => (M.at r).isSome
variable {w : World} {p : Nat} {M : WM} {F : Nat → Prop}
set_option maxRecDepth 8000 in
theorem names1_W (hW : IsW w p M F) {B : Nat} {e : TypeId} (hB : w.heap[B]? = some (.cells #[.pointer (some ⟨p, 0, none⟩)] e (0, 0))) {r : Int} (hr : (Lit.int .i64 r).wf = true) :
    Calls Tryz.prog 97 #[.int .i64 r, .pointer (some ⟨B, 0, none⟩)] w fun e w' => e = .returned (.bool (!(M.at r).isSome)) ∧ w = w' := by
  have c0 : w.cell? ⟨B, 0, none⟩ = some (.pointer (some ⟨p, 0, none⟩)) := by rw [cell_blk hB]; rfl
  have HI := (show Hid _ from Is_W hW hr)
  clear hB hW
  cases hm : (M.at r).isSome with
  | true =>
    rw [hm] at HI
    go_enter Tryz.func97, Tryz.ntmps97
    go_wp2_with fail
    refine Calls.mono HI.out ?_
    rintro e _ ⟨rfl, rfl⟩
    go_wp2_with fail
    go_ret
    exact ⟨rfl, rfl⟩
  | false =>
    rw [hm] at HI
    go_enter Tryz.func97, Tryz.ntmps97
    go_wp2_with fail
    refine Calls.mono HI.out ?_
    rintro e _ ⟨rfl, rfl⟩
    go_wp2_with fail
    go_ret
    exact ⟨rfl, rfl⟩

set_option maxHeartbeats 2000000 in
set_option maxRecDepth 8000 in
theorem containsRef_G (hW : IsW w p M F) {B : Nat} {e : TypeId} (hB : w.heap[B]? = some (.cells #[.pointer (some ⟨p, 0, none⟩)] e (0, 0))) {base : Nat} {u : Value} (xs : List Int) (hr : w.ownsRow base 28 1 u xs.length (xs.map (Value.int .i64)))
    (hwf : ∀ x ∈ xs, (Lit.int .i64 x).wf = true) (hmax : xs.length ≤ 1000000) :
    Calls Tryz.prog 95 #[u, .func (.func 97) #[] #[.pointer (some ⟨B, 0, none⟩)]] w fun e w' => e = .returned (.bool (!xs.all fun r => (M.at r).isSome)) ∧ w = w' := by
  obtain ⟨q, c, hu, hcell⟩ : ∃ q c, u = .slice q xs.length c ∧ ∀ (j : Nat) (x : Int), xs[j]? = some x → ∃ g, q = some ⟨g, 0, none⟩ ∧ w.cell? ⟨g, j, none⟩ = some (.int .i64 x) := by
    obtain ⟨h1, ⟨rfl, h0⟩ | ⟨g, cap, cur, rfl, -, hb, hc, hm, hcs, ht⟩⟩ := hr
    · exact ⟨none, 0, by rw [h0], fun j x hj => by have := (List.getElem?_eq_some_iff.1 hj).1; omega⟩
    · refine ⟨_, cap, rfl, fun j x hj => ⟨g, rfl, ?_⟩⟩
      have hj' := (List.getElem?_eq_some_iff.1 hj).1
      have h2 : (xs.map (Value.int .i64))[j]? = some (.int .i64 x) := by rw [List.getElem?_map, hj]; rfl
      rw [← ht, List.getElem?_take, if_pos (by omega)] at h2
      rw [cell_blk hb, ← Array.getElem?_toList]
      exact h2
  subst hu
  have HC := (show Hid (∀ (j : Nat) (x : Int), xs[j]? = some x → ∃ g, q = some ⟨g, 0, none⟩ ∧ w.cell? ⟨g, j, none⟩ = some (.int .i64 x)) from hcell)
  have Hn := (show Hid (∀ x ∈ xs, Calls Tryz.prog 97 #[.int .i64 x, .pointer (some ⟨B, 0, none⟩)] w fun e w' => e = .returned (.bool (!(M.at x).isSome)) ∧ w = w') from fun x hx => names1_W hW hB (hwf x hx))
  have Hm := (show Hid (xs.length ≤ 1000000) from hmax)
  clear hcell hr hwf hW hB hmax
  have hi : Calls Tryz.prog 107 #[.slice q xs.length c, .func (.func 97) #[] #[.pointer (some ⟨B, 0, none⟩)]] w fun e w' => (∃ i : Int, e = .returned (.int .i64 i) ∧ (decide (i ≥ 0) = !xs.all fun r => (M.at r).isSome)) ∧ w = w' := by
    go_enter Tryz.func107, Tryz.ntmps107
    go_wp2_with fail
    go_loopw [8] (fun vi wr => ∃ k : Nat, vi = .int .i64 k ∧ k ≤ xs.length ∧ wr = w ∧ Hid (∀ x ∈ xs.take k, (M.at x).isSome = true)) (fun vi _ => xs.length - (intOf vi).toNat)
    case atStart => exact ⟨0, rfl, Nat.zero_le _, rfl, fun x hx => by simp at hx⟩
    case round =>
      obtain ⟨k, rfl, hk, rfl, HI⟩ := hrel
      by_cases hkl : k < xs.length
      · have hkz : (k : Int) < (xs.length : Int) := by omega
        obtain ⟨x, hx⟩ : ∃ x, xs[k]? = some x := ⟨_, List.getElem?_eq_getElem hkl⟩
        obtain ⟨g, rfl, hc⟩ := HC.out k x hx
        have Htk : Hid (xs.take (k + 1) = xs.take k ++ [x]) := by show _ = _; rw [List.take_add_one, hx]; rfl
        have Hmem : Hid (x ∈ xs) := List.mem_of_getElem? hx
        have HN := (show Hid _ from Hn.out x Hmem.out)
        have hk1 : k < 1000000 := by have := Hm.out; omega
        cases hmv : (M.at x).isSome with
        | true =>
          have Hmv := (show Hid _ from hmv)
          rw [hmv] at HN
          clear hx hmv
          go_wp2_with fail
          refine Calls.mono HN.out ?_
          rintro e _ ⟨rfl, rfl⟩
          go_wp2_with fail
          go_roundw
          case rel =>
            refine ⟨k + 1, by go_num, by omega, by first | rfl | trivial, fun y hy => ?_⟩
            rw [Htk.out] at hy
            rcases List.mem_append.1 hy with hy | hy
            · exact HI.out y hy
            · simp at hy
              subst hy
              exact Hmv.out
          case measure =>
            simp [intOf]
            omega
        | false =>
          have Hmv := (show Hid _ from hmv)
          rw [hmv] at HN
          clear hx hmv
          go_wp2_with fail
          refine Calls.mono HN.out ?_
          rintro e _ ⟨rfl, rfl⟩
          go_wp2_with fail
          go_ret
          refine ⟨⟨_, rfl, ?_⟩, rfl⟩
          have h1 : (xs.all fun r => (M.at r).isSome) = false := by
            rw [List.all_eq_false]
            exact ⟨_, Hmem.out, by simp [Hmv.out]⟩
          rw [h1]
          simp
      · have hkz : ¬ (k : Int) < (xs.length : Int) := by omega
        obtain rfl : k = xs.length := by omega
        go_wp2_with fail
        go_ret
        refine ⟨⟨-1, rfl, ?_⟩, rfl⟩
        have h1 : (xs.all fun r => (M.at r).isSome) = true := by
          rw [List.all_eq_true]
          have := HI.out
          rwa [List.take_length] at this
        rw [h1]
        rfl
  have HI := (show Hid _ from hi)
  clear hi
  go_enter Tryz.func95, Tryz.ntmps95
  go_wp2_with fail
  refine Calls.mono HI.out ?_
  rintro e w2 ⟨⟨i, rfl, hi⟩, rfl⟩
  by_cases h0 : i ≥ 0
  · rw [decide_eq_true h0] at hi
    have Hi := (show Hid _ from hi)
    clear hi
    go_wp2_with fail
    go_ret
    exact ⟨by rw [← Hi.out]; rfl, rfl⟩
  · rw [decide_eq_false h0] at hi
    have Hi := (show Hid _ from hi)
    clear hi
    go_wp2_with fail
    go_ret
    exact ⟨by rw [← Hi.out]; show Ending.returned (.bool (decide (0 ≤ i))) = _; rw [decide_eq_false (by omega)], rfl⟩

set_option maxHeartbeats 2000000 in
set_option maxRecDepth 8000 in
theorem names_G (hW : IsW w p M F) {F1 : Nat → Prop} (t : Th) (hD : Lies w F1 t) (hl : t.vs.length ≤ 1024) (hwf : ∀ r ∈ heldL t, (Lit.int .i64 r).wf = true) :
    Calls Tryz.prog 72 #[.pointer (some ⟨p, 0, none⟩), .agg (thc t)] w fun e w' => e = .returned (.bool (namesB M t)) ∧ Below w.heap.size w w' := by
  have hlen : (heldL t).length ≤ 1000000 := by
    have h1 := refsV_le t.v
    have h3 := flat_len hl
    unfold heldL
    rw [List.length_append]
    omega
  have hb2 : Below w.heap.size w ((w.alloc (.cells #[.pointer (some ⟨p, 0, none⟩)] 23)).alloc (.cells (thc t) 42)) := ((Below.refl _ _).alloc (Nat.le_refl _) _).alloc (by simp) _
  have HH := (show Hid _ from And.intro hb2 (held_G t (hD.on hb2) hl))
  have Hl := (show Hid ((heldL t).length ≤ 1000000) from hlen)
  have Hwf := (show Hid (∀ r ∈ heldL t, (Lit.int .i64 r).wf = true) from hwf)
  have HW := (show Hid (IsW w p M F) from hW)
  have hblk := blk2_new w (.cells #[.pointer (some ⟨p, 0, none⟩)] 23) (.cells (thc t) 42)
  have hld := loadWhat_blk hblk rfl
  have Hb := (show Hid _ from blk2_old w (.cells #[.pointer (some ⟨p, 0, none⟩)] 23) (.cells (thc t) 42))
  have hN : ∀ b : Bool, namesB M t = b → ((heldL t).all fun r => (M.at r).isSome) = b := fun b h => h
  generalize heldL t = hs at HH Hl Hwf hN
  clear hD hl hwf hW hlen hb2 hblk
  cases hn : namesB M t with
  | true =>
    have Hn := (show Hid _ from hN _ hn)
    clear hn hN
    simp only [thc] at HH Hb hld ⊢
    go_enter Tryz.func72, Tryz.ntmps72
    go_wp2_with fail
    refine Calls.mono HH.out.2 ?_
    rintro e w1 ⟨u, rfl, hr, hb1⟩
    have HB1 := (show Hid (Below w.heap.size w w1) from HH.out.1.trans (hb1.mono HH.out.1.size))
    have hc := containsRef_G (HW.out.below HB1.out) (below_blk hb1 Hb.out) hs hr Hwf.out Hl.out
    rw [Hn.out] at hc
    have HC := (show Hid _ from hc)
    clear hr hb1 hc
    go_wp2_with fail
    refine Calls.mono HC.out ?_
    rintro e _ ⟨rfl, rfl⟩
    go_wp2_with fail
    go_ret
    exact ⟨rfl, HB1.out⟩
  | false =>
    have Hn := (show Hid _ from hN _ hn)
    clear hn hN
    simp only [thc] at HH Hb hld ⊢
    go_enter Tryz.func72, Tryz.ntmps72
    go_wp2_with fail
    refine Calls.mono HH.out.2 ?_
    rintro e w1 ⟨u, rfl, hr, hb1⟩
    have HB1 := (show Hid (Below w.heap.size w w1) from HH.out.1.trans (hb1.mono HH.out.1.size))
    have hc := containsRef_G (HW.out.below HB1.out) (below_blk hb1 Hb.out) hs hr Hwf.out Hl.out
    rw [Hn.out] at hc
    have HC := (show Hid _ from hc)
    clear hr hb1 hc
    go_wp2_with fail
    refine Calls.mono HC.out ?_
    rintro e _ ⟨rfl, rfl⟩
    go_wp2_with fail
    go_ret
    exact ⟨rfl, HB1.out⟩
end Go.Proofs.YtcoiccbmcjdheaaGreat
