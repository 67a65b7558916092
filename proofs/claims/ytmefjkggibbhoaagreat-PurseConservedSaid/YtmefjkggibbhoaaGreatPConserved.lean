/- PurseConserved: for every number of mints and every script the law returns true. No condition beyond what the given statement says of its arguments. -/
import Derived.Test.YtmefjkggibbhoaaGreatRows
import Derived.Test.YtmefjkggibbhoaaGreatmAZ
import Derived.Test.YtmefjkggibbhoaaGreatmAV
import Derived.Deep.Slices
import Derived.Lib.SmallJoins
import Derived.WalkKit
import Derived.ProofKit
import Derived.OpenShut
import Derived.ChangeSame
import Derived.RowKit
namespace Go.Proofs.YtmefjkggibbhoaaGreat.purseConserved
open Go.ChangeShapes Go.WideShapes Go.ChangeAt Go.RowKit Go.Joins

theorem wf_u8_inv {y : Int} (h : (Lit.int .u8 y).wf = true) : 0 ≤ y ∧ y ≤ 255 := by
  simp [Lit.wf, IntKind.min, IntKind.max, IntKind.signed, IntKind.bits] at h
  omega
theorem own : ownKnob Tryz.prog.godebug = none := by kernel_rfl
theorem cellsTrade : Tryz.prog.cellsOf 80 = 4 := by kernel_rfl

/-- One trade, from its cells. -/
theorem open_trd {H : Type} {enc : TypeId × Value → H} {P : Program} {e : TypeId} {W : World} {base : Nat} {sp : Nat → Bool} {held : Bool} {f0 f1 f2 f3 : Field} (he : P.underlying e = some (.struct #[f0, f1, f2, f3]))
    (ce : P.cellsOf e = 4) (o0 : f0.offset = 0) (o1 : f1.offset = 1) (o2 : f2.offset = 2) (o3 : f3.offset = 3) (c0 : P.cellsOf f0.type = 1) (c1 : P.cellsOf f1.type = 1) (c2 : P.cellsOf f2.type = 1) (c3 : P.cellsOf f3.type = 1)
    (k0 : P.underlying f0.type = some (.int .i64)) (k1 : P.underlying f1.type = some (.int .i64)) (k2 : P.underlying f2.type = some (.int .i64)) (k3 : P.underlying f3.type = some (.int .i64))
    {n : Nat} {cs : List Value} {x : DataW H × List MemPlace} (h : DataW.trod enc P W base sp held n e cs = some x) :
    ∃ t : Trd, cs = trc t ∧ (Lit.int .i64 t.2.1).wf = true ∧ (Lit.int .i64 t.2.2.1).wf = true := by
  obtain ⟨xs, k, -, -, hl, hxl, hf⟩ := DataW.trod_struct he h
  rw [ce] at hl
  match xs, hxl, cs, hl with
  | [y0, y1, y2, y3], _, [v0, v1, v2, v3], _ =>
    have g0 := hf 0 f0 rfl
    have g1 := hf 1 f1 rfl
    have g2 := hf 2 f2 rfl
    have g3 := hf 3 f3 rfl
    simp [o0, o1, o2, o3, c0, c1, c2, c3] at g0 g1 g2 g3
    obtain ⟨a, e0, -, -⟩ := DataW.trod_int k0 g0
    obtain ⟨b, e1, -, w1⟩ := DataW.trod_int k1 g1
    obtain ⟨c, e2, -, w2⟩ := DataW.trod_int k2 g2
    obtain ⟨d, e3, -, -⟩ := DataW.trod_int k3 g3
    simp at e0 e1 e2 e3
    exact ⟨(a, b, c, d), by simp [trc, e0, e1, e2, e3], w1, w2⟩
/-- The script. -/
theorem open_script {H : Type} {enc : TypeId × Value → H} {P : Program} {t e : TypeId} {W : World} {base : Nat} {held : Bool} (ht : P.underlying t = some (.slice e)) (ce : P.cellsOf e = 4)
    (one : ∀ (n : Nat) (cs : List Value) (x : DataW H × List MemPlace), DataW.trod enc P W base (fun _ => true) held n e cs = some x → ∃ t : Trd, cs = trc t ∧ (Lit.int .i64 t.2.1).wf = true ∧ (Lit.int .i64 t.2.2.1).wf = true)
    {r : Reach} {b0 : Nat} {v : Value} (hval : Value.okWide P W r b0 t v) {d : DataW H} {ps : List MemPlace} (hd : DataW.Trod enc P W base (fun _ => true) held t v d ps) :
    ∃ (pa : Option Addr) (c : Nat) (ts : List Trd), v = .slice pa ts.length c ∧ (∀ t ∈ ts, (Lit.int .i64 t.2.1).wf = true ∧ (Lit.int .i64 t.2.2.1).wf = true) ∧ TrArg W pa ts := by
  obtain ⟨fuel, hf⟩ := hd
  obtain ⟨a0, len, cap, rfl⟩ := okWide_slice ht hval
  rcases Go.Deep.open_slice ht hf with ⟨hcs, -⟩ | ⟨a, len', cap', m, n, D, Pl, hcs, -, hl, -, hm, -, hx⟩
  · simp [Value.cells] at hcs
    obtain ⟨rfl, rfl, rfl⟩ := hcs
    exact ⟨none, 0, [], rfl, by simp, .inl rfl⟩
  · simp [Value.cells] at hcs
    obtain ⟨rfl, rfl, rfl⟩ := hcs
    simp only [if_true] at hm
    subst hm
    have each : ∀ i, i < len → ∃ q : Trd, (∀ j v, (trc q)[j]? = some v → W.cell? ((a.add (i * 4)).add j) = some v) ∧ (Lit.int .i64 q.2.1).wf = true ∧ (Lit.int .i64 q.2.2.1).wf = true := by
      intro i hi
      obtain ⟨cs', h1, h2⟩ := hx i (by omega)
      rw [ce] at h1
      obtain ⟨_, hlen, hcell⟩ := World.cells?_some h1
      obtain ⟨q, rfl, w1, w2⟩ := one _ _ _ h2
      refine ⟨q, fun j v hj => ?_, w1, w2⟩
      rw [hcell j (by have := (List.getElem?_eq_some_iff.1 hj).1; rwa [hlen] at this)]
      exact hj
    obtain ⟨q, hq⟩ := Go.Deep.choose_lt each
    refine ⟨some a, m, (List.range len).map q, by simp, fun t ht => ?_, ?_⟩
    · obtain ⟨i, hi, rfl⟩ := List.mem_map.1 ht
      exact (hq i (List.mem_range.1 hi)).2
    · by_cases h0 : len = 0
      · subst h0
        exact .inl rfl
      · right
        have c0 := (hq 0 (by omega)).1 0 (.int .i64 (q 0).1) rfl
        obtain ⟨b, off, spot⟩ := a
        have hspot : spot = none := by simpa [Addr.add] using World.cell?_spot c0
        subst hspot
        refine ⟨b, off, rfl, ?_, fun j t hj => ?_⟩
        · have := World.block_lt_of_cell? _ _ c0
          simpa [Addr.add] using this
        · rw [List.getElem?_map, Option.map_eq_some_iff] at hj
          obtain ⟨i, hi, rfl⟩ := hj
          have hi' : j < len := by
            have := (List.getElem?_eq_some_iff.1 hi).1
            simpa using this
          rw [List.getElem?_range hi'] at hi
          cases hi
          intro l v hv
          have := (hq j hi').1 l v hv
          rw [Addr.add_mid, Addr.add_mid] at this
          exact this

set_option maxRecDepth 100000 in
theorem lifted (os : Os) (started : os.Started) (H : Type) (enc : TypeId × Value → H) :
    ReturnsInHanded {} Tryz.checked os 6 .any (Rows.purseConservedSpec.pre6 enc Tryz.prog Tryz.f6 Rows.purseConservedRow.domain false) (Rows.purseConservedSpec.post enc Tryz.prog Tryz.f6 false true false false) := by
  refine returnsInHanded_of_change (C := Tryz.checked) own started (by kernel_rfl) Tryz.func6
    (ChangeSpec.witness6 (enc := enc) (C := Tryz.checked) false ⟨#[], #[.int .u8 0, .slice none 0 0], []⟩ 8 (by kernel_rfl) (by kernel_rfl) (by kernel_rfl) (by kernel_rfl)) ?_
  intro W base args ds gs before hval0 hW _ _
  have hval : ∀ (j : Nat) t v, Tryz.f6.params[j]? = some t → args[j]? = some v → Value.okWide Tryz.prog W .any base t v := hval0
  have hW' := hW
  obtain ⟨p, q, hA0, hV, rfl, _, _⟩ := hW
  have hA : DataW.TrodAll enc Tryz.prog W 0 (fun _ => true) true Tryz.f6.params.toList args.toList ds p := hA0
  rw [Tryz.params6] at hA hval
  obtain ⟨v0, v1, d0, d1, p0, p1, rfl, rfl, rfl, h0, h1⟩ := trodAll_two hA
  obtain ⟨rfl, rfl⟩ := trodVars_none hV
  clear hA0 hval0
  simp only [List.append_nil] at hW'
  have hlt : ∀ x ∈ p0 ++ p1, x.block < W.heap.size := fun x hx => by simpa using hW'.lt x (by simpa using hx)
  obtain ⟨mc, e0, -, -, w0⟩ := open_int Tryz.underlying5 (hval 0 5 v0 rfl rfl) h0
  subst e0
  obtain ⟨sa, cs, ts, rfl, hzw, hz⟩ := open_script Tryz.underlying76 cellsTrade (fun n cs x h => open_trd Tryz.underlying80 cellsTrade rfl rfl rfl rfl (by kernel_rfl) (by kernel_rfl) (by kernel_rfl) (by kernel_rfl) Tryz.underlying3 Tryz.underlying3 Tryz.underlying3 Tryz.underlying2 h) (hval 1 76 v1 rfl rfl) h1
  refine (con_W W mc (wf_u8_inv w0) sa ts.length cs ts hz hzw rfl).mono fun e W' ⟨he, hb⟩ => ?_
  subst he
  have g0 := Below.trod Tryz.laidOut (by kernel_rfl) (of_decide_eq_true (by kernel_rfl)) h0 hb (fun x hx => hlt x (List.mem_append_left _ hx))
  have g1 := Below.trod Tryz.laidOut (by kernel_rfl) (of_decide_eq_true (by kernel_rfl)) h1 hb (fun x hx => hlt x (List.mem_append_right _ hx))
  exact ⟨_, rfl, ⟨_, _, _, [], _, [], hW', trodAll_mk1 (shut_bool Tryz.underlying4 _), trodAll_mk2 g0 g1, rfl, hb.frame _, fun h => by cases h⟩⟩

theorem over : Rows.purseConservedRow.holds Tryz.pinned (OpenSpec.ofChange Rows.purseConservedSpec) :=
  OpenClaim.holds_of_wide 6 Tryz.f6 rfl rfl rfl rfl rfl rfl rfl ⟨rfl, rfl, rfl, rfl, rfl⟩ rfl rfl rfl rfl rfl (by kernel_rfl) Tryz.func6 (by kernel_rfl)
    (of_decide_eq_true (by kernel_rfl)) (by unfold Func.isWrapper; first | (rw [if_pos (by decide +kernel)]; kernel_rfl) | (rw [if_neg (by decide +kernel)]; exact ⟨rfl, rfl⟩))
    (fun os started H enc _ => lifted os started H enc)

theorem purseConserved_holds : Rows.PurseConservedSaid := over
#print axioms purseConserved_holds
end Go.Proofs.YtmefjkggibbhoaaGreat.purseConserved
