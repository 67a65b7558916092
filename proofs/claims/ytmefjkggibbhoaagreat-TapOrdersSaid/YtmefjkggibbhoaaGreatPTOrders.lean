/- TapOrders: for every tower, all passes and all exchanges the law returns true. No condition beyond what the given statement says of its arguments. -/
import Derived.Test.YtmefjkggibbhoaaGreatRows
import Derived.Test.YtmefjkggibbhoaaGreatmBB
import Derived.Test.YtmefjkggibbhoaaGreatmAU
import Derived.Lib.SmallJoins
import Derived.WalkKit
import Derived.ProofKit
import Derived.OpenShut
import Derived.ChangeSame
import Derived.RowKit
namespace Go.Proofs.YtmefjkggibbhoaaGreat.tapOrders
open Go.ChangeShapes Go.WideShapes Go.ChangeAt Go.RowKit Go.Joins

theorem wf_u8_inv {y : Int} (h : (Lit.int .u8 y).wf = true) : 0 ≤ y ∧ y ≤ 255 := by
  simp [Lit.wf, IntKind.min, IntKind.max, IntKind.signed, IntKind.bits] at h
  omega
theorem own : ownKnob Tryz.prog.godebug = none := by kernel_rfl
theorem cellsU8 : Tryz.prog.cellsOf 5 = 1 := by kernel_rfl
theorem cellsTower : Tryz.prog.cellsOf 24 = 2 := by kernel_rfl

/-- A slice of whole numbers in one cell of a struct. -/
theorem open_cell {H : Type} {enc : TypeId × Value → H} {P : Program} {t e : TypeId} {k : IntKind} {W : World} {base : Nat} {held : Bool} (ht : P.underlying t = some (.slice e)) (he : P.underlying e = some (.int k)) (hc : P.cellsOf e = 1)
    {n : Nat} {cell : Value} {x : DataW H × List MemPlace} (hf : DataW.trod enc P W base (fun _ => true) held n t [cell] = some x) :
    ∃ (pa : Option Addr) (c : Nat) (xs : List Int), cell = .slice pa xs.length c ∧ (∀ x ∈ xs, (Lit.int k x).wf = true) ∧ IntArg k W pa xs := by
  rcases open_ints ht he hc hf with ⟨hcs, hx⟩ | ⟨a, len', cap', zs, hcs, _, hl, hm, hz, hx, hcell, hwz⟩
  · simp at hcs
    subst hcs
    exact ⟨none, 0, [], rfl, by simp, .inl rfl⟩
  · simp at hcs
    subst hcs
    simp only [if_true] at hz
    have hlen : (zs.take len').length = len' := by simp; omega
    refine ⟨some a, cap', zs.take len', by rw [hlen], fun x hx => hwz x (List.mem_of_mem_take hx), ?_⟩
    by_cases h0 : len' = 0
    · subst h0
      exact .inl rfl
    · right
      obtain ⟨b, off, spot⟩ := a
      have c0 := hcell 0 (by omega)
      have hspot : spot = none := by simpa [Addr.add] using World.cell?_spot c0
      subst hspot
      refine ⟨b, off, rfl, ?_, fun j x hj => ?_⟩
      · have := World.block_lt_of_cell? _ _ c0
        simpa [Addr.add] using this
      · have hj' := (List.getElem?_eq_some_iff.1 hj).1
        rw [hlen] at hj'
        rw [List.getElem?_take, if_pos hj'] at hj
        have hadd : (⟨b, off, none⟩ : Addr).add j = ⟨b, off + j, none⟩ := by unfold Addr.add; split <;> simp_all
        have := hcell j (by omega)
        rw [hadd] at this
        rw [this, List.getD_eq_getElem?_getD, hj]
        rfl

set_option maxRecDepth 100000 in
theorem lifted (os : Os) (started : os.Started) (H : Type) (enc : TypeId × Value → H) :
    ReturnsInHanded {} Tryz.checked os 5 .any (Rows.tapOrdersSpec.pre6 enc Tryz.prog Tryz.f5 Rows.tapOrdersRow.domain false) (Rows.tapOrdersSpec.post enc Tryz.prog Tryz.f5 false true false false) := by
  refine returnsInHanded_of_change (C := Tryz.checked) own started (by kernel_rfl) Tryz.func5
    (ChangeSpec.witness6 (enc := enc) (C := Tryz.checked) false ⟨#[], #[.agg #[.slice none 0 0, .slice none 0 0], .slice none 0 0], []⟩ 8 (by kernel_rfl) (by kernel_rfl) (by kernel_rfl) (by kernel_rfl)) ?_
  intro W base args ds gs before hval0 hW _ _
  have hval : ∀ (j : Nat) t v, Tryz.f5.params[j]? = some t → args[j]? = some v → Value.okWide Tryz.prog W .any base t v := hval0
  have hW' := hW
  obtain ⟨p, q, hA0, hV, rfl, _, _⟩ := hW
  have hA : DataW.TrodAll enc Tryz.prog W 0 (fun _ => true) true Tryz.f5.params.toList args.toList ds p := hA0
  rw [Tryz.params5] at hA hval
  obtain ⟨v0, v1, d0, d1, p0, p1, rfl, rfl, rfl, h0, h1⟩ := trodAll_two hA
  obtain ⟨rfl, rfl⟩ := trodVars_none hV
  clear hA0 hval0
  simp only [List.append_nil] at hW'
  have hlt : ∀ x ∈ p0 ++ p1, x.block < W.heap.size := fun x hx => by simpa using hW'.lt x (by simpa using hx)
  have h0' := h0
  obtain ⟨c0, c1, y0, y1, m, rfl, rfl, rfl, hy0, hy1⟩ := open_agg2 Tryz.underlying24 (by kernel_rfl) cellsTower (hval 0 24 v0 rfl rfl) h0
  obtain ⟨la, ca, xs, rfl, hxw, hx⟩ := open_cell Tryz.underlying22 Tryz.underlying5 cellsU8 hy0
  obtain ⟨qa, cb, ys, rfl, hyw, hy⟩ := open_cell Tryz.underlying22 Tryz.underlying5 cellsU8 hy1
  obtain ⟨sa, cs, zs, rfl, -, hzw, hz⟩ := open_nums Tryz.underlying22 Tryz.underlying5 cellsU8 (hval 1 22 v1 rfl rfl) h1
  refine (orders_W W la qa sa ca xs.length cb ys.length cs zs.length xs ys zs hx (fun x h => wf_u8_inv (hxw x h)) rfl hy (fun x h => wf_u8_inv (hyw x h)) rfl hz (fun x h => wf_u8_inv (hzw x h)) rfl).mono fun e W' ⟨he, hb⟩ => ?_
  subst he
  have g0 := Below.trod Tryz.laidOut (by kernel_rfl) (of_decide_eq_true (by kernel_rfl)) h0' hb (fun x hx => hlt x (List.mem_append_left _ hx))
  have g1 := Below.trod Tryz.laidOut (by kernel_rfl) (of_decide_eq_true (by kernel_rfl)) h1 hb (fun x hx => hlt x (List.mem_append_right _ hx))
  exact ⟨_, rfl, ⟨_, _, _, [], _, [], hW', trodAll_mk1 (shut_bool Tryz.underlying4 _), trodAll_mk2 g0 g1, rfl, hb.frame _, fun h => by cases h⟩⟩

theorem over : Rows.tapOrdersRow.holds Tryz.pinned (OpenSpec.ofChange Rows.tapOrdersSpec) :=
  OpenClaim.holds_of_wide 5 Tryz.f5 rfl rfl rfl rfl rfl rfl rfl ⟨rfl, rfl, rfl, rfl, rfl⟩ rfl rfl rfl rfl rfl (by kernel_rfl) Tryz.func5 (by kernel_rfl)
    (of_decide_eq_true (by kernel_rfl)) (by unfold Func.isWrapper; first | (rw [if_pos (by decide +kernel)]; kernel_rfl) | (rw [if_neg (by decide +kernel)]; exact ⟨rfl, rfl⟩))
    (fun os started H enc _ => lifted os started H enc)

theorem tapOrders_holds : Rows.TapOrdersSaid := over
#print axioms tapOrders_holds
end Go.Proofs.YtmefjkggibbhoaaGreat.tapOrders
