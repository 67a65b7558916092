/- Arguments of a law that are slices or arrays of whole numbers: what the walk is given. -/
import Derived.Test.YtmefjkggibbhoaaNewW
import Derived.WalkKit
import Derived.ProofKit
import Derived.OpenShut
import Derived.ChangeSame
import Derived.ChangeSlices
import Derived.Carry
import Derived.RowKit
namespace Go.Proofs.Ytmefjkggibbhoaa
open Go.ChangeShapes Go.WideShapes Go.ChangeAt Go.RowKit

/-- The whole numbers that a slice holds. -/
def IntArg (k : IntKind) (w : World) (pa : Option Addr) (xs : List Int) : Prop :=
  xs = [] ∨ ∃ b o, pa = some ⟨b, o, none⟩ ∧ b < w.heap.size ∧ ∀ (j : Nat) (x : Int), xs[j]? = some x → w.cell? ⟨b, o + j, none⟩ = some (.int k x)
theorem IntArg.side {w : World} {pa : Option Addr} {xs : List Int} (h : IntArg .i64 w pa xs) : SideArg w pa xs := by
  rcases h with h | ⟨b, o, h1, -, h3⟩
  · exact .inl h
  · exact .inr ⟨b, o, h1, h3⟩

theorem open_arr3 {H : Type} {enc : TypeId × Value → H} {P : Program} {k e : TypeId} {q : IntKind} {W : World} {base : Nat} {sp : Nat → Bool} {held : Bool} (hu : P.underlying k = some (.array 3 e)) (he : P.underlying e = some (.int q)) (hc : P.cellsOf e = 1)
    {r : Reach} {b0 : Nat} {v : Value} (hk : P.cellsOf k = 3) (hval : Value.okWide P W r b0 k v) {d : DataW H} {ps : List MemPlace} (hd : DataW.Trod enc P W base sp held k v d ps) :
    ∃ a b c : Int, v = .agg #[.int q a, .int q b, .int q c] := by
  simp only [Value.okWide, hu] at hval
  obtain ⟨xs, rfl, hn, _⟩ := hval
  rw [hk] at hn
  obtain ⟨fuel, hf⟩ := hd
  cases fuel with
  | zero => simp [DataW.trod] at hf
  | succ m =>
    rw [DataW.trod_step] at hf
    unfold DataW.trodStep at hf
    simp only [hu, Value.cells] at hf
    rw [if_pos (by rw [hk]; simpa using hn)] at hf
    simp only [Option.map_eq_some_iff] at hf
    obtain ⟨ys, hy, -⟩ := hf
    rw [hc, show List.range 3 = [0, 1, 2] from rfl] at hy
    obtain ⟨l⟩ := xs
    match l, hn with
    | [x, y, z], _ =>
      simp only [List.mapM_cons, bind, Option.bind_eq_some_iff] at hy
      obtain ⟨u0, h0, _, ⟨u1, h1, _, ⟨u2, h2, _⟩, _⟩, _⟩ := hy
      obtain ⟨a, ha, -, -⟩ := DataW.trod_int he h0
      obtain ⟨b, hb, -, -⟩ := DataW.trod_int he h1
      obtain ⟨c, hc', -, -⟩ := DataW.trod_int he h2
      simp at ha hb hc'
      exact ⟨a, b, c, by rw [ha, hb, hc']⟩

/-- A slice of whole numbers, as the walks want it. -/
theorem open_nums {H : Type} {enc : TypeId × Value → H} {P : Program} {t e : TypeId} {k : IntKind} {W : World} {base : Nat} {held : Bool} (ht : P.underlying t = some (.slice e)) (he : P.underlying e = some (.int k)) (hc : P.cellsOf e = 1)
    {r : Reach} {b0 : Nat} {v : Value} (hval : Value.okWide P W r b0 t v) {d : DataW H} {ps : List MemPlace} (hd : DataW.Trod enc P W base (fun _ => true) held t v d ps) :
    ∃ (pa : Option Addr) (c : Nat) (xs : List Int), v = .slice pa xs.length c ∧ (xs.length : Int) ≤ maxLen ∧ (∀ x ∈ xs, (Lit.int k x).wf = true) ∧
      IntArg k W pa xs := by
  obtain ⟨fuel, hf⟩ := hd
  obtain ⟨a0, len, cap, rfl⟩ := okWide_slice ht hval
  rcases open_ints ht he hc hf with ⟨hcs, hx⟩ | ⟨a, len', cap', zs, hcs, _, hl, hm, hz, hx, hcell, hwz⟩
  · simp [Value.cells] at hcs
    obtain ⟨rfl, rfl, rfl⟩ := hcs
    exact ⟨none, 0, [], rfl, by unfold maxLen; simp, by simp, .inl rfl⟩
  · simp [Value.cells] at hcs
    obtain ⟨rfl, rfl, rfl⟩ := hcs
    simp only [if_true] at hz
    have hlen : (zs.take len).length = len := by simp; omega
    refine ⟨some a, cap, zs.take len, by rw [hlen], ?_, fun x hx => hwz x (List.mem_of_mem_take hx), ?_⟩
    · rw [hlen]
      omega
    by_cases h0 : len = 0
    · subst h0
      exact .inl rfl
    · right
      obtain ⟨b, off, spot⟩ := a
      have c0 := hcell 0 (by omega)
      have hspot : spot = none := by simpa [Addr.add] using World.cell?_spot c0
      subst hspot
      refine ⟨b, off, rfl, ?_, fun j x hj => ?_⟩
      · have := World.block_lt_of_cell? _ _ c0
        simpa [Addr.add] using this
      · have hj' := (List.getElem?_eq_some_iff.1 hj).1
        rw [hlen] at hj'
        rw [List.getElem?_take, if_pos hj'] at hj
        have hadd : (⟨b, off, none⟩ : Addr).add j = ⟨b, off + j, none⟩ := by unfold Addr.add; split <;> simp_all
        have := hcell j (by omega)
        rw [hadd] at this
        rw [this, List.getD_eq_getElem?_getD, hj]
        rfl
end Go.Proofs.Ytmefjkggibbhoaa
