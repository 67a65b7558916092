/- A part of the proof, several texts in one: OpenV. -/
import Derived.Test.YtcoiccbmcjdheaaGreatmBU
import Derived.Test.YtcoiccbmcjdheaaGreatmAC
/- Arguments of a law that are values or slices of values: what the walk is given. -/
namespace Go.Proofs.YtcoiccbmcjdheaaGreat
open Go.ChangeShapes Go.WideShapes Go.ChangeAt Go.RowKit

theorem cellsV : Tryz.prog.cellsOf 34 = 5 := by kernel_rfl
theorem cellsVKind : Tryz.prog.cellsOf 32 = 1 := by kernel_rfl
theorem cellsI64 : Tryz.prog.cellsOf 2 = 1 := by kernel_rfl
theorem cellsStr : Tryz.prog.cellsOf 9 = 1 := by kernel_rfl
theorem cellsLV : Tryz.prog.cellsOf 22 = 1 := by kernel_rfl
theorem cellsRef : Tryz.prog.cellsOf 28 = 1 := by kernel_rfl
theorem addr_add (b o i : Nat) : (⟨b, o, none⟩ : Addr).add i = ⟨b, o + i, none⟩ := by unfold Addr.add; split <;> simp_all

set_option maxRecDepth 100000 in
theorem trod_vals {H : Type} {enc : TypeId × Value → H} {W : World} {base : Nat} {held : Bool} {spare : Nat → Bool} : ∀ fuel : Nat,
    (∀ cs x, DataW.trod enc Tryz.prog W base spare held fuel 22 cs = some x → ∃ s l, cs = [s] ∧ SlAt W (fun b => b < W.heap.size) s l ∧ (l.length : Int) ≤ maxLen ∧ ∃ pa c, s = .slice pa l.length c ∧ l.length ≤ c) ∧
    (∀ cs x, DataW.trod enc Tryz.prog W base spare held fuel 34 cs = some x → ∃ v raw, cs = (vcs v raw).toList ∧ SlAt W (fun b => b < W.heap.size) raw v.l) := by
  intro fuel
  induction fuel with
  | zero => exact ⟨fun cs x h => by simp [DataW.trod] at h, fun cs x h => by simp [DataW.trod] at h⟩
  | succ n ih =>
    refine ⟨fun cs x h => ?_, fun cs x h => ?_⟩
    · rcases DataW.trod_slice Tryz.underlying22 h with ⟨rfl, -⟩ | ⟨a, len, cap, elems, rest, m, hm, rfl, rfl, hb, hl, hc, hlen, hel, -, -⟩
      · exact ⟨_, [], rfl, SlAt.nil _ _ _ _, by simp [maxLen], _, _, rfl, Nat.le_refl _⟩
      · cases hm
        have each : ∀ i, i < len → ∃ v raw, SlAt W (fun b => b < W.heap.size) raw v.l ∧ ∀ k, k < 5 → W.cell? ((a.add (i * 5)).add k) = (vcs v raw)[k]? := fun i hi => by
          have h1 := hel i hi
          rw [List.getElem?_eq_getElem (by omega), Option.bind_eq_some_iff] at h1
          obtain ⟨cs', h2, h3⟩ := h1
          obtain ⟨v, raw, rfl, hS⟩ := ih.2 _ _ h3
          rw [cellsV] at h2
          obtain ⟨-, -, h4⟩ := World.cells?_some h2
          exact ⟨v, raw, hS, fun k hk => (h4 k hk).trans (by simp)⟩
        by_cases h0 : len = 0
        · subst h0
          exact ⟨_, [], rfl, SlAt.nil _ _ _ _, by simp, _, _, rfl, Nat.zero_le _⟩
        obtain ⟨b, o, rfl⟩ : ∃ b o, a = ⟨b, o, none⟩ := by
          obtain ⟨v, raw, -, h1⟩ := each 0 (by omega)
          have c0 : W.cell? ((a.add (0 * 5)).add 0) = some (.int .u8 v.kind) := h1 0 (by omega)
          obtain ⟨b, o, sp⟩ := a
          have hs : sp = none := by simpa [Addr.add] using World.cell?_spot c0
          exact ⟨b, o, by rw [hs]⟩
        have key : ∀ i, ∃ p : Val × Value, i < len → SlAt W (fun b => b < W.heap.size) p.2 p.1.l ∧ ∀ k, k < 5 → W.cell? ⟨b, o + 5 * i + k, none⟩ = (vcs p.1 p.2)[k]? := fun i => by
          by_cases hi : i < len
          · obtain ⟨v, raw, h1, h2⟩ := each i hi
            refine ⟨(v, raw), fun _ => ⟨h1, fun k hk => ?_⟩⟩
            have := h2 k hk
            rw [addr_add, addr_add, Nat.mul_comm i 5] at this
            exact this
          · exact ⟨(⟨0, 0, ⟨#[]⟩, [], 0⟩, undef), fun h => absurd h hi⟩
        obtain ⟨f, hf⟩ := Classical.axiomOfChoice key
        have hS : SlAt W (fun b => b < W.heap.size) (.slice (some ⟨b, o, none⟩) ((List.range len).map fun i => (f i).1).length cap) ((List.range len).map fun i => (f i).1) := by
          refine SlAt.mk _ _ _ (fun i => (f i).2) (fun i v hv => ?_) (fun i v hv => ?_)
          · have hi := (List.getElem?_eq_some_iff.1 hv).1
            simp only [List.length_map, List.length_range] at hi
            have hv' : v = (f i).1 := by
              simp [List.getElem?_map, List.getElem?_range hi] at hv
              exact hv.symm
            subst hv'
            obtain ⟨h1, h2⟩ := hf i hi
            have c0 := h2 0 (by omega)
            exact ⟨b, o, rfl, World.block_lt_of_cell? _ ⟨b, o + 5 * i + 0, none⟩ c0, c0, h2 1 (by omega), h2 2 (by omega), h2 3 (by omega), h2 4 (by omega)⟩
          · have hi := (List.getElem?_eq_some_iff.1 hv).1
            simp only [List.length_map, List.length_range] at hi
            have hv' : v = (f i).1 := by
              simp [List.getElem?_map, List.getElem?_range hi] at hv
              exact hv.symm
            subst hv'
            exact (hf i hi).1
        have e : ((List.range len).map fun i => (f i).1).length = len := by simp
        rw [e] at hS
        exact ⟨.slice (some ⟨b, o, none⟩) len cap, _, rfl, hS, by rw [e]; omega, _, _, by rw [e], by rw [e]; exact hl⟩
    · obtain ⟨xs, m, hm, rfl, hlen, hxs, hfs⟩ := DataW.trod_struct Tryz.underlying34 h
      cases hm
      rw [cellsV] at hlen
      match cs, hlen with
      | [c0, c1, c2, c3, c4], _ =>
        have hx : xs.length = 5 := hxs
        have g0 : DataW.trod enc Tryz.prog W base spare held n 32 [c0] = some (xs[0]'(by omega)) := by
          have g := hfs 0 _ rfl
          rw [List.getElem?_eq_getElem (by omega)] at g
          rw [← g]
          show _ = DataW.trod enc Tryz.prog W base spare held n 32 ([c0, c1, c2, c3, c4].take (Tryz.prog.cellsOf 32))
          rw [cellsVKind]
          rfl
        have g1 : DataW.trod enc Tryz.prog W base spare held n 2 [c1] = some (xs[1]'(by omega)) := by
          have g := hfs 1 _ rfl
          rw [List.getElem?_eq_getElem (by omega)] at g
          rw [← g]
          show _ = DataW.trod enc Tryz.prog W base spare held n 2 ([c1, c2, c3, c4].take (Tryz.prog.cellsOf 2))
          rw [cellsI64]
          rfl
        have g2 : DataW.trod enc Tryz.prog W base spare held n 9 [c2] = some (xs[2]'(by omega)) := by
          have g := hfs 2 _ rfl
          rw [List.getElem?_eq_getElem (by omega)] at g
          rw [← g]
          show _ = DataW.trod enc Tryz.prog W base spare held n 9 ([c2, c3, c4].take (Tryz.prog.cellsOf 9))
          rw [cellsStr]
          rfl
        have g3 : DataW.trod enc Tryz.prog W base spare held n 22 [c3] = some (xs[3]'(by omega)) := by
          have g := hfs 3 _ rfl
          rw [List.getElem?_eq_getElem (by omega)] at g
          rw [← g]
          show _ = DataW.trod enc Tryz.prog W base spare held n 22 ([c3, c4].take (Tryz.prog.cellsOf 22))
          rw [cellsLV]
          rfl
        have g4 : DataW.trod enc Tryz.prog W base spare held n 28 [c4] = some (xs[4]'(by omega)) := by
          have g := hfs 4 _ rfl
          rw [List.getElem?_eq_getElem (by omega)] at g
          rw [← g]
          show _ = DataW.trod enc Tryz.prog W base spare held n 28 ([c4].take (Tryz.prog.cellsOf 28))
          rw [cellsRef]
          rfl
        obtain ⟨k, e0, -, -⟩ := DataW.trod_int Tryz.underlying32 g0
        obtain ⟨m, e1, -, -⟩ := DataW.trod_int Tryz.underlying2 g1
        obtain ⟨s, e2, -, -⟩ := DataW.trod_string Tryz.underlying9 g2
        obtain ⟨raw, l, e3, hS, -, -⟩ := ih.1 _ _ g3
        obtain ⟨r, e4, -, -⟩ := DataW.trod_int Tryz.underlying28 g4
        cases e0; cases e1; cases e2; cases e3; cases e4
        exact ⟨⟨k, m, s, l, r⟩, _, rfl, hS⟩

set_option maxRecDepth 100000 in
/-- An argument that is a slice of values. -/
theorem open_vals {H : Type} {enc : TypeId × Value → H} {W : World} {base : Nat} {r : Reach} {b0 : Nat} {v : Value} (hval : Value.okWide Tryz.prog W r b0 22 v) {d : DataW H} {ps : List MemPlace} (hd : DataW.Trod enc Tryz.prog W base (fun _ => true) true 22 v d ps) :
    ∃ l pa c, v = .slice pa l.length c ∧ l.length ≤ c ∧ SlAt W (fun b => b < W.heap.size) (.slice pa l.length c) l ∧ (l.length : Int) ≤ maxLen := by
  obtain ⟨fuel, hf⟩ := hd
  obtain ⟨a0, len, cap, rfl⟩ := okWide_slice Tryz.underlying22 hval
  obtain ⟨s, l, h1, h2, h3, pa, c, e, h4⟩ := (trod_vals fuel).1 _ _ hf
  have h5 : Value.slice a0 len cap = s := by simpa [Value.cells] using h1
  subst h5
  rw [e] at h2
  exact ⟨l, pa, c, e, h4, h2, h3⟩
set_option maxRecDepth 100000 in
/-- An argument that is a value. -/
theorem open_val {H : Type} {enc : TypeId × Value → H} {W : World} {base : Nat} {r : Reach} {b0 : Nat} {v : Value} (hval : Value.okWide Tryz.prog W r b0 34 v) {d : DataW H} {ps : List MemPlace} (hd : DataW.Trod enc Tryz.prog W base (fun _ => true) true 34 v d ps) :
    ∃ x raw, v = .agg (vcs x raw) ∧ SlAt W (fun b => b < W.heap.size) raw x.l := by
  obtain ⟨fuel, hf⟩ := hd
  simp only [Value.okWide, Tryz.underlying34] at hval
  obtain ⟨xs, rfl, hn, _⟩ := hval
  obtain ⟨x, raw, h1, h2⟩ := (trod_vals fuel).2 _ _ hf
  exact ⟨x, raw, congrArg Value.agg (Array.toList_inj.1 h1), h2⟩
end Go.Proofs.YtcoiccbmcjdheaaGreat
