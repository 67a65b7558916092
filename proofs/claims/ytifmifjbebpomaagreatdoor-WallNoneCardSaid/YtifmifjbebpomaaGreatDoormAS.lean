/- A part of the proof, several texts in one: OpenV, VWf, OpenW, WaQ, WaI. -/
import Derived.Test.YtifmifjbebpomaaGreatDoormAQ
import Derived.Test.YtifmifjbebpomaaGreatDoormAR
import Derived.Test.YtifmifjbebpomaaGreatDoormAC
import Derived.Test.YtifmifjbebpomaaGreatDoormAG
import Derived.Test.YtifmifjbebpomaaGreatDoormAI
import Derived.RangeFuncBox
/- Arguments of a law that are values or slices of values: what the walk is given. -/
namespace Go.Proofs.YtifmifjbebpomaaGreatDoor
open Go.ChangeShapes Go.WideShapes Go.ChangeAt Go.RowKit

theorem cellsV : Tryz.prog.cellsOf 29 = 5 := by kernel_rfl
theorem cellsVKind : Tryz.prog.cellsOf 26 = 1 := by kernel_rfl
theorem cellsI64 : Tryz.prog.cellsOf 2 = 1 := by kernel_rfl
theorem cellsStr : Tryz.prog.cellsOf 9 = 1 := by kernel_rfl
theorem cellsLV : Tryz.prog.cellsOf 27 = 1 := by kernel_rfl
theorem cellsRef : Tryz.prog.cellsOf 24 = 1 := by kernel_rfl
theorem addr_add (b o i : Nat) : (⟨b, o, none⟩ : Addr).add i = ⟨b, o + i, none⟩ := by unfold Addr.add; split <;> simp_all

set_option maxRecDepth 100000 in
theorem trod_vals {H : Type} {enc : TypeId × Value → H} {W : World} {base : Nat} {held : Bool} {spare : Nat → Bool} : ∀ fuel : Nat,
    (∀ cs x, DataW.trod enc Tryz.prog W base spare held fuel 27 cs = some x → ∃ s l, cs = [s] ∧ SlAt W (fun b => b < W.heap.size) s l ∧ (l.length : Int) ≤ maxLen ∧ ∃ pa c, s = .slice pa l.length c ∧ l.length ≤ c) ∧
    (∀ cs x, DataW.trod enc Tryz.prog W base spare held fuel 29 cs = some x → ∃ v raw, cs = (vcs v raw).toList ∧ SlAt W (fun b => b < W.heap.size) raw v.l) := by
  intro fuel
  induction fuel with
  | zero => exact ⟨fun cs x h => by simp [DataW.trod] at h, fun cs x h => by simp [DataW.trod] at h⟩
  | succ n ih =>
    refine ⟨fun cs x h => ?_, fun cs x h => ?_⟩
    · rcases DataW.trod_slice Tryz.underlying27 h with ⟨rfl, -⟩ | ⟨a, len, cap, elems, rest, m, hm, rfl, rfl, hb, hl, hc, hlen, hel, -, -⟩
      · exact ⟨_, [], rfl, SlAt.nil _ _ _ _, by simp [maxLen], _, _, rfl, Nat.le_refl _⟩
      · cases hm
        have each : ∀ i, i < len → ∃ v raw, SlAt W (fun b => b < W.heap.size) raw v.l ∧ ∀ k, k < 5 → W.cell? ((a.add (i * 5)).add k) = (vcs v raw)[k]? := fun i hi => by
          have h1 := hel i hi
          rw [List.getElem?_eq_getElem (by omega), Option.bind_eq_some_iff] at h1
          obtain ⟨cs', h2, h3⟩ := h1
          obtain ⟨v, raw, rfl, hS⟩ := ih.2 _ _ h3
          rw [cellsV] at h2
          obtain ⟨-, -, h4⟩ := World.cells?_some h2
          exact ⟨v, raw, hS, fun k hk => (h4 k hk).trans (by simp)⟩
        by_cases h0 : len = 0
        · subst h0
          exact ⟨_, [], rfl, SlAt.nil _ _ _ _, by simp, _, _, rfl, Nat.zero_le _⟩
        obtain ⟨b, o, rfl⟩ : ∃ b o, a = ⟨b, o, none⟩ := by
          obtain ⟨v, raw, -, h1⟩ := each 0 (by omega)
          have c0 : W.cell? ((a.add (0 * 5)).add 0) = some (.int .u8 v.kind) := h1 0 (by omega)
          obtain ⟨b, o, sp⟩ := a
          have hs : sp = none := by simpa [Addr.add] using World.cell?_spot c0
          exact ⟨b, o, by rw [hs]⟩
        have key : ∀ i, ∃ p : Val × Value, i < len → SlAt W (fun b => b < W.heap.size) p.2 p.1.l ∧ ∀ k, k < 5 → W.cell? ⟨b, o + 5 * i + k, none⟩ = (vcs p.1 p.2)[k]? := fun i => by
          by_cases hi : i < len
          · obtain ⟨v, raw, h1, h2⟩ := each i hi
            refine ⟨(v, raw), fun _ => ⟨h1, fun k hk => ?_⟩⟩
            have := h2 k hk
            rw [addr_add, addr_add, Nat.mul_comm i 5] at this
            exact this
          · exact ⟨(⟨0, 0, ⟨#[]⟩, [], 0⟩, undef), fun h => absurd h hi⟩
        obtain ⟨f, hf⟩ := Classical.axiomOfChoice key
        have hS : SlAt W (fun b => b < W.heap.size) (.slice (some ⟨b, o, none⟩) ((List.range len).map fun i => (f i).1).length cap) ((List.range len).map fun i => (f i).1) := by
          refine SlAt.mk _ _ _ (fun i => (f i).2) ⟨by simp; exact hl, fun h => by cases h⟩ (fun i v hv => ?_) (fun i v hv => ?_)
          · have hi := (List.getElem?_eq_some_iff.1 hv).1
            simp only [List.length_map, List.length_range] at hi
            have hv' : v = (f i).1 := by
              simp [List.getElem?_map, List.getElem?_range hi] at hv
              exact hv.symm
            subst hv'
            obtain ⟨h1, h2⟩ := hf i hi
            have c0 := h2 0 (by omega)
            exact ⟨b, o, rfl, World.block_lt_of_cell? _ ⟨b, o + 5 * i + 0, none⟩ c0, c0, h2 1 (by omega), h2 2 (by omega), h2 3 (by omega), h2 4 (by omega)⟩
          · have hi := (List.getElem?_eq_some_iff.1 hv).1
            simp only [List.length_map, List.length_range] at hi
            have hv' : v = (f i).1 := by
              simp [List.getElem?_map, List.getElem?_range hi] at hv
              exact hv.symm
            subst hv'
            exact (hf i hi).1
        have e : ((List.range len).map fun i => (f i).1).length = len := by simp
        rw [e] at hS
        exact ⟨.slice (some ⟨b, o, none⟩) len cap, _, rfl, hS, by rw [e]; omega, _, _, by rw [e], by rw [e]; exact hl⟩
    · obtain ⟨xs, m, hm, rfl, hlen, hxs, hfs⟩ := DataW.trod_struct Tryz.underlying29 h
      cases hm
      rw [cellsV] at hlen
      match cs, hlen with
      | [c0, c1, c2, c3, c4], _ =>
        have hx : xs.length = 5 := hxs
        have g0 : DataW.trod enc Tryz.prog W base spare held n 26 [c0] = some (xs[0]'(by omega)) := by
          have g := hfs 0 _ rfl
          rw [List.getElem?_eq_getElem (by omega)] at g
          rw [← g]
          show _ = DataW.trod enc Tryz.prog W base spare held n 26 ([c0, c1, c2, c3, c4].take (Tryz.prog.cellsOf 26))
          rw [cellsVKind]
          rfl
        have g1 : DataW.trod enc Tryz.prog W base spare held n 2 [c1] = some (xs[1]'(by omega)) := by
          have g := hfs 1 _ rfl
          rw [List.getElem?_eq_getElem (by omega)] at g
          rw [← g]
          show _ = DataW.trod enc Tryz.prog W base spare held n 2 ([c1, c2, c3, c4].take (Tryz.prog.cellsOf 2))
          rw [cellsI64]
          rfl
        have g2 : DataW.trod enc Tryz.prog W base spare held n 9 [c2] = some (xs[2]'(by omega)) := by
          have g := hfs 2 _ rfl
          rw [List.getElem?_eq_getElem (by omega)] at g
          rw [← g]
          show _ = DataW.trod enc Tryz.prog W base spare held n 9 ([c2, c3, c4].take (Tryz.prog.cellsOf 9))
          rw [cellsStr]
          rfl
        have g3 : DataW.trod enc Tryz.prog W base spare held n 27 [c3] = some (xs[3]'(by omega)) := by
          have g := hfs 3 _ rfl
          rw [List.getElem?_eq_getElem (by omega)] at g
          rw [← g]
          show _ = DataW.trod enc Tryz.prog W base spare held n 27 ([c3, c4].take (Tryz.prog.cellsOf 27))
          rw [cellsLV]
          rfl
        have g4 : DataW.trod enc Tryz.prog W base spare held n 24 [c4] = some (xs[4]'(by omega)) := by
          have g := hfs 4 _ rfl
          rw [List.getElem?_eq_getElem (by omega)] at g
          rw [← g]
          show _ = DataW.trod enc Tryz.prog W base spare held n 24 ([c4].take (Tryz.prog.cellsOf 24))
          rw [cellsRef]
          rfl
        obtain ⟨k, e0, -, -⟩ := DataW.trod_int Tryz.underlying26 g0
        obtain ⟨m, e1, -, -⟩ := DataW.trod_int Tryz.underlying2 g1
        obtain ⟨s, e2, -, -⟩ := DataW.trod_string Tryz.underlying9 g2
        obtain ⟨raw, l, e3, hS, -, -⟩ := ih.1 _ _ g3
        obtain ⟨r, e4, -, -⟩ := DataW.trod_int Tryz.underlying24 g4
        cases e0; cases e1; cases e2; cases e3; cases e4
        exact ⟨⟨k, m, s, l, r⟩, _, rfl, hS⟩

set_option maxRecDepth 100000 in
/-- An argument that is a slice of values. -/
theorem open_vals {H : Type} {enc : TypeId × Value → H} {W : World} {base : Nat} {r : Reach} {b0 : Nat} {v : Value} (hval : Value.okWide Tryz.prog W r b0 27 v) {d : DataW H} {ps : List MemPlace} (hd : DataW.Trod enc Tryz.prog W base (fun _ => true) true 27 v d ps) :
    ∃ l pa c, v = .slice pa l.length c ∧ l.length ≤ c ∧ SlAt W (fun b => b < W.heap.size) (.slice pa l.length c) l ∧ (l.length : Int) ≤ maxLen := by
  obtain ⟨fuel, hf⟩ := hd
  obtain ⟨a0, len, cap, rfl⟩ := okWide_slice Tryz.underlying27 hval
  obtain ⟨s, l, h1, h2, h3, pa, c, e, h4⟩ := (trod_vals fuel).1 _ _ hf
  have h5 : Value.slice a0 len cap = s := by simpa [Value.cells] using h1
  subst h5
  rw [e] at h2
  exact ⟨l, pa, c, e, h4, h2, h3⟩
set_option maxRecDepth 100000 in
/-- An argument that is a value. -/
theorem open_val {H : Type} {enc : TypeId × Value → H} {W : World} {base : Nat} {r : Reach} {b0 : Nat} {v : Value} (hval : Value.okWide Tryz.prog W r b0 29 v) {d : DataW H} {ps : List MemPlace} (hd : DataW.Trod enc Tryz.prog W base (fun _ => true) true 29 v d ps) :
    ∃ x raw, v = .agg (vcs x raw) ∧ SlAt W (fun b => b < W.heap.size) raw x.l := by
  obtain ⟨fuel, hf⟩ := hd
  simp only [Value.okWide, Tryz.underlying29] at hval
  obtain ⟨xs, rfl, hn, _⟩ := hval
  obtain ⟨x, raw, h1, h2⟩ := (trod_vals fuel).2 _ _ hf
  exact ⟨x, raw, congrArg Value.agg (Array.toList_inj.1 h1), h2⟩
end Go.Proofs.YtifmifjbebpomaaGreatDoor
/- Values as they may come in: kinds are bytes, no list is longer than one may be. -/
namespace Go.Proofs.YtifmifjbebpomaaGreatDoor
open Go.RowKit Go.ChangeMaps Go.MapKept

/-- All kinds are bytes, all numbers whole ones of 64 bits, and no list is longer than one may be. -/
inductive Val.wf : Val → Prop
  | mk (k n : Int) (s : ByteArray) (l : List Val) (r : Int) : 0 ≤ k ∧ k ≤ 255 → (l.length : Int) ≤ maxLen → (∀ x, x ∈ l → Val.wf x) → (Lit.int .i64 n).wf = true ∧ (Lit.int .i64 r).wf = true → Val.wf ⟨k, n, s, l, r⟩
theorem Val.wf.kd {v : Val} (h : v.wf) : 0 ≤ v.kind ∧ v.kind ≤ 255 := by
  cases h with
  | mk k n s l r h _ _ _ => exact h
theorem Val.wf.len {v : Val} (h : v.wf) : (v.l.length : Int) ≤ maxLen := by
  cases h with
  | mk k n s l r _ h _ _ => exact h
theorem Val.wf.sub {v : Val} (h : v.wf) : ∀ x ∈ v.l, x.wf := by
  cases h with
  | mk k n s l r _ _ h _ => exact h
theorem Val.wf.num {v : Val} (h : v.wf) : (Lit.int .i64 v.n).wf = true ∧ (Lit.int .i64 v.r).wf = true := by
  cases h with
  | mk k n s l r _ _ _ h => exact h
end Go.Proofs.YtifmifjbebpomaaGreatDoor
/- Arguments of a law that are values or slices of values: what the walk is given, with the ranges (Val.wf). -/
namespace Go.Proofs.YtifmifjbebpomaaGreatDoor
open Go.ChangeShapes Go.WideShapes Go.ChangeAt Go.RowKit

theorem wf_u8W {y : Int} (h : (Lit.int .u8 y).wf = true) : 0 ≤ y ∧ y ≤ 255 := by
  simp [Lit.wf, IntKind.min, IntKind.max, IntKind.signed, IntKind.bits] at h
  omega
set_option maxRecDepth 100000 in
theorem trod_valsW {H : Type} {enc : TypeId × Value → H} {W : World} {base : Nat} {held : Bool} {spare : Nat → Bool} : ∀ fuel : Nat,
    (∀ cs x, DataW.trod enc Tryz.prog W base spare held fuel 27 cs = some x → ∃ s l, cs = [s] ∧ SlAt W (fun b => b < W.heap.size) s l ∧ (l.length : Int) ≤ maxLen ∧ (∃ pa c, s = .slice pa l.length c ∧ l.length ≤ c) ∧ ∀ x ∈ l, x.wf) ∧
    (∀ cs x, DataW.trod enc Tryz.prog W base spare held fuel 29 cs = some x → ∃ v raw, cs = (vcs v raw).toList ∧ SlAt W (fun b => b < W.heap.size) raw v.l ∧ v.wf) := by
  intro fuel
  induction fuel with
  | zero => exact ⟨fun cs x h => by simp [DataW.trod] at h, fun cs x h => by simp [DataW.trod] at h⟩
  | succ n ih =>
    refine ⟨fun cs x h => ?_, fun cs x h => ?_⟩
    · rcases DataW.trod_slice Tryz.underlying27 h with ⟨rfl, -⟩ | ⟨a, len, cap, elems, rest, m, hm, rfl, rfl, hb, hl, hc, hlen, hel, -, -⟩
      · exact ⟨_, [], rfl, SlAt.nil _ _ _ _, by simp [maxLen], ⟨_, _, rfl, Nat.le_refl _⟩, fun x hx => (by cases hx)⟩
      · cases hm
        have each : ∀ i, i < len → ∃ v raw, (SlAt W (fun b => b < W.heap.size) raw v.l ∧ v.wf) ∧ ∀ k, k < 5 → W.cell? ((a.add (i * 5)).add k) = (vcs v raw)[k]? := fun i hi => by
          have h1 := hel i hi
          rw [List.getElem?_eq_getElem (by omega), Option.bind_eq_some_iff] at h1
          obtain ⟨cs', h2, h3⟩ := h1
          obtain ⟨v, raw, rfl, hS⟩ := ih.2 _ _ h3
          rw [cellsV] at h2
          obtain ⟨-, -, h4⟩ := World.cells?_some h2
          exact ⟨v, raw, hS, fun k hk => (h4 k hk).trans (by simp)⟩
        by_cases h0 : len = 0
        · subst h0
          exact ⟨_, [], rfl, SlAt.nil _ _ _ _, by simp, ⟨_, _, rfl, Nat.zero_le _⟩, fun x hx => (by cases hx)⟩
        obtain ⟨b, o, rfl⟩ : ∃ b o, a = ⟨b, o, none⟩ := by
          obtain ⟨v, raw, -, h1⟩ := each 0 (by omega)
          have c0 : W.cell? ((a.add (0 * 5)).add 0) = some (.int .u8 v.kind) := h1 0 (by omega)
          obtain ⟨b, o, sp⟩ := a
          have hs : sp = none := by simpa [Addr.add] using World.cell?_spot c0
          exact ⟨b, o, by rw [hs]⟩
        have key : ∀ i, ∃ p : Val × Value, i < len → (SlAt W (fun b => b < W.heap.size) p.2 p.1.l ∧ p.1.wf) ∧ ∀ k, k < 5 → W.cell? ⟨b, o + 5 * i + k, none⟩ = (vcs p.1 p.2)[k]? := fun i => by
          by_cases hi : i < len
          · obtain ⟨v, raw, h1, h2⟩ := each i hi
            refine ⟨(v, raw), fun _ => ⟨h1, fun k hk => ?_⟩⟩
            have := h2 k hk
            rw [addr_add, addr_add, Nat.mul_comm i 5] at this
            exact this
          · exact ⟨(⟨0, 0, ⟨#[]⟩, [], 0⟩, undef), fun h => absurd h hi⟩
        obtain ⟨f, hf⟩ := Classical.axiomOfChoice key
        have hS : SlAt W (fun b => b < W.heap.size) (.slice (some ⟨b, o, none⟩) ((List.range len).map fun i => (f i).1).length cap) ((List.range len).map fun i => (f i).1) := by
          refine SlAt.mk _ _ _ (fun i => (f i).2) ⟨by simp; exact hl, fun h => by cases h⟩ (fun i v hv => ?_) (fun i v hv => ?_)
          · have hi := (List.getElem?_eq_some_iff.1 hv).1
            simp only [List.length_map, List.length_range] at hi
            have hv' : v = (f i).1 := by
              simp [List.getElem?_map, List.getElem?_range hi] at hv
              exact hv.symm
            subst hv'
            obtain ⟨h1, h2⟩ := hf i hi
            have c0 := h2 0 (by omega)
            exact ⟨b, o, rfl, World.block_lt_of_cell? _ ⟨b, o + 5 * i + 0, none⟩ c0, c0, h2 1 (by omega), h2 2 (by omega), h2 3 (by omega), h2 4 (by omega)⟩
          · have hi := (List.getElem?_eq_some_iff.1 hv).1
            simp only [List.length_map, List.length_range] at hi
            have hv' : v = (f i).1 := by
              simp [List.getElem?_map, List.getElem?_range hi] at hv
              exact hv.symm
            subst hv'
            exact (hf i hi).1.1
        have e : ((List.range len).map fun i => (f i).1).length = len := by simp
        rw [e] at hS
        exact ⟨.slice (some ⟨b, o, none⟩) len cap, _, rfl, hS, by rw [e]; omega, ⟨_, _, by rw [e], by rw [e]; exact hl⟩, fun x hx => by
          simp only [List.mem_map, List.mem_range] at hx
          obtain ⟨i, hi, rfl⟩ := hx
          exact (hf i hi).1.2⟩
    · obtain ⟨xs, m, hm, rfl, hlen, hxs, hfs⟩ := DataW.trod_struct Tryz.underlying29 h
      cases hm
      rw [cellsV] at hlen
      match cs, hlen with
      | [c0, c1, c2, c3, c4], _ =>
        have hx : xs.length = 5 := hxs
        have g0 : DataW.trod enc Tryz.prog W base spare held n 26 [c0] = some (xs[0]'(by omega)) := by
          have g := hfs 0 _ rfl
          rw [List.getElem?_eq_getElem (by omega)] at g
          rw [← g]
          show _ = DataW.trod enc Tryz.prog W base spare held n 26 ([c0, c1, c2, c3, c4].take (Tryz.prog.cellsOf 26))
          rw [cellsVKind]
          rfl
        have g1 : DataW.trod enc Tryz.prog W base spare held n 2 [c1] = some (xs[1]'(by omega)) := by
          have g := hfs 1 _ rfl
          rw [List.getElem?_eq_getElem (by omega)] at g
          rw [← g]
          show _ = DataW.trod enc Tryz.prog W base spare held n 2 ([c1, c2, c3, c4].take (Tryz.prog.cellsOf 2))
          rw [cellsI64]
          rfl
        have g2 : DataW.trod enc Tryz.prog W base spare held n 9 [c2] = some (xs[2]'(by omega)) := by
          have g := hfs 2 _ rfl
          rw [List.getElem?_eq_getElem (by omega)] at g
          rw [← g]
          show _ = DataW.trod enc Tryz.prog W base spare held n 9 ([c2, c3, c4].take (Tryz.prog.cellsOf 9))
          rw [cellsStr]
          rfl
        have g3 : DataW.trod enc Tryz.prog W base spare held n 27 [c3] = some (xs[3]'(by omega)) := by
          have g := hfs 3 _ rfl
          rw [List.getElem?_eq_getElem (by omega)] at g
          rw [← g]
          show _ = DataW.trod enc Tryz.prog W base spare held n 27 ([c3, c4].take (Tryz.prog.cellsOf 27))
          rw [cellsLV]
          rfl
        have g4 : DataW.trod enc Tryz.prog W base spare held n 24 [c4] = some (xs[4]'(by omega)) := by
          have g := hfs 4 _ rfl
          rw [List.getElem?_eq_getElem (by omega)] at g
          rw [← g]
          show _ = DataW.trod enc Tryz.prog W base spare held n 24 ([c4].take (Tryz.prog.cellsOf 24))
          rw [cellsRef]
          rfl
        obtain ⟨k, e0, -, wk⟩ := DataW.trod_int Tryz.underlying26 g0
        obtain ⟨m, e1, -, wm⟩ := DataW.trod_int Tryz.underlying2 g1
        obtain ⟨s, e2, -, -⟩ := DataW.trod_string Tryz.underlying9 g2
        obtain ⟨raw, l, e3, hS, hln, -, hwf⟩ := ih.1 _ _ g3
        obtain ⟨r, e4, -, wr⟩ := DataW.trod_int Tryz.underlying24 g4
        cases e0; cases e1; cases e2; cases e3; cases e4
        exact ⟨⟨k, m, s, l, r⟩, _, rfl, hS, .mk _ _ _ _ _ (wf_u8W wk) hln hwf ⟨wm, wr⟩⟩

set_option maxRecDepth 100000 in
/-- An argument that is a slice of values. -/
theorem open_valsW {H : Type} {enc : TypeId × Value → H} {W : World} {base : Nat} {r : Reach} {b0 : Nat} {v : Value} (hval : Value.okWide Tryz.prog W r b0 27 v) {d : DataW H} {ps : List MemPlace} (hd : DataW.Trod enc Tryz.prog W base (fun _ => true) true 27 v d ps) :
    ∃ l pa c, v = .slice pa l.length c ∧ l.length ≤ c ∧ SlAt W (fun b => b < W.heap.size) (.slice pa l.length c) l ∧ (l.length : Int) ≤ maxLen ∧ ∀ x ∈ l, x.wf := by
  obtain ⟨fuel, hf⟩ := hd
  obtain ⟨a0, len, cap, rfl⟩ := okWide_slice Tryz.underlying27 hval
  obtain ⟨s, l, h1, h2, h3, ⟨pa, c, e, h4⟩, h6⟩ := (trod_valsW fuel).1 _ _ hf
  have h5 : Value.slice a0 len cap = s := by simpa [Value.cells] using h1
  subst h5
  rw [e] at h2
  exact ⟨l, pa, c, e, h4, h2, h3, h6⟩
set_option maxRecDepth 100000 in
/-- An argument that is a value. -/
theorem open_valW {H : Type} {enc : TypeId × Value → H} {W : World} {base : Nat} {r : Reach} {b0 : Nat} {v : Value} (hval : Value.okWide Tryz.prog W r b0 29 v) {d : DataW H} {ps : List MemPlace} (hd : DataW.Trod enc Tryz.prog W base (fun _ => true) true 29 v d ps) :
    ∃ x raw, v = .agg (vcs x raw) ∧ SlAt W (fun b => b < W.heap.size) raw x.l ∧ x.wf := by
  obtain ⟨fuel, hf⟩ := hd
  simp only [Value.okWide, Tryz.underlying29] at hval
  obtain ⟨xs, rfl, hn, _⟩ := hval
  obtain ⟨x, raw, h1, h2⟩ := (trod_valsW fuel).2 _ _ hf
  exact ⟨x, raw, congrArg Value.agg (Array.toList_inj.1 h1), h2⟩
end Go.Proofs.YtifmifjbebpomaaGreatDoor
/- The nine's Great at any value: it answers. -/
namespace Go.Proofs.YtifmifjbebpomaaGreatDoor
open Go.RowKit Go.ChangeMaps Go.MapKept

theorem maxLen_le {n : Nat} (h : (n : Int) ≤ maxLen) : (n : Int) ≤ 9223372036854775807 := by
  have e : ((maxLen : Nat) : Int) = 9223372036854775807 := by decide
  omega
theorem execOp_ldVq30 (ρ : Operand → Value) (ty : TypeId) (pos : String) (af : Array Edge) (g : Option (Nat × Bool)) :
    execOp ρ { dst := some 30, op := .load 29 (.tmp 29), type := ty, pos := pos, after := af, guard := g } = ldV (ρ (.tmp 29)) := rfl
attribute [local go_sem ↓] execOp_ldVq30 in
set_option maxHeartbeats 4000000 in
set_option maxRecDepth 20000 in
theorem room9_W {v : Val} (hwf : v.wf) : ∀ (raw : Value) (w : World) (F : Nat → Prop) (left : Int), SlAt w F raw v.l → Calls Tryz.prog 19 #[.agg (vcs v raw), .int .i64 left] w fun e w' => (∃ x, e = .returned (.int .i64 x)) ∧ Below w.heap.size w w' := by
  induction hwf with
  | mk kind n s l r hk hlen hsub hnum ih =>
  intro raw w F left hS
  obtain ⟨pa, c, rfl⟩ := hS.form
  simp only [vcs]
  have HS := (show Hid (SlAt w F (Value.slice pa l.length c) l) from hS)
  have IH := (show Hid _ from ih)
  have HL := (show Hid ((l.length : Int) ≤ 9223372036854775807) from maxLen_le hlen)
  clear hS ih hlen hk hnum hsub
  by_cases h0 : left < 0
  · go_enter Tryz.func19, Tryz.ntmps19
    go_wp2_with fail
    go_ret
    exact ⟨⟨_, rfl⟩, (Below.refl _ _).alloc (Nat.le_refl _) _⟩
  go_enter Tryz.func19, Tryz.ntmps19
  go_wp2_with fail
  have HB0 : Hid (Below w.heap.size w (w.alloc (.cells #[.int .u8 kind, .int .i64 n, .string s, .slice pa l.length c, .int .i64 r] 29)) ∧ (w.alloc (.cells #[.int .u8 kind, .int .i64 n, .string s, .slice pa l.length c, .int .i64 r] 29)).heap[w.heap.size]? = some (.cells #[.int .u8 kind, .int .i64 n, .string s, .slice pa l.length c, .int .i64 r] 29 (0, 0))) := ⟨(Below.refl _ _).alloc (Nat.le_refl _) _, blk_new w _⟩
  obtain ⟨y0, hy0⟩ : ∃ y, wrap64 (wrap64 (left - 1) - wrap64 ((s.size : Int) / 64)) = y := ⟨_, rfl⟩
  simp only [hy0]
  clear hy0 h0
  revert HB0
  generalize w.alloc _ = w1
  intro HB0
  go_loopw [1, 5] (fun v1 v5 wr => ∃ (i : Nat) (y : Int), v1 = .int .i64 y ∧ v5 = .int .i64 i ∧ i ≤ l.length ∧ Hid (Below w.heap.size w wr ∧ wr.heap[w.heap.size]? = some (.cells #[.int .u8 kind, .int .i64 n, .string s, .slice pa l.length c, .int .i64 r] 29 (0, 0)))) (fun _ v5 _ => l.length - (intOf v5).toNat)
  case atStart => exact ⟨0, y0, rfl, rfl, by omega, HB0⟩
  case round =>
    clear HB0
    obtain ⟨i, y, rfl, rfl, hi, HB⟩ := hrel
    have k3 : wr.cell? ⟨w.heap.size, 3, none⟩ = some (.slice pa l.length c) := by rw [cell_blk HB.out.2]; rfl
    by_cases hil : i < l.length
    · have hiz : (i : Int) < (l.length : Int) := by omega
      by_cases hy : 0 ≤ y
      · obtain ⟨x, hx⟩ : ∃ x, l[i]? = some x := ⟨_, List.getElem?_eq_getElem hil⟩
        obtain ⟨b, o, c', raw, hpe, hrg, -, -, hSx⟩ := (HS.out.on HB.out.1).range hx
        cases hpe
        obtain ⟨xk, xn, xs, xl, xr⟩ := x
        have hld0 := loadV_mid hrg rfl
        have HX := (show Hid ((⟨xk, xn, xs, xl, xr⟩ : Val) ∈ l) from List.mem_of_getElem? hx)
        obtain ⟨pa2, c2, rfl⟩ := hSx.form
        have hld : (ldV (.pointer (some ⟨b, o + i * 5, none⟩))).run Tryz.prog wr = .ok (.value (.agg #[.int .u8 xk, .int .i64 xn, .string xs, .slice pa2 xl.length c2, .int .i64 xr])) wr := hld0
        clear hld0
        have HSX := (show Hid (SlAt wr F (.slice pa2 xl.length c2) xl) from hSx)
        have hw1 : wrap64 ((i : Int) + 1) = (i : Int) + 1 := by
          have := HL.out
          unfold wrap64
          omega
        clear hx hrg hSx
        go_wp2_with fail
        refine (IH.out _ HX.out _ _ F y HSX.out).mono ?_
        rintro e w5 ⟨⟨x5, rfl⟩, hb5⟩
        have HB5 : Hid (Below w.heap.size w w5 ∧ w5.heap[w.heap.size]? = some (.cells #[.int .u8 kind, .int .i64 n, .string s, .slice (some ⟨b, o, none⟩) l.length c, .int .i64 r] 29 (0, 0))) := ⟨HB.out.1.trans (hb5.mono HB.out.1.size), below_blk hb5 HB.out.2⟩
        clear hb5 HB k3 hld HSX HX
        go_wp2_with fail
        go_roundw
        case rel => exact ⟨i + 1, x5, rfl, by rw [hw1, Int.natCast_add]; rfl, by omega, HB5⟩
        case measure =>
          rw [hw1]
          show l.length - ((i : Int) + 1).toNat < l.length - (i : Int).toNat
          omega
      · go_wp2_with fail
        go_ret
        exact ⟨⟨_, rfl⟩, HB.out.1⟩
    · have hiz : ¬ (i : Int) < (l.length : Int) := by omega
      go_wp2_with fail
      go_ret
      exact ⟨⟨_, rfl⟩, HB.out.1⟩
theorem Great9_W {v : Val} (hwf : v.wf) {raw : Value} {w : World} {F : Nat → Prop} (hS : SlAt w F raw v.l) : Calls Tryz.prog 6 #[.agg (vcs v raw)] w fun e w' => (∃ b, e = .returned (.bool b)) ∧ Below w.heap.size w w' := by
  obtain ⟨pa, c, rfl⟩ := hS.form
  have h := fun W hb => room9_W hwf _ W F 20000 (hS.on hb)
  have HB0 : Hid (Below w.heap.size w (w.alloc (.cells #[.int .u8 v.kind, .int .i64 v.n, .string v.s, .slice pa v.l.length c, .int .i64 v.r] 29))) := (Below.refl _ _).alloc (Nat.le_refl _) _
  simp only [vcs] at h ⊢
  clear hS hwf
  go_enter Tryz.func6, Tryz.ntmps6
  go_wp2_with fail
  refine (h _ (by first | exact Below.refl _ _ | exact HB0.out)).mono ?_
  rintro e w1 ⟨⟨x, rfl⟩, hb⟩
  have HB : Hid (Below w.heap.size w w1) := by first | exact hb | exact HB0.out.trans (hb.mono HB0.out.size)
  clear hb h
  go_wp2_with fail
  go_ret
  exact ⟨⟨_, rfl⟩, HB.out⟩
end Go.Proofs.YtifmifjbebpomaaGreatDoor
/- Walls: Cut, Islands, of one world. -/
namespace Go.Proofs.YtifmifjbebpomaaGreatDoor
open Go.RowKit Go.Shelf Go.ChangeMaps Go.MapKept
variable {w : World} {p : Nat} {M : WM} {F : Nat → Prop}

set_option maxRecDepth 8000 in
/-- One edge is cut. -/
theorem wCut_one {b c n : Nat} (hW : IsW w p M F) (h0 : 0 < n) (hn : n < M.made.length) (d0 : w.cell? ⟨b, 0, none⟩ = some (.int .i64 n)) :
    Calls Tryz.prog 15 #[.pointer (some ⟨p, 0, none⟩), .slice (some ⟨b, 0, none⟩) 1 c] w fun e w' => e = .returned (.int .i64 0) ∧ IsW w' p (M.cutE n) F ∧ Keeps F w w' := by
  have h1 := wthere_W hW
  have h2 := Sides_W hW
  have h3 := CutEdge_W hW n h0 hn
  have e1 : ¬ ((n : Int) < 1) := by omega
  have e2 : ¬ ((n : Int) ≥ (M.made.length : Int)) := by omega
  go_enter Tryz.func15, Tryz.ntmps15
  go_wp2_with fail
  refine h1.mono ?_
  rintro e _ ⟨rfl, rfl⟩
  go_wp2_with fail
  refine wp_loop_rounds 2 ?_
  rw [rounds_succ]
  go_wp2_with fail
  refine h2.mono ?_
  rintro e _ ⟨rfl, rfl⟩
  go_wp2_with fail
  rw [rounds_succ]
  go_wp2_with fail
  refine wp_loop_rounds 2 ?_
  rw [rounds_succ]
  go_wp2_with fail
  refine h3.mono ?_
  rintro e w1 ⟨rfl, k1, k2, -⟩
  have H := (show Hid (IsW w1 p (M.cutE n) F ∧ Keeps F w w1) from ⟨k1, k2⟩)
  have d0' : w1.cell? ⟨b, 0, none⟩ = w1.cell? ⟨b, 0, none⟩ := rfl
  clear k1 k2 d0'
  go_wp2_with fail
  rw [rounds_succ]
  go_wp2_with fail
  go_ret
  exact ⟨rfl, H.out⟩

theorem infoLSide : (Tryz.prog.info? 32).map (fun i => (i.zero, i.size, i.bytes)) = some (some (.slice none 0 0), 1, 24) := by kernel_rfl
theorem infoSide' : (Tryz.prog.info? 23).map (fun i => (i.zero, i.size, i.bytes)) = some (some (.int .i64 0), 1, 8) := by kernel_rfl
/-- One island, while they are told. -/
structure IslAt (w W : World) (g c : Nat) (s0 : Value) (xs : List Int) : Prop where
  below : Below w.heap.size w W
  row : W.ownsRow w.heap.size 32 1 (.slice (some ⟨g, 0, none⟩) 1 c) 1 [s0]
  row0 : W.ownsRow w.heap.size 23 1 s0 xs.length (xs.map (Value.int .i64))
theorem row_apart {w : World} {base base' n n' : Nat} {e e' : TypeId} {v v' : Value} {xs xs' : List Value} (hne : e ≠ e') (h : w.ownsRow base e 1 v n xs) (h' : w.ownsRow base' e' 1 v' n' xs') : v.ownBlock = none ∨ v.ownBlock ≠ v'.ownBlock := by
  rcases h.2 with ⟨rfl, _⟩ | ⟨g, cap, cur, rfl, _, hg, _⟩
  · exact .inl rfl
  · rcases h'.2 with ⟨rfl, _⟩ | ⟨g', cap', cur', rfl, _, hg', _⟩
    · exact .inr (by simp [Value.ownBlock])
    · refine .inr fun e0 => ?_
      simp only [Value.ownBlock, Option.some.injEq] at e0
      subst e0
      rw [hg] at hg'
      cases hg'
      exact hne rfl
theorem IslAt.push {W W' : World} {g c : Nat} {s0 s1 : Value} {xs : List Int} {x : Int} (h : IslAt w W g c s0 xs) (r1 : W'.ownsRow w.heap.size 23 1 s1 (xs.length + 1) (xs.map (Value.int .i64) ++ [.int .i64 x])) (r2 : W.grownBy W' s0.ownBlock) :
    IslAt w (W'.setCell ⟨g, 0, none⟩ s1) g c s1 (xs ++ [x]) := by
  have hr := h.row.kept r2 (row_apart (by decide) h.row h.row0)
  have hap := row_apart (by decide) r1 hr
  have hg0 := (h.row.lt g rfl)
  have hb : Below w.heap.size w W' := h.below.grown r2 h.below.size (fun k e => (h.row0.lt k e).1)
  refine ⟨hb.setCell hg0.1 _, ?_, ?_⟩
  · rcases hr.2 with ⟨h1, _⟩ | ⟨g', cap, cur, he, h1, h2, h3, h4, h5, h6⟩
    · cases h1
    · cases he
      refine ⟨rfl, .inr ⟨g, c, _, rfl, h1, blk_setCell h2 0 s1, h3, h4, by simpa using h5, ?_⟩⟩
      have hc : 0 < cur.size := by rw [h5]; omega
      obtain ⟨a, r, hl⟩ : ∃ a r, cur.toList = a :: r := by
        cases hcl : cur.toList with
        | nil =>
          have h7 : cur.toList.length = 0 := by rw [hcl]; rfl
          rw [Array.length_toList] at h7
          omega
        | cons a r => exact ⟨a, r, rfl⟩
      simp [hl]
  · have := r1.kept (grownBy_setCell' W' g s1) (by
      rcases hap with h | h
      · exact .inl h
      · exact .inr (fun e => h (e.trans rfl)))
    simpa using this
theorem IslAt.facts {W : World} {g c a n k : Nat} {xs : List Int} (h : IslAt w W g c (.slice (some ⟨a, 0, none⟩) n k) (0 :: xs)) : W.cell? ⟨g, 0, none⟩ = some (.slice (some ⟨a, 0, none⟩) n k) ∧ W.cell? ⟨a, 0, none⟩ = some (.int .i64 0) ∧ 0 < n := by
  have hn : n = xs.length + 1 := by
    rcases h.row0.2 with ⟨h1, _⟩ | ⟨g', cap, cur, h1, _⟩
    · cases h1
    · cases h1; rfl
  subst hn
  refine ⟨h.row.cellAt 0 (by decide), ?_, by omega⟩
  have := h.row0.cellAt 0 (by simp)
  rw [this]
  rfl
theorem IslAt.outCell {W W' : World} {g c : Nat} {s0 : Value} {xs : List Int} (h : IslAt w W g c s0 xs) (r2 : W.grownBy W' s0.ownBlock) : W'.cell? ⟨g, 0, none⟩ = some s0 ∧ W'.frozen? ⟨g, 0, none⟩ = false := by
  have hr := h.row.kept r2 (row_apart (by decide) h.row h.row0)
  refine ⟨hr.cellAt 0 (by decide), ?_⟩
  rcases hr.2 with ⟨h1, _⟩ | ⟨g', cap, cur, he, h1, h2, _⟩
  · cases h1
  · cases he
    exact frozen_blk h2 0
set_option maxHeartbeats 4000000 in
set_option maxRecDepth 8000 in
/-- Four sides, three of them on one island. -/
theorem wIslands_aw (hW : IsW w p M F) (h4 : M.made.length = 4) (o1 : M.openB 0 1 = true) (o2 : M.openB 0 2 = true) (o3 : M.openB 0 3 = false) :
    Calls Tryz.prog 14 #[.pointer (some ⟨p, 0, none⟩)] w fun e w' => ∃ a c, e = .returned (.slice a 2 c) ∧ Below w.heap.size w w' := by
  have HW := (show Hid (IsW w p M F) from hW)
  have H1 := wthere_W hW
  have H2 := Sides_W hW
  rw [h4] at H2
  have HO := (show Hid (∀ W, Below w.heap.size w W → ∀ b, (b = 1 ∨ b = 2) → Calls Tryz.prog 41 #[.pointer (some ⟨p, 0, none⟩), .int .i64 0, .int .i64 b] W fun e w' => e = .returned (.bool true) ∧ W = w') from fun W hb b hbb => by
    have := Open_W (hW.below hb) 0 b
    rcases hbb with rfl | rfl
    · rwa [o1] at this
    · rwa [o2] at this)
  have HO3 := (show Hid (∀ W, Below w.heap.size w W → Calls Tryz.prog 41 #[.pointer (some ⟨p, 0, none⟩), .int .i64 0, .int .i64 3] W fun e w' => e = .returned (.bool false) ∧ W = w') from fun W hb => by
    have := Open_W (hW.below hb) 0 3
    rwa [o3] at this)
  clear hW h4 o1 o2 o3
  go_enter Tryz.func14, Tryz.ntmps14
  go_wp2_with fail
  go_step3
  go_wp2_with fail
  refine H1.mono ?_
  rintro e _ ⟨rfl, rfl⟩
  go_wp2_with fail
  go_step3
  go_wp2_with fail
  refine H2.mono ?_
  rintro e _ ⟨rfl, rfl⟩
  go_wp2_with fail
  refine wp_loop_rounds 5 ?_
  rw [rounds_succ]
  go_wp2_with fail
  refine wp_loop_rounds 1 ?_
  rw [rounds_succ]
  have HN0 : ((0 : Nat) : Int) ≤ 1099511627777 := by decide
  have hzA : w.heap.size ≤ (w.alloc (.cells #[.int .i64 0] 23)).heap.size := by simp
  go_wp2_with (at_builtin; refine append_one rfl _ _ 58 rfl w.heap.size 32 (.slice none 0 0) 24 Tryz.underlying58 infoLSide rfl (.slice none 0 0) 0 [] rfl (World.ownsRow_nil _ _ _ _) (.slice (some ⟨w.heap.size, 0, none⟩) 1 1) (by rw [World.size_alloc]; rfl) rfl HN0 (by decide) hzA ?_; intro v1 w1 r1 r2 r3)
  obtain ⟨g, c, rfl⟩ : ∃ g c, v1 = .slice (some ⟨g, 0, none⟩) 1 c := by
    rcases r1.2 with ⟨_, h⟩ | ⟨g, cap, cur, h, _⟩
    · cases h
    · exact ⟨g, cap, h⟩
  have HI1 : Hid (IslAt w w1 g c (.slice (some ⟨w.heap.size, 0, none⟩) 1 1) [0]) := by
    refine ⟨((Below.refl _ _).alloc (Nat.le_refl _) _).trans r3, r1, rfl, .inr ⟨w.heap.size, 1, #[.int .i64 0], rfl, Nat.le_refl _, ?_, Nat.le_refl _, by decide, rfl, rfl⟩⟩
    exact (r2.block _ (by simp) (fun e => by cases e)).trans (blk_new w _)
  have Hs1 : Hid (∃ a n k, Value.slice (some ⟨w.heap.size, 0, none⟩) 1 1 = .slice (some ⟨a, 0, none⟩) n k) := ⟨_, _, _, rfl⟩
  clear r1 r2 r3 HN0 hzA
  rw [rounds_succ]
  go_wp2_with fail
  refine wp_loop_rounds 1 ?_
  rw [rounds_succ]
  obtain ⟨k11, k12, k13⟩ := HI1.out.facts
  go_wp2_with fail
  refine (HO.out _ HI1.out.below 1 (by decide)).mono ?_
  rintro e _ ⟨rfl, rfl⟩
  have HN1 : ((1 : Nat) : Int) ≤ 1099511627777 := by decide
  have hz1 : w.heap.size ≤ w1.heap.size := HI1.out.below.size
  have hr1 := HI1.out.row0
  go_wp2_with (at_builtin; refine append_one rfl _ _ 32 rfl w.heap.size 23 (.int .i64 0) 8 Tryz.underlying32 infoSide' rfl (.slice (some ⟨w.heap.size, 0, none⟩) 1 1) 1 _ rfl hr1 (.int .i64 1) rfl rfl HN1 (by decide) hz1 ?_; intro v2 x2 r1 r2 r3
               obtain ⟨c2, f2⟩ := HI1.out.outCell r2
               obtain ⟨a2, n2, k2, rfl⟩ : ∃ a n k, v2 = .slice (some ⟨a, 0, none⟩) n k := by
                 rcases r1.2 with ⟨_, h⟩ | ⟨g, cap, cur, h, _⟩
                 · cases h
                 · exact ⟨g, _, cap, h⟩)
  have HI2 : Hid (IslAt w (x2.setCell ⟨g, 0, none⟩ (.slice (some ⟨a2, 0, none⟩) n2 k2)) g c (.slice (some ⟨a2, 0, none⟩) n2 k2) ([0] ++ [1])) := HI1.out.push r1 r2
  clear r1 r2 r3 HN1 hz1 hr1 k11 k12 k13 c2 f2 HI1
  revert HI2
  generalize World.setCell _ _ _ = w2
  intro HI2
  rw [rounds_succ]
  go_wp2_with fail
  refine wp_loop_rounds 1 ?_
  rw [rounds_succ]
  obtain ⟨k21, k22, k23⟩ := HI2.out.facts
  go_wp2_with fail
  refine (HO.out _ HI2.out.below 2 (by decide)).mono ?_
  rintro e _ ⟨rfl, rfl⟩
  have HN2 : ((2 : Nat) : Int) ≤ 1099511627777 := by decide
  have hz2 : w.heap.size ≤ w2.heap.size := HI2.out.below.size
  have hr2 := HI2.out.row0
  go_wp2_with (at_builtin; refine append_one rfl _ _ 32 rfl w.heap.size 23 (.int .i64 0) 8 Tryz.underlying32 infoSide' rfl (.slice (some ⟨a2, 0, none⟩) n2 k2) 2 _ rfl hr2 (.int .i64 2) rfl rfl HN2 (by decide) hz2 ?_; intro v3 x3 r1 r2 r3
               obtain ⟨c3, f3⟩ := HI2.out.outCell r2
               obtain ⟨a3, n3, k3, rfl⟩ : ∃ a n k, v3 = .slice (some ⟨a, 0, none⟩) n k := by
                 rcases r1.2 with ⟨_, h⟩ | ⟨g, cap, cur, h, _⟩
                 · cases h
                 · exact ⟨g, _, cap, h⟩)
  have HI3 : Hid (IslAt w (x3.setCell ⟨g, 0, none⟩ (.slice (some ⟨a3, 0, none⟩) n3 k3)) g c (.slice (some ⟨a3, 0, none⟩) n3 k3) ([0, 1] ++ [2])) := HI2.out.push r1 r2
  clear r1 r2 r3 HN2 hz2 hr2 k21 k22 k23 c3 f3 HI2
  revert HI3
  generalize World.setCell _ _ _ = w3
  intro HI3
  rw [rounds_succ]
  go_wp2_with fail
  refine wp_loop_rounds 2 ?_
  rw [rounds_succ]
  obtain ⟨k31, k32, k33⟩ := HI3.out.facts
  go_wp2_with fail
  refine (HO3.out _ HI3.out.below).mono ?_
  rintro e _ ⟨rfl, rfl⟩
  go_wp2_with fail
  rw [rounds_succ]
  have HN3 : ((1 : Nat) : Int) ≤ 1099511627777 := by decide
  have hz3 : w.heap.size ≤ (w3.alloc (.cells #[.int .i64 3] 23)).heap.size := by have := HI3.out.below.size; simp; omega
  have hr3 := HI3.out.row.alloc (.cells #[.int .i64 3] 23)
  go_wp2_with (at_builtin; refine append_one rfl _ _ 58 rfl w.heap.size 32 (.slice none 0 0) 24 Tryz.underlying58 infoLSide rfl (.slice (some ⟨g, 0, none⟩) 1 c) 1 _ rfl hr3 (.slice (some ⟨w3.heap.size, 0, none⟩) 1 1) (by rw [World.size_alloc]; rfl) rfl HN3 (by decide) hz3 ?_; intro v4 x4 r1 r2 r3)
  have HB4 : Hid (Below w.heap.size w x4) := (HI3.out.below.alloc HI3.out.below.size _).trans r3
  obtain ⟨a4, c4, rfl⟩ : ∃ a c, v4 = .slice a 2 c := by
    rcases r1.2 with ⟨_, h⟩ | ⟨g, cap, cur, h, _⟩
    · cases h
    · exact ⟨_, cap, h⟩
  clear r1 r2 r3
  rw [rounds_succ]
  go_wp2_with fail
  rw [Exit.noGoto_ret]
  go_ret
  exact ⟨_, _, rfl, HB4.out⟩
end Go.Proofs.YtifmifjbebpomaaGreatDoor
