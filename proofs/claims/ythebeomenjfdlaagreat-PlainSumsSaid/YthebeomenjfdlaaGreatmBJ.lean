/- A part of the proof, several texts in one: SameA, SuA, Open, SuW. -/
import Derived.Test.YthebeomenjfdlaaGreatmAB
import Derived.Test.YthebeomenjfdlaaGreatmBI
import Derived.Test.YthebeomenjfdlaaGreatmAF
import Derived.WalkKit
import Derived.ProofKit
import Derived.OpenShut
import Derived.ChangeSame
import Derived.ChangeSlices
import Derived.Carry
import Derived.RowKit
import Derived.Test.YthebeomenjfdlaaGreatmAJ
import Derived.Deep.QuietTactic
import Derived.BigQuiet
import Derived.Deep.DeepCutAuto
import Derived.Deep.CutBlock
/- Are two light things the same? The calls below world.Same: at equal values they say yes. -/
namespace Go.Proofs.YthebeomenjfdlaaGreat
open Go.RowKit Go.ChangeMaps Go.MapKept

set_option maxRecDepth 8000 in
theorem cmpI64_W (w : World) (a : Int) : Calls Tryz.prog 116 #[.int .i64 a, .int .i64 a] w fun e w' => e = .returned (.int .i64 0) ∧ w = w' := by
  have h1 : ¬ (a < a) := Int.lt_irrefl a
  have h2 : ¬ (a > a) := Int.lt_irrefl a
  go_enter Tryz.func116, Tryz.ntmps116
  go_wp2
  go_ret
  exact ⟨rfl, rfl⟩
set_option maxRecDepth 8000 in
theorem cmpfVal_nil (w : World) (f : Value) : Calls Tryz.prog 119 #[.slice none 0 0, .slice none 0 0, f] w fun e w' => e = .returned (.int .i64 0) ∧ w = w' := by
  go_enter Tryz.func119, Tryz.ntmps119
  go_wp2_with fail
  go_loopw [13] (fun vi wr => vi = .int .i64 0 ∧ wr = w) (fun _ _ => 0)
  case atStart => exact ⟨rfl, rfl⟩
  case round =>
    obtain ⟨rfl, rfl⟩ := hrel
    go_wp2_with fail
    go_ret
    exact ⟨rfl, rfl⟩
set_option maxRecDepth 8000 in
theorem eqfVal_nil (w : World) (f : Value) : Calls Tryz.prog 131 #[.slice none 0 0, .slice none 0 0, f] w fun e w' => e = .returned (.bool true) ∧ w = w' := by
  go_enter Tryz.func131, Tryz.ntmps131
  go_wp2_with fail
  go_loopw [17] (fun vi wr => vi = .int .i64 0 ∧ wr = w) (fun _ _ => 0)
  case atStart => exact ⟨rfl, rfl⟩
  case round =>
    obtain ⟨rfl, rfl⟩ := hrel
    go_wp2_with fail
    go_ret
    exact ⟨rfl, rfl⟩
set_option maxRecDepth 8000 in
theorem eqfName_nil (w : World) (f : Value) : Calls Tryz.prog 133 #[.slice none 0 0, .slice none 0 0, f] w fun e w' => e = .returned (.bool true) ∧ w = w' := by
  go_enter Tryz.func133, Tryz.ntmps133
  go_wp2_with fail
  go_loopw [17] (fun vi wr => vi = .int .i64 0 ∧ wr = w) (fun _ _ => 0)
  case atStart => exact ⟨rfl, rfl⟩
  case round =>
    obtain ⟨rfl, rfl⟩ := hrel
    go_wp2_with fail
    go_ret
    exact ⟨rfl, rfl⟩
set_option maxRecDepth 8000 in
theorem eqfStmt_nil (w : World) (f : Value) : Calls Tryz.prog 153 #[.slice none 0 0, .slice none 0 0, f] w fun e w' => e = .returned (.bool true) ∧ w = w' := by
  go_enter Tryz.func153, Tryz.ntmps153
  go_wp2_with fail
  go_loopw [17] (fun vi wr => vi = .int .i64 0 ∧ wr = w) (fun _ _ => 0)
  case atStart => exact ⟨rfl, rfl⟩
  case round =>
    obtain ⟨rfl, rfl⟩ := hrel
    go_wp2_with fail
    go_ret
    exact ⟨rfl, rfl⟩
set_option maxRecDepth 8000 in
theorem sameCode_nil (w : World) : Calls Tryz.prog 132 #[.slice none 0 0, .slice none 0 0] w fun e w' => e = .returned (.bool true) ∧ w = w' := by
  go_enter Tryz.func132, Tryz.ntmps132
  go_wp2_with fail
  refine (eqfStmt_nil w _).mono ?_
  rintro e _ ⟨rfl, rfl⟩
  go_wp2_with fail
  go_ret
  exact ⟨rfl, rfl⟩

set_option maxRecDepth 8000 in
theorem vorder_W (w : World) (k n : Int) (h : Plain k n) : Calls Tryz.prog 77 #[.agg #[.int .u8 k, .int .i64 n, .string ⟨#[]⟩, .slice none 0 0, .int .i64 0], .agg #[.int .u8 k, .int .i64 n, .string ⟨#[]⟩, .slice none 0 0, .int .i64 0]] w fun e w' => e = .returned (.int .i64 0) ∧ Below w.heap.size w w' := by
  have HB : Hid (Below w.heap.size w ((w.alloc (.cells #[.int .u8 k, .int .i64 n, .string ⟨#[]⟩, .slice none 0 0, .int .i64 0] 34)).alloc (.cells #[.int .u8 k, .int .i64 n, .string ⟨#[]⟩, .slice none 0 0, .int .i64 0] 34))) := ((Below.refl _ _).alloc (Nat.le_refl _) _).alloc (by simp) _
  rcases h with ⟨rfl, rfl⟩ | rfl
  · go_enter Tryz.func77, Tryz.ntmps77
    go_wp2_with fail
    refine (cmpfVal_nil _ _).mono ?_
    rintro e _ ⟨rfl, rfl⟩
    go_wp2_with fail
    go_ret
    exact ⟨rfl, HB.out⟩
  · go_enter Tryz.func77, Tryz.ntmps77
    go_wp2_with fail
    refine (cmpI64_W _ n).mono ?_
    rintro e _ ⟨rfl, rfl⟩
    go_wp2_with fail
    go_ret
    exact ⟨rfl, HB.out⟩

set_option maxRecDepth 8000 in
theorem vSame_W (w : World) (k n : Int) (h : Plain k n) : Calls Tryz.prog 29 #[.agg #[.int .u8 k, .int .i64 n, .string ⟨#[]⟩, .slice none 0 0, .int .i64 0], .agg #[.int .u8 k, .int .i64 n, .string ⟨#[]⟩, .slice none 0 0, .int .i64 0]] w fun e w' => e = .returned (.bool true) ∧ Below w.heap.size w w' := by
  go_enter Tryz.func29, Tryz.ntmps29
  go_wp2_with fail
  refine (vMay_W _ k n h).mono ?_
  rintro e w1 ⟨rfl, hb1⟩
  have HB1 : Hid (Below w.heap.size w w1) := (((Below.refl _ w).alloc (Nat.le_refl _) _).alloc (by simp) _).trans (hb1.mono (by simp; omega))
  obtain ⟨⟨a0, a1, a2, a3, a4⟩, -⟩ := cells5 (below_blk hb1 (blk2_old w _ _))
  obtain ⟨⟨b0, b1, b2, b3, b4⟩, -⟩ := cells5 (below_blk hb1 (blk2_new w _ _))
  have HA := (show Hid _ from below_blk hb1 (blk2_old w _ _))
  have HC := (show Hid _ from below_blk hb1 (blk2_new w _ _))
  clear hb1
  go_wp2_with fail
  refine (vMay_W _ k n h).mono ?_
  rintro e w2 ⟨rfl, hb2⟩
  have HB2 : Hid (Below w.heap.size w w2) := HB1.out.trans (hb2.mono HB1.out.size)
  have hA2 := below_blk hb2 HA.out
  have hC2 := below_blk hb2 HC.out
  clear a0 a1 a2 a3 a4 b0 b1 b2 b3 b4
  obtain ⟨⟨a0, a1, a2, a3, a4⟩, -⟩ := cells5 hA2
  obtain ⟨⟨b0, b1, b2, b3, b4⟩, -⟩ := cells5 hC2
  clear hb2 hA2 hC2 HA HC HB1
  go_wp2_with fail
  refine (vorder_W _ k n h).mono ?_
  rintro e w3 ⟨rfl, hb3⟩
  have HB3 : Hid (Below w.heap.size w w3) := HB2.out.trans (hb3.mono HB2.out.size)
  clear hb3 a0 a1 a2 a3 a4 b0 b1 b2 b3 b4
  go_wp2_with fail
  go_ret
  exact ⟨rfl, HB3.out⟩
end Go.Proofs.YthebeomenjfdlaaGreat
/- Helpers of PlainSums: a fresh world, numbers compared. -/
namespace Go.Proofs.YthebeomenjfdlaaGreat
open Go.RowKit Go.ChangeMaps Go.MapKept

set_option maxRecDepth 8000 in
theorem fresh08_W (w : World) : Calls Tryz.prog 9 #[] w fun e w' => ∃ p, e = .returned (.pointer (some ⟨p, 0, none⟩)) ∧ Own w w' p AM0 := by
  go_enter Tryz.func9, Tryz.ntmps9
  go_wp2_with fail
  refine (New_W w none 0 [] (.inl rfl)).mono ?_
  rintro e w1 hpost
  obtain ⟨p, F, rfl, hW, hF, hb⟩ := (Or.resolve_right hpost (fun h => h.1 atree)).2
  clear hpost
  have HO : Hid (Own w w1 p AM0) := ⟨F, hW, fun b h => hF b h, hb⟩
  clear hW hF hb
  go_wp2_with fail
  go_ret
  exact ⟨p, rfl, HO.out⟩

set_option maxRecDepth 8000 in
theorem vorder_num (w : World) (n : Int) (pv : Option Addr) (cv : Nat) : Calls Tryz.prog 77 #[.agg #[.int .u8 1, .int .i64 n, .string ⟨#[]⟩, .slice pv 0 cv, .int .i64 0], .agg #[.int .u8 1, .int .i64 n, .string ⟨#[]⟩, .slice none 0 0, .int .i64 0]] w fun e w' => e = .returned (.int .i64 0) ∧ Below w.heap.size w w' := by
  have HB : Hid (Below w.heap.size w ((w.alloc (.cells #[.int .u8 1, .int .i64 n, .string ⟨#[]⟩, .slice pv 0 cv, .int .i64 0] 34)).alloc (.cells #[.int .u8 1, .int .i64 n, .string ⟨#[]⟩, .slice none 0 0, .int .i64 0] 34))) := ((Below.refl _ _).alloc (Nat.le_refl _) _).alloc (by simp) _
  go_enter Tryz.func77, Tryz.ntmps77
  go_wp2_with fail
  refine (cmpI64_W _ n).mono ?_
  rintro e _ ⟨rfl, rfl⟩
  go_wp2_with fail
  go_ret
  exact ⟨rfl, HB.out⟩

set_option maxRecDepth 8000 in
theorem vSame_num (w : World) (n : Int) (pv : Option Addr) (cv : Nat) : Calls Tryz.prog 29 #[.agg #[.int .u8 1, .int .i64 n, .string ⟨#[]⟩, .slice pv 0 cv, .int .i64 0], .agg #[.int .u8 1, .int .i64 n, .string ⟨#[]⟩, .slice none 0 0, .int .i64 0]] w fun e w' => e = .returned (.bool true) ∧ Below w.heap.size w w' := by
  have HM : Hid (∀ (pv : Option Addr) (cv : Nat) (w : World), Calls Tryz.prog 59 #[.agg #[.int .u8 1, .int .i64 n, .string ⟨#[]⟩, .slice pv 0 cv, .int .i64 0]] w fun e w' => e = .returned (.bool true) ∧ Below w.heap.size w w') := fun pv cv w => by
    have h := vMay_G (v := numV n) (SlAt.nil w (fun _ => False) pv cv)
    rw [(refsV0 1 n (.inr rfl)).2] at h
    exact h
  go_enter Tryz.func29, Tryz.ntmps29
  go_wp2_with fail
  refine (HM.out _ _ _).mono ?_
  rintro e w1 ⟨rfl, hb1⟩
  have HB1 : Hid (Below w.heap.size w w1) := (((Below.refl _ w).alloc (Nat.le_refl _) _).alloc (by simp) _).trans (hb1.mono (by simp; omega))
  obtain ⟨⟨a0, a1, a2, a3, a4⟩, -⟩ := cells5 (below_blk hb1 (blk2_old w _ _))
  obtain ⟨⟨b0, b1, b2, b3, b4⟩, -⟩ := cells5 (below_blk hb1 (blk2_new w _ _))
  have HA := (show Hid _ from below_blk hb1 (blk2_old w _ _))
  have HC := (show Hid _ from below_blk hb1 (blk2_new w _ _))
  clear hb1
  go_wp2_with fail
  refine (HM.out _ _ _).mono ?_
  rintro e w2 ⟨rfl, hb2⟩
  have HB2 : Hid (Below w.heap.size w w2) := HB1.out.trans (hb2.mono HB1.out.size)
  have hA2 := below_blk hb2 HA.out
  have hC2 := below_blk hb2 HC.out
  clear a0 a1 a2 a3 a4 b0 b1 b2 b3 b4
  obtain ⟨⟨a0, a1, a2, a3, a4⟩, -⟩ := cells5 hA2
  obtain ⟨⟨b0, b1, b2, b3, b4⟩, -⟩ := cells5 hC2
  clear hb2 hA2 hC2 HA HC HB1
  go_wp2_with fail
  refine (vorder_num _ n _ _).mono ?_
  rintro e w3 ⟨rfl, hb3⟩
  have HB3 : Hid (Below w.heap.size w w3) := HB2.out.trans (hb3.mono HB2.out.size)
  clear hb3 a0 a1 a2 a3 a4 b0 b1 b2 b3 b4
  go_wp2_with fail
  go_ret
  exact ⟨rfl, HB3.out⟩

end Go.Proofs.YthebeomenjfdlaaGreat
/- Arguments of a law that are slices or arrays of whole numbers: what the walk is given. -/
namespace Go.Proofs.YthebeomenjfdlaaGreat
open Go.ChangeShapes Go.WideShapes Go.ChangeAt Go.RowKit

/-- The whole numbers that a slice holds. -/
def IntArg (k : IntKind) (w : World) (pa : Option Addr) (xs : List Int) : Prop :=
  xs = [] ∨ ∃ b o, pa = some ⟨b, o, none⟩ ∧ b < w.heap.size ∧ ∀ (j : Nat) (x : Int), xs[j]? = some x → w.cell? ⟨b, o + j, none⟩ = some (.int k x)
theorem IntArg.side {w : World} {pa : Option Addr} {xs : List Int} (h : IntArg .i64 w pa xs) : SideArg w pa xs := by
  rcases h with h | ⟨b, o, h1, -, h3⟩
  · exact .inl h
  · exact .inr ⟨b, o, h1, h3⟩

theorem open_arr3 {H : Type} {enc : TypeId × Value → H} {P : Program} {k e : TypeId} {q : IntKind} {W : World} {base : Nat} {sp : Nat → Bool} {held : Bool} (hu : P.underlying k = some (.array 3 e)) (he : P.underlying e = some (.int q)) (hc : P.cellsOf e = 1)
    {r : Reach} {b0 : Nat} {v : Value} (hk : P.cellsOf k = 3) (hval : Value.okWide P W r b0 k v) {d : DataW H} {ps : List MemPlace} (hd : DataW.Trod enc P W base sp held k v d ps) :
    ∃ a b c : Int, v = .agg #[.int q a, .int q b, .int q c] := by
  simp only [Value.okWide, hu] at hval
  obtain ⟨xs, rfl, hn, _⟩ := hval
  rw [hk] at hn
  obtain ⟨fuel, hf⟩ := hd
  cases fuel with
  | zero => simp [DataW.trod] at hf
  | succ m =>
    rw [DataW.trod_step] at hf
    unfold DataW.trodStep at hf
    simp only [hu, Value.cells] at hf
    rw [if_pos (by rw [hk]; simpa using hn)] at hf
    simp only [Option.map_eq_some_iff] at hf
    obtain ⟨ys, hy, -⟩ := hf
    rw [hc, show List.range 3 = [0, 1, 2] from rfl] at hy
    obtain ⟨l⟩ := xs
    match l, hn with
    | [x, y, z], _ =>
      simp only [List.mapM_cons, bind, Option.bind_eq_some_iff] at hy
      obtain ⟨u0, h0, _, ⟨u1, h1, _, ⟨u2, h2, _⟩, _⟩, _⟩ := hy
      obtain ⟨a, ha, -, -⟩ := DataW.trod_int he h0
      obtain ⟨b, hb, -, -⟩ := DataW.trod_int he h1
      obtain ⟨c, hc', -, -⟩ := DataW.trod_int he h2
      simp at ha hb hc'
      exact ⟨a, b, c, by rw [ha, hb, hc']⟩

/-- A slice of whole numbers, as the walks want it. -/
theorem open_nums {H : Type} {enc : TypeId × Value → H} {P : Program} {t e : TypeId} {k : IntKind} {W : World} {base : Nat} {held : Bool} (ht : P.underlying t = some (.slice e)) (he : P.underlying e = some (.int k)) (hc : P.cellsOf e = 1)
    {r : Reach} {b0 : Nat} {v : Value} (hval : Value.okWide P W r b0 t v) {d : DataW H} {ps : List MemPlace} (hd : DataW.Trod enc P W base (fun _ => true) held t v d ps) :
    ∃ (pa : Option Addr) (c : Nat) (xs : List Int), v = .slice pa xs.length c ∧ (xs.length : Int) ≤ maxLen ∧ (∀ x ∈ xs, (Lit.int k x).wf = true) ∧
      IntArg k W pa xs := by
  obtain ⟨fuel, hf⟩ := hd
  obtain ⟨a0, len, cap, rfl⟩ := okWide_slice ht hval
  rcases open_ints ht he hc hf with ⟨hcs, hx⟩ | ⟨a, len', cap', zs, hcs, _, hl, hm, hz, hx, hcell, hwz⟩
  · simp [Value.cells] at hcs
    obtain ⟨rfl, rfl, rfl⟩ := hcs
    exact ⟨none, 0, [], rfl, by unfold maxLen; simp, by simp, .inl rfl⟩
  · simp [Value.cells] at hcs
    obtain ⟨rfl, rfl, rfl⟩ := hcs
    simp only [if_true] at hz
    have hlen : (zs.take len).length = len := by simp; omega
    refine ⟨some a, cap, zs.take len, by rw [hlen], ?_, fun x hx => hwz x (List.mem_of_mem_take hx), ?_⟩
    · rw [hlen]
      omega
    by_cases h0 : len = 0
    · subst h0
      exact .inl rfl
    · right
      obtain ⟨b, off, spot⟩ := a
      have c0 := hcell 0 (by omega)
      have hspot : spot = none := by simpa [Addr.add] using World.cell?_spot c0
      subst hspot
      refine ⟨b, off, rfl, ?_, fun j x hj => ?_⟩
      · have := World.block_lt_of_cell? _ _ c0
        simpa [Addr.add] using this
      · have hj' := (List.getElem?_eq_some_iff.1 hj).1
        rw [hlen] at hj'
        rw [List.getElem?_take, if_pos hj'] at hj
        have hadd : (⟨b, off, none⟩ : Addr).add j = ⟨b, off + j, none⟩ := by unfold Addr.add; split <;> simp_all
        have := hcell j (by omega)
        rw [hadd] at this
        rw [this, List.getD_eq_getElem?_getD, hj]
        rfl
end Go.Proofs.YthebeomenjfdlaaGreat
/- PlainSums: the walk. -/
namespace Go.Proofs.YthebeomenjfdlaaGreat
open Go.RowKit Go.ChangeMaps Go.MapKept

/-- The world and its tally. -/
def SumAt (w wr : World) (p : Nat) (s : Int) : Prop := ∃ M : WM, M.at 1 = some (lt 3 0 0 0 s 0 0 0 0 false) ∧ sideB M 0 = true ∧ Own w wr p M
theorem SumAt.below {w wr w' : World} {p : Nat} {s : Int} (h : SumAt w wr p s) (hb : Below wr.heap.size wr w') : SumAt w w' p s := by
  obtain ⟨M, h1, h2, h3⟩ := h
  exact ⟨M, h1, h2, h3.below hb⟩
theorem meas_upto {k n : Nat} (h : k < n) : n - (intOf (.int .i64 ((k : Int) + 1))).toNat < n - (intOf (.int .i64 (k : Int))).toNat := by
  simp [intOf]
  omega
/-- The tally's answer to a number. -/
theorem sum_give {w wr : World} {p : Nat} {s : Int} (h : SumAt w wr p s) (hs : 0 ≤ s ∧ s ≤ 9007199254740992) (x : Int) :
    Calls Tryz.prog 17 #[.pointer (some ⟨p, 0, none⟩), .int .i64 1, .agg #[.int .u8 1, .int .i64 x, .string ⟨#[]⟩, .slice none 0 0, .int .i64 0]] wr fun e w' => ∃ c s', e = .returned (.int .i64 c) ∧ SumAt w w' p s' ∧ (0 ≤ s' ∧ s' ≤ 9007199254740992) ∧
      ((x < 0 ∧ c = 2 ∧ s' = s) ∨ (0 ≤ x ∧ 9007199254740992 - s < x ∧ c = 8 ∧ s' = s) ∨ (0 ≤ x ∧ s + x ≤ 9007199254740992 ∧ c = 0 ∧ s' = s + x)) := by
  obtain ⟨M, h1, h2, F, hW, hF, hB⟩ := h
  refine (plGive_A (v := numV x) (pv := none) (nv := 0) (cv := 0) (fun w1 hb => act_3_8 (hW.below hb) (by decide) h1 h2 hs x)).mono ?_
  rintro e w' ⟨v, n, N, rfl, ⟨-, hx⟩, ha⟩
  have hO := Own.acts hF hB ha
  rcases hx with ⟨h3, rfl, rfl⟩ | ⟨h3, h4, rfl, rfl⟩ | ⟨h3, h4, rfl, rfl⟩
  · exact ⟨_, s, rfl, ⟨_, h1, h2, hO⟩, hs, .inl ⟨h3, rfl, rfl⟩⟩
  · exact ⟨_, s, rfl, ⟨_, h1, h2, hO⟩, hs, .inr (.inl ⟨h3, h4, rfl, rfl⟩)⟩
  · exact ⟨_, s + x, rfl, ⟨_, WM.set_at_self _ h1, h2, hO⟩, ⟨by omega, by omega⟩, .inr (.inr ⟨h3, h4, rfl, rfl⟩)⟩
theorem sum_get {w wr : World} {p : Nat} {s : Int} (h : SumAt w wr p s) :
    Calls Tryz.prog 24 #[.pointer (some ⟨p, 0, none⟩), .int .i64 1] wr fun e w' => ∃ pv cv, e = .returned (.tuple #[.agg #[.int .u8 1, .int .i64 s, .string ⟨#[]⟩, .slice pv 0 cv, .int .i64 0], .int .i64 0]) ∧ SumAt w w' p s := by
  obtain ⟨M, h1, h2, F, hW, hF, hB⟩ := h
  refine (plGet_A hW.lt (fun w1 hb => act_3_1 (hW.below hb) (by decide) h1)).mono ?_
  rintro e w' hp
  obtain ⟨v, pv, cv, n, N, rfl, ⟨rfl, rfl, rfl⟩, ha⟩ := hp.acts
  exact ⟨pv, cv, rfl, _, h1, h2, Own.acts hF hB ha⟩
theorem sum_start {w wr : World} {p : Nat} (h : Own w wr p AM0) :
    Calls Tryz.prog 22 #[.pointer (some ⟨p, 0, none⟩), .int .i64 0] wr fun e w' => e = .returned (.tuple #[.int .i64 1, .int .i64 0]) ∧ SumAt w w' p 0 := by
  obtain ⟨F, hW, hF, hB⟩ := h
  refine (Tally_G hW (by decide) (h := 0) (by decide)).mono ?_
  rintro e w3 (⟨-, rfl, t, F', rfl, hW', hg⟩ | ⟨hx, -, -⟩)
  · exact ⟨rfl, _, rfl, rfl, Own.turn hF hB hW' hg⟩
  · exact absurd (by decide) hx

-- region 22 head
theorem execOp_ldVs79 (ρ : Operand → Value) (ty : TypeId) (pos : String) (af : Array Edge) (g : Option (Nat × Bool)) :
    execOp ρ { dst := some 79, op := .load 34 (.tmp 9), type := ty, pos := pos, after := af, guard := g } = ldV (ρ (.tmp 9)) := rfl
def SuPhi (s' : Int) (pv : Option Addr) (cv : Nat) (j : Nat) (v : Value) (_ : World) : Prop :=
  match j with
  | 0 => v = .int .i64 0
  | 1 => v = .bool false
  | 2 => v = .bool false
  | 3 => v = .agg #[.int .u8 1, .int .i64 s', .string ⟨#[]⟩, .slice pv 0 cv, .int .i64 0]
  | 4 => v = .int .i64 s'
  | 5 => v = .agg #[.int .u8 1, .int .i64 s', .string ⟨#[]⟩, .slice none 0 0, .int .i64 0]
  | 6 => v = .bool true
  | 7 => v = .bool false
  | _ => True
-- region 22 head end
set_option maxHeartbeats 4000000 in
set_option maxRecDepth 100000 in
theorem sums_walk (w : World) (pa : Option Addr) (c : Nat) (xs : List Int) (hx : IntArg .i64 w pa xs) (hwx : ∀ x ∈ xs, (Lit.int .i64 x).wf = true) :
    Calls Tryz.prog 5 #[.slice pa xs.length c] w fun e w' => e = .returned (.bool true) ∧ Below w.heap.size w w' := by
  have Hx : Hid (IntArg .i64 w pa xs) := hx
  have Hwx : Hid (∀ x ∈ xs, (Lit.int .i64 x).wf = true) := hwx
  obtain ⟨n, hn⟩ : ∃ n, n = xs.length := ⟨_, rfl⟩
  have Hn : Hid (n = xs.length) := hn
  rw [← hn]
  clear hx hn hwx
  go_enter Tryz.func5, Tryz.ntmps5
  go_wp2_with fail
  refine (fresh08_W w).mono ?_
  rintro e w1 ⟨p, rfl, hO⟩
  have HO : Hid (Own w w1 p AM0) := hO
  clear hO
  by_cases h80 : (n : Int) > 80
  · go_wp2_with fail
    refine (awake08_W w1).mono ?_
    rintro e w2 ⟨rfl, hb2⟩
    have HB : Hid (Below w.heap.size w w2) := (HO.out.below hb2).below0
    clear hb2 HO
    go_wp2_with fail
    go_ret
    exact ⟨rfl, HB.out⟩
  · go_wp2_with fail
    refine (sum_start HO.out).mono ?_
    rintro e w2 ⟨rfl, hS⟩
    have HS : Hid (SumAt w w2 p 0) := hS
    clear hS HO
    go_wp2_with fail
    go_loopw [6, 7] (fun vs vi wr => ∃ (k : Nat) (s : Int), vs = .int .i64 s ∧ vi = .int .i64 k ∧ k ≤ n ∧ 0 ≤ s ∧ s ≤ 9007199254740992 ∧ Hid (SumAt w wr p s)) (fun _ vi _ => n - (intOf vi).toNat)
    case atStart => exact ⟨0, 0, rfl, rfl, Nat.zero_le _, by omega, by omega, HS.out⟩
    case round =>
      clear HS
      obtain ⟨k, s, rfl, rfl, hk1, hs0, hs1, HS⟩ := hrel
      by_cases hk : k < n
      · have hkz : (k : Int) < (n : Int) := by omega
        have hwk : wrap64 ((k : Int) + 1) = (k : Int) + 1 := by unfold wrap64; omega
        obtain ⟨x, hxk⟩ : ∃ x, xs[k]? = some x := ⟨_, List.getElem?_eq_getElem (by have := Hn.out; omega)⟩
        have hxw := Hwx.out x (List.mem_of_getElem? hxk)
        obtain ⟨bq, oq, rfl, HC⟩ : ∃ bq oq, pa = some ⟨bq, oq, none⟩ ∧ Hid (∀ w2, Below w.heap.size w w2 → w2.cell? ⟨bq, oq + k, none⟩ = some (.int .i64 x)) := by
          rcases Hx.out with rfl | ⟨bq, oq, h1, h2, h3⟩
          · simp at hxk
          · exact ⟨bq, oq, h1, fun w2 hb => (hb.cell (p := ⟨bq, oq + k, none⟩) h2).trans (h3 k x hxk)⟩
        obtain ⟨M, -, -, hO⟩ := HS.out
        have hcy := HC.out _ hO.below0
        have hcn : bq < wr.heap.size := World.block_lt_of_cell? _ _ hcy
        clear hO hxk
        go_wp2_with fail
        refine (num08_W _ x).mono ?_
        rintro e w3 ⟨rfl, hb3⟩
        have HS3 : Hid (SumAt w w3 p s) := HS.out.below hb3
        clear hb3 HS hcy hcn
        go_wp2_with fail
        refine (sum_give HS3.out ⟨hs0, hs1⟩ x).mono ?_
        rintro e w4 ⟨c8, s', rfl, hS4, ⟨hs2, hs3⟩, hcomb⟩
        have HS4 : Hid (SumAt w w4 p s') := hS4
        obtain ⟨M, -, -, hO⟩ := hS4
        have hcy := HC.out _ hO.below0
        have hcn : bq < w4.heap.size := World.block_lt_of_cell? _ _ hcy
        have hw1 : wrap64 (9007199254740992 - s) = 9007199254740992 - s := by unfold wrap64; omega
        clear hO HS3
        go_upto_block 2 with fail
        go_cut [6] from 30 to 84 (fun v wx => v = .int .i64 s' ∧ w4 = wx)
        case first =>
          rcases hcomb with ⟨h1, rfl, rfl⟩ | ⟨h1, h2, rfl, rfl⟩ | ⟨h1, h2, rfl, rfl⟩
          · go_wp2_with fail
            go_meet
            exact ⟨rfl, rfl⟩
          · have h1' : ¬ x < 0 := by omega
            go_wp2_with fail
            go_meet
            exact ⟨rfl, rfl⟩
          · have h1' : ¬ x < 0 := by omega
            have h2' : ¬ (9007199254740992 - s < x) := by omega
            have hw2 : wrap64 (s + x) = s + x := by unfold wrap64; omega
            go_wp2_with fail
            go_meet
            exact ⟨rfl, rfl⟩
        obtain ⟨rfl, rfl⟩ := hcut
        go_wp2_with fail
        refine (sum_get HS4.out).mono ?_
        rintro e w5 ⟨pv, cv, rfl, hS5⟩
        have HS6 : Hid (SumAt w (w5.alloc (.cells #[.int .u8 1, .int .i64 s', .string ⟨#[]⟩, .slice pv 0 cv, .int .i64 0] 34)) p s') := hS5.below ((Below.refl _ _).alloc (Nat.le_refl _) _)
        clear hS5 HS4 hcy hcn
        go_upto_region 22 with fail
        obtain ⟨q9, hq9⟩ : ∃ q9, q9 = w5.heap.size := ⟨_, rfl⟩
        have Hq : Hid ((w5.alloc (.cells #[.int .u8 1, .int .i64 s', .string ⟨#[]⟩, .slice pv 0 cv, .int .i64 0] 34)).heap[q9]? = some (.cells #[.int .u8 1, .int .i64 s', .string ⟨#[]⟩, .slice pv 0 cv, .int .i64 0] 34 (0, 0))) := by
          show _ = _
          rw [hq9]
          exact blk_new _ _
        rw [← hq9]
        clear hq9
        revert HS6 Hq
        generalize w5.alloc _ = wa
        intro HS6 Hq
        -- region 22
        refine wp_region_growK 8 (by kernel_rfl) rfl (by kernel_rfl) (by kernel_rfl) (fun a b => Below a.heap.size a b) (SuPhi s' pv cv) (fun w' => Below wa.heap.size wa w') (fun j v w w' _ h => h) below_drew (fun a b h hR => h.trans (hR.mono h.size)) ?_ ?_ ?_
        · intro j q g b hq hgd
          have hj : j < 8 := (List.getElem?_eq_some_iff.1 hq).1
          match j, hj with
          | 0, _ => cases hq; cases hgd
          | 1, _ => cases hq; cases hgd
          | 2, _ => cases hq; cases hgd
          | 3, _ => cases hq; cases hgd; exact fun v w h => h
          | 4, _ => cases hq; cases hgd; exact fun v w h => h
          | 5, _ => cases hq; cases hgd; exact fun v w h => h
          | 6, _ => cases hq; cases hgd; exact fun v w h => h
          | 7, _ => cases hq; cases hgd; exact fun v w h => h
        · intro j q a w7 hq hC hG
          have hj : j < 8 := (List.getElem?_eq_some_iff.1 hq).1
          match j, hj with
            | 0, _ =>
              cases hq
              have h8 : a.tmps.getD 8 undef = .int .i64 0 := hG.fr 8 (by simp)
              have h8' : a.tmps[8]?.getD undef = .int .i64 0 := by rw [← h8]; simp [Array.getD_eq_getD_getElem?]
              unfold Oper.wp
              simp [go_sem, Act.eval, h8']
              exact ⟨_, rfl, Below.refl _ _, rfl⟩
            | 1, _ =>
              cases hq
              have h76 : a.tmps.getD 76 undef = .int .i64 0 := hG.dep ⟨0, .data⟩ (by simp) rfl _ rfl
              have h76' : a.tmps[76]?.getD undef = .int .i64 0 := by rw [← h76]; simp [Array.getD_eq_getD_getElem?]
              unfold Oper.wp
              simp [go_sem, Act.eval, h76']
              exact ⟨_, rfl, Below.refl _ _, rfl⟩
            | 2, _ =>
              cases hq
              have h77 : a.tmps.getD 77 undef = .bool false := hG.dep ⟨1, .data⟩ (by simp) rfl _ rfl
              have h77' : a.tmps[77]?.getD undef = .bool false := by rw [← h77]; simp [Array.getD_eq_getD_getElem?]
              unfold Oper.wp
              simp [go_sem, Act.eval, h77']
              exact ⟨_, rfl, Below.refl _ _, rfl⟩
            | 3, _ =>
              cases hq
              have h9 : a.tmps.getD 9 undef = .pointer (some ⟨q9, 0, none⟩) := hG.fr 9 (by simp)
              have h9' : a.tmps[9]?.getD undef = .pointer (some ⟨q9, 0, none⟩) := by rw [← h9]; simp [Array.getD_eq_getD_getElem?]
              refine step_g (.agg #[.int .u8 1, .int .i64 s', .string ⟨#[]⟩, .slice pv 0 cv, .int .i64 0]) ?_ (Below.refl _ _) rfl
              rw [execOp_ldVs79]
              show (ldV (a.tmps.getD 9 undef)).run _ _ = _
              rw [h9]
              exact loadV_blk (below_blk hC Hq.out) rfl
            | 4, _ =>
              cases hq
              have h6 : a.tmps.getD 6 undef = .int .i64 s' := hG.fr 6 (by simp)
              have h6' : a.tmps[6]?.getD undef = .int .i64 s' := by rw [← h6]; simp [Array.getD_eq_getD_getElem?]
              unfold Oper.wp
              simp [go_sem, Act.eval, h6']
              exact ⟨_, rfl, Below.refl _ _, rfl⟩
            | 5, _ =>
              cases hq
              have h80 : a.tmps.getD 80 undef = .int .i64 s' := hG.dep ⟨4, .data⟩ (by simp) rfl _ rfl
              have h80' : a.tmps[80]?.getD undef = .int .i64 s' := by rw [← h80]; simp [Array.getD_eq_getD_getElem?]
              unfold Oper.wp
              simp [go_sem, callFunc, Act.eval, Tryz.func28, h80']
              refine (num08_W _ s').mono ?_
              rintro e w8 ⟨rfl, hb8⟩
              exact ⟨_, rfl, hb8, rfl⟩
            | 6, _ =>
              cases hq
              have h79 : a.tmps.getD 79 undef = .agg #[.int .u8 1, .int .i64 s', .string ⟨#[]⟩, .slice pv 0 cv, .int .i64 0] := hG.dep ⟨3, .data⟩ (by simp) rfl _ rfl
              have h79' : a.tmps[79]?.getD undef = .agg #[.int .u8 1, .int .i64 s', .string ⟨#[]⟩, .slice pv 0 cv, .int .i64 0] := by rw [← h79]; simp [Array.getD_eq_getD_getElem?]
              have h81 : a.tmps.getD 81 undef = .agg #[.int .u8 1, .int .i64 s', .string ⟨#[]⟩, .slice none 0 0, .int .i64 0] := hG.dep ⟨5, .data⟩ (by simp) rfl _ rfl
              have h81' : a.tmps[81]?.getD undef = .agg #[.int .u8 1, .int .i64 s', .string ⟨#[]⟩, .slice none 0 0, .int .i64 0] := by rw [← h81]; simp [Array.getD_eq_getD_getElem?]
              unfold Oper.wp
              simp [go_sem, callFunc, Act.eval, Tryz.func29, h79', h81']
              refine (vSame_num _ s' pv cv).mono ?_
              rintro e w8 ⟨rfl, hb8⟩
              exact ⟨_, rfl, hb8, rfl⟩
            | 7, _ =>
              cases hq
              have h82 : a.tmps.getD 82 undef = .bool true := hG.dep ⟨6, .data⟩ (by simp) rfl _ rfl
              have h82' : a.tmps[82]?.getD undef = .bool true := by rw [← h82]; simp [Array.getD_eq_getD_getElem?]
              unfold Oper.wp
              simp [go_sem, Act.eval, h82']
              exact ⟨_, rfl, Below.refl _ _, rfl⟩
        · intro a w7 hC hdf hsz hfr hphi
          have e0 : a.tmps.getD 76 undef = .int .i64 0 := hphi 0 _ rfl
          have e1 : a.tmps.getD 77 undef = .bool false := hphi 1 _ rfl
          have e2 : a.tmps.getD 78 undef = .bool false := hphi 2 _ rfl
          have e3 : a.tmps.getD 79 undef = .agg #[.int .u8 1, .int .i64 s', .string ⟨#[]⟩, .slice pv 0 cv, .int .i64 0] := hphi 3 _ rfl
          have e4 : a.tmps.getD 80 undef = .int .i64 s' := hphi 4 _ rfl
          have e5 : a.tmps.getD 81 undef = .agg #[.int .u8 1, .int .i64 s', .string ⟨#[]⟩, .slice none 0 0, .int .i64 0] := hphi 5 _ rfl
          have e6 : a.tmps.getD 82 undef = .bool true := hphi 6 _ rfl
          have e7 : a.tmps.getD 83 undef = .bool false := hphi 7 _ rfl
          have ha := act_of hdf hsz hfr
          simp only [List.take_succ_cons, List.take_zero, List.filterMap_cons, List.filterMap_nil, List.foldl_cons, List.foldl_nil, List.setIfInBounds_toArray, List.set_cons_zero, List.set_cons_succ, e0, e1, e2, e3, e4, e5, e6, e7] at ha
          clear hdf hsz hfr hphi e0 e1 e2 e3 e4 e5 e6 e7
          subst ha
          have HS7 : Hid (SumAt w w7 p s') := HS6.out.below hC
          clear hC HS6 Hq
        -- region 22 end
          refine ⟨rfl, ?_⟩
          unfold Oper.wp
          simp [execOp, go_sem, Act.eval, wpTailG]
          refine ‹∀ (a : Act) (w : World), Code.wp Tryz.prog _ _ a w → _› _ _ ?_
          go_wp2_with fail
          go_roundw
          case rel => exact ⟨k + 1, s', rfl, by go_num, by omega, hs2, hs3, HS7.out⟩
          case measure => exact meas_upto hk
      · have hkn : k = n := by omega
        subst hkn
        have hkz : ¬ ((k : Int) < (k : Int)) := by omega
        go_wp2_with fail
        refine (awake08_W wr).mono ?_
        rintro e w2 ⟨rfl, hb2⟩
        obtain ⟨M, -, -, hO⟩ := HS.out
        have HB : Hid (Below w.heap.size w w2) := (hO.below hb2).below0
        clear hb2 HS hO
        go_wp2_with fail
        go_ret
        exact ⟨rfl, HB.out⟩
end Go.Proofs.YthebeomenjfdlaaGreat
