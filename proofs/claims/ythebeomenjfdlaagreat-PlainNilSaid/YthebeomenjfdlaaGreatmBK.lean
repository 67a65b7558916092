/- A part of the proof, several texts in one: NilW, Open, OpenV. -/
import Derived.Test.YthebeomenjfdlaaGreatmBA
import Derived.Test.YthebeomenjfdlaaGreatmBB
import Derived.Test.YthebeomenjfdlaaGreatmBJ
import Derived.Test.YthebeomenjfdlaaGreatmAF
import Derived.WalkKit
import Derived.ProofKit
import Derived.OpenShut
import Derived.ChangeSame
import Derived.ChangeSlices
import Derived.Carry
import Derived.RowKit
import Derived.Test.YthebeomenjfdlaaGreatmAC
/- PlainNil: the walk. Printed by gen_nil.py. -/
namespace Go.Proofs.YthebeomenjfdlaaGreat
open Go.RowKit Go.ChangeMaps Go.MapKept

set_option maxHeartbeats 8000000 in
set_option maxRecDepth 20000 in
theorem nil_walk (w : World) {F : Nat → Prop} (s r a : Int) (x : Val) (raw : Value) (hS : SlAt w F raw x.l) (ha : (Lit.int .u8 a).wf = true) :
    Calls Tryz.prog 4 #[.int .i64 s, .int .i64 r, .int .u8 a, .agg (vcs x raw)] w fun e w' => e = .returned (.bool true) ∧ Below w.heap.size w w' := by
  obtain ⟨pa, c, rfl⟩ := hS.form
  have hb0 : Below w.heap.size w (w.alloc (.cells (vcs x (.slice pa x.l.length c)) 34)) := (Below.refl _ _).alloc (Nat.le_refl _) _
  have HR := (show Hid _ from room_W x (.slice pa x.l.length c) (hS.on hb0))
  have HB0 := (show Hid _ from And.intro hb0 (blk_new w (.cells (vcs x (.slice pa x.l.length c)) 34)))
  have Ha := (show Hid _ from ha)
  clear hS hb0 ha
  obtain ⟨k, n, st, xl, q⟩ := x
  simp only [vcs] at HR HB0 ⊢
  generalize xl.length = l at *
  go_enter Tryz.func4, Tryz.ntmps4
  go_wp2_with fail
  refine Calls.mono HR.out ?_
  rintro e w1 ⟨raw', B, rfl, ⟨pr, nr, cr, rfl⟩, hb1⟩
  have HB1 : Hid (Below w.heap.size w (w1.alloc (.cells #[.int .u8 k, .int .i64 n, .string st, .slice pr nr cr, .int .i64 q] 34)) ∧ (w1.alloc (.cells #[.int .u8 k, .int .i64 n, .string st, .slice pr nr cr, .int .i64 q] 34)).heap[w.heap.size]? = some (.cells #[.int .u8 k, .int .i64 n, .string st, .slice pa l c, .int .i64 q] 34 (0, 0))) := by
    have h := HB0.out.1.trans (hb1.mono HB0.out.1.size)
    exact ⟨h.alloc h.size _, blk_old _ _ (below_blk hb1 HB0.out.2)⟩
  clear hb1 HB0 HR
  simp only [vcs]
  cases B with
  | false =>
    go_wp2_with fail
    refine (awake08_W _).mono ?_
    rintro e w2 ⟨rfl, hb2⟩
    have HB : Hid (Below w.heap.size w w2) := HB1.out.1.trans (hb2.mono HB1.out.1.size)
    clear hb2 HB1
    go_wp2_with fail
    go_ret
    exact ⟨rfl, HB.out⟩
  | true =>
    obtain ⟨⟨a0, a1, a2, a3, a4⟩, -⟩ := cells5 HB1.out.2
    go_wp2_with fail
    refine (Cell_nil _ s k n q st pa l c).mono ?_
    rintro e w2 ⟨rfl, hb2⟩
    have HB2 : Hid (Below w.heap.size w w2 ∧ w2.heap[w.heap.size]? = some (.cells #[.int .u8 k, .int .i64 n, .string st, .slice pa l c, .int .i64 q] 34 (0, 0))) := by
      have h := HB1.out.1.trans (hb2.mono HB1.out.1.size)
      exact ⟨h, (below_blk hb2 HB1.out.2)⟩
    clear a0 a1 a2 a3 a4
    obtain ⟨⟨a0, a1, a2, a3, a4⟩, -⟩ := cells5 HB2.out.2
    clear hb2 HB1
    go_wp2_with fail
    refine (Log_nil _ s).mono ?_
    rintro e w3 ⟨rfl, hb3⟩
    have HB3 : Hid (Below w.heap.size w w3 ∧ w3.heap[w.heap.size]? = some (.cells #[.int .u8 k, .int .i64 n, .string st, .slice pa l c, .int .i64 q] 34 (0, 0))) := by
      have h := HB2.out.1.trans (hb3.mono HB2.out.1.size)
      exact ⟨h, (below_blk hb3 HB2.out.2)⟩
    clear a0 a1 a2 a3 a4
    obtain ⟨⟨a0, a1, a2, a3, a4⟩, -⟩ := cells5 HB3.out.2
    clear hb3 HB2
    go_wp2_with fail
    refine (Tally_nil _ s).mono ?_
    rintro e w4 ⟨rfl, hb4⟩
    have HB4 : Hid (Below w.heap.size w w4 ∧ w4.heap[w.heap.size]? = some (.cells #[.int .u8 k, .int .i64 n, .string st, .slice pa l c, .int .i64 q] 34 (0, 0))) := by
      have h := HB3.out.1.trans (hb4.mono HB3.out.1.size)
      exact ⟨h, (below_blk hb4 HB3.out.2)⟩
    clear a0 a1 a2 a3 a4
    obtain ⟨⟨a0, a1, a2, a3, a4⟩, -⟩ := cells5 HB4.out.2
    clear hb4 HB3
    go_wp2_with fail
    refine (Queue_nil _ s).mono ?_
    rintro e w5 ⟨rfl, hb5⟩
    have HB5 : Hid (Below w.heap.size w w5 ∧ w5.heap[w.heap.size]? = some (.cells #[.int .u8 k, .int .i64 n, .string st, .slice pa l c, .int .i64 q] 34 (0, 0))) := by
      have h := HB4.out.1.trans (hb5.mono HB4.out.1.size)
      exact ⟨h, (below_blk hb5 HB4.out.2)⟩
    clear a0 a1 a2 a3 a4
    obtain ⟨⟨a0, a1, a2, a3, a4⟩, -⟩ := cells5 HB5.out.2
    clear hb5 HB4
    go_wp2_with fail
    refine (Promise_nil _ s).mono ?_
    rintro e w6 ⟨rfl, hb6⟩
    have HB6 : Hid (Below w.heap.size w w6 ∧ w6.heap[w.heap.size]? = some (.cells #[.int .u8 k, .int .i64 n, .string st, .slice pa l c, .int .i64 q] 34 (0, 0))) := by
      have h := HB5.out.1.trans (hb6.mono HB5.out.1.size)
      exact ⟨h, (below_blk hb6 HB5.out.2)⟩
    clear a0 a1 a2 a3 a4
    obtain ⟨⟨a0, a1, a2, a3, a4⟩, -⟩ := cells5 HB6.out.2
    clear hb6 HB5
    go_wp2_with fail
    refine (Get_nil _ r).mono ?_
    rintro e w7 ⟨rfl, hb7⟩
    have HB7 : Hid (Below w.heap.size w (w7.alloc (.cells #[.int .u8 0, .int .i64 0, .string ⟨#[]⟩, .slice none 0 0, .int .i64 0] 34)) ∧ (w7.alloc (.cells #[.int .u8 0, .int .i64 0, .string ⟨#[]⟩, .slice none 0 0, .int .i64 0] 34)).heap[w.heap.size]? = some (.cells #[.int .u8 k, .int .i64 n, .string st, .slice pa l c, .int .i64 q] 34 (0, 0))) := by
      have h := HB6.out.1.trans (hb7.mono HB6.out.1.size)
      exact ⟨h.alloc h.size _, blk_old _ _ (below_blk hb7 HB6.out.2)⟩
    clear a0 a1 a2 a3 a4
    obtain ⟨⟨a0, a1, a2, a3, a4⟩, -⟩ := cells5 HB7.out.2
    have Z22 : Hid ((w7.alloc (.cells #[.int .u8 0, .int .i64 0, .string ⟨#[]⟩, .slice none 0 0, .int .i64 0] 34)).heap[w7.heap.size]? = some (.cells #[.int .u8 0, .int .i64 0, .string ⟨#[]⟩, .slice none 0 0, .int .i64 0] 34 (0, 0))) := blk_new _ _
    have z22 := cell_blk Z22.out 0
    clear hb7 HB6
    go_wp2_with fail
    refine (Take_nil _ r n).mono ?_
    rintro e w8 ⟨rfl, hb8⟩
    have HB8 : Hid (Below w.heap.size w (w8.alloc (.cells #[.int .u8 0, .int .i64 0, .string ⟨#[]⟩, .slice none 0 0, .int .i64 0] 34)) ∧ (w8.alloc (.cells #[.int .u8 0, .int .i64 0, .string ⟨#[]⟩, .slice none 0 0, .int .i64 0] 34)).heap[w.heap.size]? = some (.cells #[.int .u8 k, .int .i64 n, .string st, .slice pa l c, .int .i64 q] 34 (0, 0))) := by
      have h := HB7.out.1.trans (hb8.mono HB7.out.1.size)
      exact ⟨h.alloc h.size _, blk_old _ _ (below_blk hb8 HB7.out.2)⟩
    clear a0 a1 a2 a3 a4
    obtain ⟨⟨a0, a1, a2, a3, a4⟩, -⟩ := cells5 HB8.out.2
    have y22 := (blk_old _ (.cells #[.int .u8 0, .int .i64 0, .string ⟨#[]⟩, .slice none 0 0, .int .i64 0] 34) (below_blk hb8 Z22.out))
    have Y22 := (show Hid _ from y22)
    clear z22 Z22 y22
    have Z22 := Y22
    clear Y22
    have z22 := cell_blk Z22.out 0
    have Z23 : Hid ((w8.alloc (.cells #[.int .u8 0, .int .i64 0, .string ⟨#[]⟩, .slice none 0 0, .int .i64 0] 34)).heap[w8.heap.size]? = some (.cells #[.int .u8 0, .int .i64 0, .string ⟨#[]⟩, .slice none 0 0, .int .i64 0] 34 (0, 0))) := blk_new _ _
    have z23 := cell_blk Z23.out 0
    clear hb8 HB7
    go_wp2_with fail
    refine (Do_nil _ r a k n q st pa l c Ha.out).mono ?_
    rintro e w9 ⟨rfl, hb9⟩
    have HB9 : Hid (Below w.heap.size w (w9.alloc (.cells #[.int .u8 0, .int .i64 0, .string ⟨#[]⟩, .slice none 0 0, .int .i64 0] 34)) ∧ (w9.alloc (.cells #[.int .u8 0, .int .i64 0, .string ⟨#[]⟩, .slice none 0 0, .int .i64 0] 34)).heap[w.heap.size]? = some (.cells #[.int .u8 k, .int .i64 n, .string st, .slice pa l c, .int .i64 q] 34 (0, 0))) := by
      have h := HB8.out.1.trans (hb9.mono HB8.out.1.size)
      exact ⟨h.alloc h.size _, blk_old _ _ (below_blk hb9 HB8.out.2)⟩
    clear a0 a1 a2 a3 a4
    obtain ⟨⟨a0, a1, a2, a3, a4⟩, -⟩ := cells5 HB9.out.2
    have y22 := (blk_old _ (.cells #[.int .u8 0, .int .i64 0, .string ⟨#[]⟩, .slice none 0 0, .int .i64 0] 34) (below_blk hb9 Z22.out))
    have Y22 := (show Hid _ from y22)
    clear z22 Z22 y22
    have Z22 := Y22
    clear Y22
    have z22 := cell_blk Z22.out 0
    have y23 := (blk_old _ (.cells #[.int .u8 0, .int .i64 0, .string ⟨#[]⟩, .slice none 0 0, .int .i64 0] 34) (below_blk hb9 Z23.out))
    have Y23 := (show Hid _ from y23)
    clear z23 Z23 y23
    have Z23 := Y23
    clear Y23
    have z23 := cell_blk Z23.out 0
    have Z24 : Hid ((w9.alloc (.cells #[.int .u8 0, .int .i64 0, .string ⟨#[]⟩, .slice none 0 0, .int .i64 0] 34)).heap[w9.heap.size]? = some (.cells #[.int .u8 0, .int .i64 0, .string ⟨#[]⟩, .slice none 0 0, .int .i64 0] 34 (0, 0))) := blk_new _ _
    have z24 := cell_blk Z24.out 0
    clear hb9 HB8
    go_wp2_with fail
    refine (Len_nil _ r).mono ?_
    rintro e _ ⟨rfl, rfl⟩
    go_wp2_with fail
    have HB10 := HB9
    clear HB9
    refine (Put_nil _ r k n q st pa l c).mono ?_
    rintro e w11 ⟨rfl, hb11⟩
    have HB11 : Hid (Below w.heap.size w w11 ∧ w11.heap[w.heap.size]? = some (.cells #[.int .u8 k, .int .i64 n, .string st, .slice pa l c, .int .i64 q] 34 (0, 0))) := by
      have h := HB10.out.1.trans (hb11.mono HB10.out.1.size)
      exact ⟨h, (below_blk hb11 HB10.out.2)⟩
    clear a0 a1 a2 a3 a4
    obtain ⟨⟨a0, a1, a2, a3, a4⟩, -⟩ := cells5 HB11.out.2
    have y22 := ((below_blk hb11 Z22.out))
    have Y22 := (show Hid _ from y22)
    clear z22 Z22 y22
    have Z22 := Y22
    clear Y22
    have z22 := cell_blk Z22.out 0
    have y23 := ((below_blk hb11 Z23.out))
    have Y23 := (show Hid _ from y23)
    clear z23 Z23 y23
    have Z23 := Y23
    clear Y23
    have z23 := cell_blk Z23.out 0
    have y24 := ((below_blk hb11 Z24.out))
    have Y24 := (show Hid _ from y24)
    clear z24 Z24 y24
    have Z24 := Y24
    clear Y24
    have z24 := cell_blk Z24.out 0
    clear hb11 HB10
    go_wp2_with fail
    refine (Give_nil _ r k n q st pa l c).mono ?_
    rintro e w12 ⟨rfl, hb12⟩
    have HB12 : Hid (Below w.heap.size w w12 ∧ w12.heap[w.heap.size]? = some (.cells #[.int .u8 k, .int .i64 n, .string st, .slice pa l c, .int .i64 q] 34 (0, 0))) := by
      have h := HB11.out.1.trans (hb12.mono HB11.out.1.size)
      exact ⟨h, (below_blk hb12 HB11.out.2)⟩
    clear a0 a1 a2 a3 a4
    obtain ⟨⟨a0, a1, a2, a3, a4⟩, -⟩ := cells5 HB12.out.2
    have y22 := ((below_blk hb12 Z22.out))
    have Y22 := (show Hid _ from y22)
    clear z22 Z22 y22
    have Z22 := Y22
    clear Y22
    have z22 := cell_blk Z22.out 0
    have y23 := ((below_blk hb12 Z23.out))
    have Y23 := (show Hid _ from y23)
    clear z23 Z23 y23
    have Z23 := Y23
    clear Y23
    have z23 := cell_blk Z23.out 0
    have y24 := ((below_blk hb12 Z24.out))
    have Y24 := (show Hid _ from y24)
    clear z24 Z24 y24
    have Z24 := Y24
    clear Y24
    have z24 := cell_blk Z24.out 0
    clear hb12 HB11
    go_wp2_with fail
    refine (awake08_W _ ).mono ?_
    rintro e w13 ⟨rfl, hb13⟩
    have HB13 : Hid (Below w.heap.size w w13) := HB12.out.1.trans (hb13.mono HB12.out.1.size)
    clear hb13 HB12 a0 a1 a2 a3 a4 z22 z23 z24
    go_wp2_with fail
    go_ret
    exact ⟨rfl, HB13.out⟩
end Go.Proofs.YthebeomenjfdlaaGreat
/- Arguments of a law that are slices or arrays of whole numbers: what the walk is given. -/
namespace Go.Proofs.YthebeomenjfdlaaGreat
open Go.ChangeShapes Go.WideShapes Go.ChangeAt Go.RowKit

/-- The whole numbers that a slice holds. -/
def IntArg (k : IntKind) (w : World) (pa : Option Addr) (xs : List Int) : Prop :=
  xs = [] ∨ ∃ b o, pa = some ⟨b, o, none⟩ ∧ b < w.heap.size ∧ ∀ (j : Nat) (x : Int), xs[j]? = some x → w.cell? ⟨b, o + j, none⟩ = some (.int k x)
theorem IntArg.side {w : World} {pa : Option Addr} {xs : List Int} (h : IntArg .i64 w pa xs) : SideArg w pa xs := by
  rcases h with h | ⟨b, o, h1, -, h3⟩
  · exact .inl h
  · exact .inr ⟨b, o, h1, h3⟩

theorem open_arr3 {H : Type} {enc : TypeId × Value → H} {P : Program} {k e : TypeId} {q : IntKind} {W : World} {base : Nat} {sp : Nat → Bool} {held : Bool} (hu : P.underlying k = some (.array 3 e)) (he : P.underlying e = some (.int q)) (hc : P.cellsOf e = 1)
    {r : Reach} {b0 : Nat} {v : Value} (hk : P.cellsOf k = 3) (hval : Value.okWide P W r b0 k v) {d : DataW H} {ps : List MemPlace} (hd : DataW.Trod enc P W base sp held k v d ps) :
    ∃ a b c : Int, v = .agg #[.int q a, .int q b, .int q c] := by
  simp only [Value.okWide, hu] at hval
  obtain ⟨xs, rfl, hn, _⟩ := hval
  rw [hk] at hn
  obtain ⟨fuel, hf⟩ := hd
  cases fuel with
  | zero => simp [DataW.trod] at hf
  | succ m =>
    rw [DataW.trod_step] at hf
    unfold DataW.trodStep at hf
    simp only [hu, Value.cells] at hf
    rw [if_pos (by rw [hk]; simpa using hn)] at hf
    simp only [Option.map_eq_some_iff] at hf
    obtain ⟨ys, hy, -⟩ := hf
    rw [hc, show List.range 3 = [0, 1, 2] from rfl] at hy
    obtain ⟨l⟩ := xs
    match l, hn with
    | [x, y, z], _ =>
      simp only [List.mapM_cons, bind, Option.bind_eq_some_iff] at hy
      obtain ⟨u0, h0, _, ⟨u1, h1, _, ⟨u2, h2, _⟩, _⟩, _⟩ := hy
      obtain ⟨a, ha, -, -⟩ := DataW.trod_int he h0
      obtain ⟨b, hb, -, -⟩ := DataW.trod_int he h1
      obtain ⟨c, hc', -, -⟩ := DataW.trod_int he h2
      simp at ha hb hc'
      exact ⟨a, b, c, by rw [ha, hb, hc']⟩

/-- A slice of whole numbers, as the walks want it. -/
theorem open_nums {H : Type} {enc : TypeId × Value → H} {P : Program} {t e : TypeId} {k : IntKind} {W : World} {base : Nat} {held : Bool} (ht : P.underlying t = some (.slice e)) (he : P.underlying e = some (.int k)) (hc : P.cellsOf e = 1)
    {r : Reach} {b0 : Nat} {v : Value} (hval : Value.okWide P W r b0 t v) {d : DataW H} {ps : List MemPlace} (hd : DataW.Trod enc P W base (fun _ => true) held t v d ps) :
    ∃ (pa : Option Addr) (c : Nat) (xs : List Int), v = .slice pa xs.length c ∧ (xs.length : Int) ≤ maxLen ∧ (∀ x ∈ xs, (Lit.int k x).wf = true) ∧
      IntArg k W pa xs := by
  obtain ⟨fuel, hf⟩ := hd
  obtain ⟨a0, len, cap, rfl⟩ := okWide_slice ht hval
  rcases open_ints ht he hc hf with ⟨hcs, hx⟩ | ⟨a, len', cap', zs, hcs, _, hl, hm, hz, hx, hcell, hwz⟩
  · simp [Value.cells] at hcs
    obtain ⟨rfl, rfl, rfl⟩ := hcs
    exact ⟨none, 0, [], rfl, by unfold maxLen; simp, by simp, .inl rfl⟩
  · simp [Value.cells] at hcs
    obtain ⟨rfl, rfl, rfl⟩ := hcs
    simp only [if_true] at hz
    have hlen : (zs.take len).length = len := by simp; omega
    refine ⟨some a, cap, zs.take len, by rw [hlen], ?_, fun x hx => hwz x (List.mem_of_mem_take hx), ?_⟩
    · rw [hlen]
      omega
    by_cases h0 : len = 0
    · subst h0
      exact .inl rfl
    · right
      obtain ⟨b, off, spot⟩ := a
      have c0 := hcell 0 (by omega)
      have hspot : spot = none := by simpa [Addr.add] using World.cell?_spot c0
      subst hspot
      refine ⟨b, off, rfl, ?_, fun j x hj => ?_⟩
      · have := World.block_lt_of_cell? _ _ c0
        simpa [Addr.add] using this
      · have hj' := (List.getElem?_eq_some_iff.1 hj).1
        rw [hlen] at hj'
        rw [List.getElem?_take, if_pos hj'] at hj
        have hadd : (⟨b, off, none⟩ : Addr).add j = ⟨b, off + j, none⟩ := by unfold Addr.add; split <;> simp_all
        have := hcell j (by omega)
        rw [hadd] at this
        rw [this, List.getD_eq_getElem?_getD, hj]
        rfl
end Go.Proofs.YthebeomenjfdlaaGreat
/- Arguments of a law that are values or slices of values: what the walk is given. -/
namespace Go.Proofs.YthebeomenjfdlaaGreat
open Go.ChangeShapes Go.WideShapes Go.ChangeAt Go.RowKit

theorem cellsV : Tryz.prog.cellsOf 34 = 5 := by kernel_rfl
theorem cellsVKind : Tryz.prog.cellsOf 32 = 1 := by kernel_rfl
theorem cellsI64 : Tryz.prog.cellsOf 2 = 1 := by kernel_rfl
theorem cellsStr : Tryz.prog.cellsOf 9 = 1 := by kernel_rfl
theorem cellsLV : Tryz.prog.cellsOf 22 = 1 := by kernel_rfl
theorem cellsRef : Tryz.prog.cellsOf 28 = 1 := by kernel_rfl
theorem addr_add (b o i : Nat) : (⟨b, o, none⟩ : Addr).add i = ⟨b, o + i, none⟩ := by unfold Addr.add; split <;> simp_all

set_option maxRecDepth 100000 in
theorem trod_vals {H : Type} {enc : TypeId × Value → H} {W : World} {base : Nat} {held : Bool} {spare : Nat → Bool} : ∀ fuel : Nat,
    (∀ cs x, DataW.trod enc Tryz.prog W base spare held fuel 22 cs = some x → ∃ s l, cs = [s] ∧ SlAt W (fun b => b < W.heap.size) s l ∧ (l.length : Int) ≤ maxLen) ∧
    (∀ cs x, DataW.trod enc Tryz.prog W base spare held fuel 34 cs = some x → ∃ v raw, cs = (vcs v raw).toList ∧ SlAt W (fun b => b < W.heap.size) raw v.l) := by
  intro fuel
  induction fuel with
  | zero => exact ⟨fun cs x h => by simp [DataW.trod] at h, fun cs x h => by simp [DataW.trod] at h⟩
  | succ n ih =>
    refine ⟨fun cs x h => ?_, fun cs x h => ?_⟩
    · rcases DataW.trod_slice Tryz.underlying22 h with ⟨rfl, -⟩ | ⟨a, len, cap, elems, rest, m, hm, rfl, rfl, hb, hl, hc, hlen, hel, -, -⟩
      · exact ⟨_, [], rfl, SlAt.nil _ _ _ _, by simp [maxLen]⟩
      · cases hm
        have each : ∀ i, i < len → ∃ v raw, SlAt W (fun b => b < W.heap.size) raw v.l ∧ ∀ k, k < 5 → W.cell? ((a.add (i * 5)).add k) = (vcs v raw)[k]? := fun i hi => by
          have h1 := hel i hi
          rw [List.getElem?_eq_getElem (by omega), Option.bind_eq_some_iff] at h1
          obtain ⟨cs', h2, h3⟩ := h1
          obtain ⟨v, raw, rfl, hS⟩ := ih.2 _ _ h3
          rw [cellsV] at h2
          obtain ⟨-, -, h4⟩ := World.cells?_some h2
          exact ⟨v, raw, hS, fun k hk => (h4 k hk).trans (by simp)⟩
        by_cases h0 : len = 0
        · subst h0
          exact ⟨_, [], rfl, SlAt.nil _ _ _ _, by simp⟩
        obtain ⟨b, o, rfl⟩ : ∃ b o, a = ⟨b, o, none⟩ := by
          obtain ⟨v, raw, -, h1⟩ := each 0 (by omega)
          have c0 : W.cell? ((a.add (0 * 5)).add 0) = some (.int .u8 v.kind) := h1 0 (by omega)
          obtain ⟨b, o, sp⟩ := a
          have hs : sp = none := by simpa [Addr.add] using World.cell?_spot c0
          exact ⟨b, o, by rw [hs]⟩
        have key : ∀ i, ∃ p : Val × Value, i < len → SlAt W (fun b => b < W.heap.size) p.2 p.1.l ∧ ∀ k, k < 5 → W.cell? ⟨b, o + 5 * i + k, none⟩ = (vcs p.1 p.2)[k]? := fun i => by
          by_cases hi : i < len
          · obtain ⟨v, raw, h1, h2⟩ := each i hi
            refine ⟨(v, raw), fun _ => ⟨h1, fun k hk => ?_⟩⟩
            have := h2 k hk
            rw [addr_add, addr_add, Nat.mul_comm i 5] at this
            exact this
          · exact ⟨(⟨0, 0, ⟨#[]⟩, [], 0⟩, undef), fun h => absurd h hi⟩
        obtain ⟨f, hf⟩ := Classical.axiomOfChoice key
        have hS : SlAt W (fun b => b < W.heap.size) (.slice (some ⟨b, o, none⟩) ((List.range len).map fun i => (f i).1).length cap) ((List.range len).map fun i => (f i).1) := by
          refine SlAt.mk _ _ _ (fun i => (f i).2) (fun i v hv => ?_) (fun i v hv => ?_)
          · have hi := (List.getElem?_eq_some_iff.1 hv).1
            simp only [List.length_map, List.length_range] at hi
            have hv' : v = (f i).1 := by
              simp [List.getElem?_map, List.getElem?_range hi] at hv
              exact hv.symm
            subst hv'
            obtain ⟨h1, h2⟩ := hf i hi
            have c0 := h2 0 (by omega)
            exact ⟨b, o, rfl, World.block_lt_of_cell? _ ⟨b, o + 5 * i + 0, none⟩ c0, c0, h2 1 (by omega), h2 2 (by omega), h2 3 (by omega), h2 4 (by omega)⟩
          · have hi := (List.getElem?_eq_some_iff.1 hv).1
            simp only [List.length_map, List.length_range] at hi
            have hv' : v = (f i).1 := by
              simp [List.getElem?_map, List.getElem?_range hi] at hv
              exact hv.symm
            subst hv'
            exact (hf i hi).1
        have e : ((List.range len).map fun i => (f i).1).length = len := by simp
        rw [e] at hS
        exact ⟨.slice (some ⟨b, o, none⟩) len cap, _, rfl, hS, by rw [e]; omega⟩
    · obtain ⟨xs, m, hm, rfl, hlen, hxs, hfs⟩ := DataW.trod_struct Tryz.underlying34 h
      cases hm
      rw [cellsV] at hlen
      match cs, hlen with
      | [c0, c1, c2, c3, c4], _ =>
        have hx : xs.length = 5 := hxs
        have g0 : DataW.trod enc Tryz.prog W base spare held n 32 [c0] = some (xs[0]'(by omega)) := by
          have g := hfs 0 _ rfl
          rw [List.getElem?_eq_getElem (by omega)] at g
          rw [← g]
          show _ = DataW.trod enc Tryz.prog W base spare held n 32 ([c0, c1, c2, c3, c4].take (Tryz.prog.cellsOf 32))
          rw [cellsVKind]
          rfl
        have g1 : DataW.trod enc Tryz.prog W base spare held n 2 [c1] = some (xs[1]'(by omega)) := by
          have g := hfs 1 _ rfl
          rw [List.getElem?_eq_getElem (by omega)] at g
          rw [← g]
          show _ = DataW.trod enc Tryz.prog W base spare held n 2 ([c1, c2, c3, c4].take (Tryz.prog.cellsOf 2))
          rw [cellsI64]
          rfl
        have g2 : DataW.trod enc Tryz.prog W base spare held n 9 [c2] = some (xs[2]'(by omega)) := by
          have g := hfs 2 _ rfl
          rw [List.getElem?_eq_getElem (by omega)] at g
          rw [← g]
          show _ = DataW.trod enc Tryz.prog W base spare held n 9 ([c2, c3, c4].take (Tryz.prog.cellsOf 9))
          rw [cellsStr]
          rfl
        have g3 : DataW.trod enc Tryz.prog W base spare held n 22 [c3] = some (xs[3]'(by omega)) := by
          have g := hfs 3 _ rfl
          rw [List.getElem?_eq_getElem (by omega)] at g
          rw [← g]
          show _ = DataW.trod enc Tryz.prog W base spare held n 22 ([c3, c4].take (Tryz.prog.cellsOf 22))
          rw [cellsLV]
          rfl
        have g4 : DataW.trod enc Tryz.prog W base spare held n 28 [c4] = some (xs[4]'(by omega)) := by
          have g := hfs 4 _ rfl
          rw [List.getElem?_eq_getElem (by omega)] at g
          rw [← g]
          show _ = DataW.trod enc Tryz.prog W base spare held n 28 ([c4].take (Tryz.prog.cellsOf 28))
          rw [cellsRef]
          rfl
        obtain ⟨k, e0, -, -⟩ := DataW.trod_int Tryz.underlying32 g0
        obtain ⟨m, e1, -, -⟩ := DataW.trod_int Tryz.underlying2 g1
        obtain ⟨s, e2, -, -⟩ := DataW.trod_string Tryz.underlying9 g2
        obtain ⟨raw, l, e3, hS, -⟩ := ih.1 _ _ g3
        obtain ⟨r, e4, -, -⟩ := DataW.trod_int Tryz.underlying28 g4
        cases e0; cases e1; cases e2; cases e3; cases e4
        exact ⟨⟨k, m, s, l, r⟩, _, rfl, hS⟩

set_option maxRecDepth 100000 in
/-- An argument that is a slice of values. -/
theorem open_vals {H : Type} {enc : TypeId × Value → H} {W : World} {base : Nat} {r : Reach} {b0 : Nat} {v : Value} (hval : Value.okWide Tryz.prog W r b0 22 v) {d : DataW H} {ps : List MemPlace} (hd : DataW.Trod enc Tryz.prog W base (fun _ => true) true 22 v d ps) :
    ∃ l, SlAt W (fun b => b < W.heap.size) v l ∧ (l.length : Int) ≤ maxLen := by
  obtain ⟨fuel, hf⟩ := hd
  obtain ⟨a0, len, cap, rfl⟩ := okWide_slice Tryz.underlying22 hval
  obtain ⟨s, l, h1, h2, h3⟩ := (trod_vals fuel).1 _ _ hf
  cases h1
  exact ⟨l, h2, h3⟩
set_option maxRecDepth 100000 in
/-- An argument that is a value. -/
theorem open_val {H : Type} {enc : TypeId × Value → H} {W : World} {base : Nat} {r : Reach} {b0 : Nat} {v : Value} (hval : Value.okWide Tryz.prog W r b0 34 v) {d : DataW H} {ps : List MemPlace} (hd : DataW.Trod enc Tryz.prog W base (fun _ => true) true 34 v d ps) :
    ∃ x raw, v = .agg (vcs x raw) ∧ SlAt W (fun b => b < W.heap.size) raw x.l := by
  obtain ⟨fuel, hf⟩ := hd
  simp only [Value.okWide, Tryz.underlying34] at hval
  obtain ⟨xs, rfl, hn, _⟩ := hval
  obtain ⟨x, raw, h1, h2⟩ := (trod_vals fuel).2 _ _ hf
  exact ⟨x, raw, congrArg Value.agg (Array.toList_inj.1 h1), h2⟩
end Go.Proofs.YthebeomenjfdlaaGreat
