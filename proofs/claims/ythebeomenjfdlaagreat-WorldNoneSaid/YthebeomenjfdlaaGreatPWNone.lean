/- WorldNone: for every What and every question the law returns true. No condition beyond what the given statement says of its arguments. -/
import Derived.Test.YthebeomenjfdlaaGreatRows
import Derived.Test.YthebeomenjfdlaaGreatmAL
import Derived.WalkKit
import Derived.ProofKit
import Derived.OpenShut
import Derived.ChangeSame
import Derived.RowKit
namespace Go.Proofs.YthebeomenjfdlaaGreat.worldNone
open Go.ChangeShapes Go.WideShapes Go.ChangeAt Go.RowKit

theorem own : ownKnob Tryz.prog.godebug = none := by kernel_rfl
theorem cellsWhat : Tryz.prog.cellsOf 42 = 16 := by kernel_rfl
theorem cellsAsked : Tryz.prog.cellsOf 66 = 6 := by kernel_rfl

/-- A struct is its cells. -/
theorem open_cells {P : Program} {W : World} {t : TypeId} {fs : Array Field} {r : Reach} {b0 : Nat} {v : Value} (ht : P.underlying t = some (.struct fs)) (hval : Value.okWide P W r b0 t v) : ∃ cs, v = .agg cs ∧ cs.size = P.cellsOf t := by
  simp only [Value.okWide, ht] at hval
  obtain ⟨cs, h1, h2, -⟩ := hval
  exact ⟨cs, h1, h2⟩
/-- Six whole numbers, from their cells. -/
theorem open_six {H : Type} {enc : TypeId × Value → H} {P : Program} {e : TypeId} {W : World} {base : Nat} {sp : Nat → Bool} {held : Bool} {f0 f1 f2 f3 f4 f5 : Field} (he : P.underlying e = some (.struct #[f0, f1, f2, f3, f4, f5]))
    (ce : P.cellsOf e = 6) (o0 : f0.offset = 0) (o1 : f1.offset = 1) (o2 : f2.offset = 2) (o3 : f3.offset = 3) (o4 : f4.offset = 4) (o5 : f5.offset = 5)
    (c0 : P.cellsOf f0.type = 1) (c1 : P.cellsOf f1.type = 1) (c2 : P.cellsOf f2.type = 1) (c3 : P.cellsOf f3.type = 1) (c4 : P.cellsOf f4.type = 1) (c5 : P.cellsOf f5.type = 1)
    (k0 : P.underlying f0.type = some (.int .i64)) (k1 : P.underlying f1.type = some (.int .i64)) (k2 : P.underlying f2.type = some (.int .i64)) (k3 : P.underlying f3.type = some (.int .i64)) (k4 : P.underlying f4.type = some (.int .u8)) (k5 : P.underlying f5.type = some (.int .i64))
    {n : Nat} {cs : List Value} {x : DataW H × List MemPlace} (h : DataW.trod enc P W base sp held n e cs = some x) :
    ∃ a b c d s l : Int, cs = [.int .i64 a, .int .i64 b, .int .i64 c, .int .i64 d, .int .u8 s, .int .i64 l] := by
  obtain ⟨xs, k, -, -, hl, hxl, hf⟩ := DataW.trod_struct he h
  rw [ce] at hl
  match xs, hxl, cs, hl with
  | [y0, y1, y2, y3, y4, y5], _, [v0, v1, v2, v3, v4, v5], _ =>
    have g0 := hf 0 f0 rfl
    have g1 := hf 1 f1 rfl
    have g2 := hf 2 f2 rfl
    have g3 := hf 3 f3 rfl
    have g4 := hf 4 f4 rfl
    have g5 := hf 5 f5 rfl
    simp [o0, o1, o2, o3, o4, o5, c0, c1, c2, c3, c4, c5] at g0 g1 g2 g3 g4 g5
    obtain ⟨a, e0, -, -⟩ := DataW.trod_int k0 g0
    obtain ⟨b, e1, -, -⟩ := DataW.trod_int k1 g1
    obtain ⟨c, e2, -, -⟩ := DataW.trod_int k2 g2
    obtain ⟨d, e3, -, -⟩ := DataW.trod_int k3 g3
    obtain ⟨s, e4, -, -⟩ := DataW.trod_int k4 g4
    obtain ⟨l, e5, -, -⟩ := DataW.trod_int k5 g5
    simp at e0 e1 e2 e3 e4 e5
    exact ⟨a, b, c, d, s, l, by simp [e0, e1, e2, e3, e4, e5]⟩

set_option maxRecDepth 100000 in
theorem lifted (os : Os) (started : os.Started) (H : Type) (enc : TypeId × Value → H) :
    ReturnsInHanded {} Tryz.checked os 8 .any (Rows.worldNoneSpec.pre6 enc Tryz.prog Tryz.f8 Rows.worldNoneRow.domain false) (Rows.worldNoneSpec.post enc Tryz.prog Tryz.f8 false true false false) := by
  refine returnsInHanded_of_change (C := Tryz.checked) own started (by kernel_rfl) Tryz.func8
    (ChangeSpec.witness6 (enc := enc) (C := Tryz.checked) false ⟨#[], #[.agg #[.int .u8 0, .int .i64 0, .int .u8 0, .int .i64 0, .string ⟨#[]⟩, .slice none 0 0, .int .i64 0, .slice none 0 0, .int .i64 0, .int .i64 0, .int .i64 0, .int .i64 0, .int .u8 0, .bool false, .slice none 0 0, .slice none 0 0], .agg #[.int .i64 0, .int .i64 0, .int .i64 0, .int .i64 0, .int .u8 0, .int .i64 0]], []⟩ 8 (by kernel_rfl) (by kernel_rfl) (by kernel_rfl) (by kernel_rfl)) ?_
  intro W base args ds gs before hval0 hW _ _
  have hval : ∀ (j : Nat) t v, Tryz.f8.params[j]? = some t → args[j]? = some v → Value.okWide Tryz.prog W .any base t v := hval0
  have hW' := hW
  obtain ⟨p, q, hA0, hV, rfl, _, _⟩ := hW
  have hA : DataW.TrodAll enc Tryz.prog W 0 (fun _ => true) true Tryz.f8.params.toList args.toList ds p := hA0
  rw [Tryz.params8] at hA hval
  obtain ⟨v0, v1, d0, d1, p0, p1, rfl, rfl, rfl, h0, h1⟩ := trodAll_two hA
  obtain ⟨rfl, rfl⟩ := trodVars_none hV
  clear hA0 hval0
  simp only [List.append_nil] at hW'
  have hlt : ∀ x ∈ p0 ++ p1, x.block < W.heap.size := fun x hx => by simpa using hW'.lt x (by simpa using hx)
  obtain ⟨cs, rfl, hcs⟩ := open_cells Tryz.underlying42 (hval 0 42 v0 rfl rfl)
  rw [cellsWhat] at hcs
  obtain ⟨qs, rfl, hqs⟩ := open_cells Tryz.underlying66 (hval 1 66 v1 rfl rfl)
  obtain ⟨fuel, hf⟩ := id h1
  obtain ⟨r, a, b, n, st, lv, hq⟩ := open_six Tryz.underlying66 cellsAsked rfl rfl rfl rfl rfl rfl (by kernel_rfl) (by kernel_rfl) (by kernel_rfl) (by kernel_rfl) (by kernel_rfl) (by kernel_rfl) Tryz.underlying28 Tryz.underlying31 Tryz.underlying31 Tryz.underlying3 Tryz.underlying38 Tryz.underlying3 hf
  obtain rfl : qs = #[.int .i64 r, .int .i64 a, .int .i64 b, .int .i64 n, .int .u8 st, .int .i64 lv] := by
    have : qs.toList = _ := hq
    rw [← Array.toArray_toList (xs := qs), this]
  refine (wnone_W W cs hcs r a b n st lv).mono fun e W' ⟨he, hb⟩ => ?_
  subst he
  have g0 := Below.trod Tryz.laidOut (by kernel_rfl) (of_decide_eq_true (by kernel_rfl)) h0 hb (fun x hx => hlt x (List.mem_append_left _ hx))
  have g1 := Below.trod Tryz.laidOut (by kernel_rfl) (of_decide_eq_true (by kernel_rfl)) h1 hb (fun x hx => hlt x (List.mem_append_right _ hx))
  exact ⟨_, rfl, ⟨_, _, _, [], _, [], hW', trodAll_mk1 (shut_bool Tryz.underlying4 _), trodAll_mk2 g0 g1, rfl, hb.frame _, fun h => by cases h⟩⟩

theorem over : Rows.worldNoneRow.holds Tryz.pinned (OpenSpec.ofChange Rows.worldNoneSpec) :=
  OpenClaim.holds_of_wide 8 Tryz.f8 rfl rfl rfl rfl rfl rfl rfl ⟨rfl, rfl, rfl, rfl, rfl⟩ rfl rfl rfl rfl rfl (by kernel_rfl) Tryz.func8 (by kernel_rfl)
    (of_decide_eq_true (by kernel_rfl)) (by unfold Func.isWrapper; first | (rw [if_pos (by decide +kernel)]; kernel_rfl) | (rw [if_neg (by decide +kernel)]; exact ⟨rfl, rfl⟩))
    (fun os started H enc _ => lifted os started H enc)

theorem worldNone_holds : Rows.WorldNoneSaid := over
#print axioms worldNone_holds
end Go.Proofs.YthebeomenjfdlaaGreat.worldNone
