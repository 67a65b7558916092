/- lives of posternlaw07: it is true. -/
import Derived.Test.YtmefjkggibbhoaaNewW
import Derived.Test.YtmefjkggibbhoaaFacet
import Derived.Test.YtmefjkggibbhoaaFree
import Derived.Test.YtmefjkggibbhoaaFormA
import Derived.Test.YtmefjkggibbhoaaFits
import Derived.Test.YtmefjkggibbhoaaWalkE
import Derived.Deep.QuietTactic
import Derived.BigQuiet
namespace Go.Proofs.Ytmefjkggibbhoaa
open Go.RowKit Go.ChangeMaps Go.MapKept

def LM0 : WM := WM.new [0, 0, 1]
def LM1 : WM := LM0.add (lt 1 1 1 7 0 0 0 0 0 false)
def LM2 : WM := LM1.add (ft 1 1)
def LM3 : WM := LM2.cutE 1

theorem ltree : TreeOk [0, 0, 1] := ⟨by decide, fun i p h => by
  match i, h with
  | 0, h => simp at h; omega
  | 1, h => simp at h; omega
  | 2, h => simp at h; omega⟩
theorem lnotree : ¬ TreeOk [0, 2] := fun h => by
  have := (h.2 1 2 rfl).2
  omega
theorem ladd : AddOk LM0 (lt 1 1 1 7 0 0 0 0 0 false) where
  wf := ⟨by show (1 : Int) ≤ 1 ∧ (1 : Int) ≤ 16; decide, rfl, rfl, by show (0 : Int) ≤ 0 ∧ (0 : Int) ≤ 255; decide⟩
  last := by decide
  home := fun _ => by decide
  made := fun _ => by decide
  wrap := fun h => absurd h (by decide)
  gate := fun h => absurd h (by decide)
  purse := fun h => absurd h (by decide)
  facet := fun h => absurd h (by decide)
theorem lable1 : AbleIs LM1 63 1 3 := AbleIs.mk_base (t := lt 1 1 1 7 0 0 0 0 0 false) rfl (by decide) (by decide)
theorem lable2 : AbleIs LM2 63 1 3 := AbleIs.mk_base (t := lt 1 1 1 7 0 0 0 0 0 false) rfl (by decide) (by decide)
theorem lable3 : AbleIs LM3 63 2 1 := AbleIs.mk_facet (t := ft 1 1) rfl rfl (AbleIs.mk_base (t := lt 1 1 1 7 0 0 0 0 0 false) rfl (by decide) (by decide))
theorem lway : WayIs LM3 2 [2, 1] := WayIs.mk_wrap (t := ft 1 1) rfl rfl (WayIs.mk_base (t := lt 1 1 1 7 0 0 0 0 0 false) rfl rfl)
theorem lfree0 : freeL LM3 0 [2, 1] = false := by decide
theorem lfree3 : freeL LM3 3 [2, 1] = true := by decide
theorem lfind1 : LM1.find 1 1 = none := by decide
theorem lfind2 : LM2.find 1 1 = some 2 := by decide
theorem lall : ∀ x ∈ ([2, 1] : List Int), ∃ t, LM3.at x = some t ∧ t.kind ≠ 15 := by
  intro x hx
  simp only [List.mem_cons, List.not_mem_nil, or_false] at hx
  rcases hx with rfl | rfl
  · exact ⟨ft 1 1, rfl, by decide⟩
  · exact ⟨lt 1 1 1 7 0 0 0 0 0 false, rfl, by decide⟩

/-- A world of the call's own: all of it lies above what was there. -/
def Own (w0 w : World) (p : Nat) (M : WM) : Prop := ∃ F, IsW w p M F ∧ (∀ b, F b → w0.heap.size ≤ b) ∧ Below w0.heap.size w0 w
theorem Own.below {w0 w w' : World} {p : Nat} {M : WM} (h : Own w0 w p M) (hb : Below w.heap.size w w') : Own w0 w' p M := by
  obtain ⟨F, h1, h2, h3⟩ := h
  exact ⟨F, h1.below hb, h2, h3.trans (hb.mono h3.size)⟩
theorem Own.turn {w0 w w' : World} {p : Nat} {M' : WM} {F F' : Nat → Prop} (h2 : ∀ b, F b → w0.heap.size ≤ b) (h3 : Below w0.heap.size w0 w) (hW : IsW w' p M' F') (hg : Grew F w F' w') : Own w0 w' p M' := by
  refine ⟨F', hW, fun b hb => ?_, h3.trans (Keeps.below hg.1 h3.size h2)⟩
  rcases hg.2 b hb with h | h
  · exact h2 b h
  · exact Nat.le_trans h3.size h

set_option maxHeartbeats 2000000 in
set_option maxRecDepth 8000 in
theorem lives_W (w : World) : Calls Try.prog 15 #[] w fun e w' => e = .returned (.bool true) ∧ Below w.heap.size w w' := by
  go_enter Try.func15, Try.ntmps15
  go_wp2_with fail
  refine (New_W _ _ 3 [0, 0, 1] (.inr ⟨w.heap.size, 0, rfl, fun j x hx => ?_⟩)).mono ?_
  · rw [cell_blk (blk_new w _)]
    match j, hx with
    | 0, hx => simpa using hx
    | 1, hx => simpa using hx
    | 2, hx => simpa using hx
  rintro e w1 hpost
  obtain ⟨p, F, rfl, hW, hF, hb⟩ := (Or.resolve_right hpost (fun h => h.1 ltree)).2
  clear hpost
  have HO : Hid (Own w w1 p LM0) := ⟨F, hW, fun b h => by have := hF b h; simp at this; omega, ((Below.refl _ _).alloc (Nat.le_refl _) _).trans (hb.mono (by simp))⟩
  clear hW hF hb
  go_wp2_with fail
  refine (New_W _ _ 2 [0, 2] (.inr ⟨w1.heap.size, 0, rfl, fun j x hx => ?_⟩)).mono ?_
  · rw [cell_blk (blk_new w1 _)]
    match j, hx with
    | 0, hx => simpa using hx
    | 1, hx => simpa using hx
  rintro e w1' hpost
  obtain ⟨rfl, hw'⟩ := (Or.resolve_left hpost (fun h => lnotree h.1)).2
  have HO1 : Hid (Own w w1' p LM0) := by
    show Own _ _ _ _
    rw [hw']
    exact HO.out.below ((Below.refl _ _).alloc (Nat.le_refl _) _)
  clear HO hpost hw'
  go_wp2_with fail
  obtain ⟨F, hW, hF, hb⟩ := HO1.out
  refine (Make_no hW (k := 1) (h := 1) (vk := 1) (vn := 7) (n := 0) (l := 0) (tg := 0) (bi := 0) (s := 0) (fu := false) (.inr rfl) (.inl rfl) ladd (fun w hW => form_1 hW 1 1 7 (by decide) (.inr rfl)) (fun w _ => fits_1 w _ 0 1 1 7 0 0 0 0 0 false)).mono ?_
  rintro e w2 ⟨rfl, F2, hW2, hg2⟩
  have HO2 : Hid (Own w w2 p LM1) := Own.turn hF hb hW2 hg2
  clear hW hF hb hW2 hg2 HO1
  go_wp2_with fail
  obtain ⟨F, hW, hF, hb⟩ := HO2.out
  refine (Facet_new hW (r := 1) (s := 1) (v := 3) (t := lt 1 1 1 7 0 0 0 0 0 false) rfl rfl rfl (by decide) lable1 (by decide) (by decide) lfind1 (by decide) (by decide)).mono ?_
  rintro e w3 ⟨rfl, F3, hW3, hg3⟩
  have HO3 : Hid (Own w w3 p LM2) := Own.turn hF hb hW3 hg3
  clear hW hF hb hW3 hg3 HO2
  go_wp2_with fail
  obtain ⟨F, hW, hF, hb⟩ := HO3.out
  refine (Facet_there hW (r := 1) (s := 1) (v := 3) (t := lt 1 1 1 7 0 0 0 0 0 false) rfl rfl rfl (by decide) lable2 (by decide) (by decide) lfind2).mono ?_
  rintro e w4 ⟨rfl, hb4⟩
  have HO4 : Hid (Own w w4 p LM2) := HO3.out.below hb4
  clear hW hF hb hb4 HO3
  go_wp2_with fail
  obtain ⟨F, hW, hF, hb⟩ := HO4.out
  refine (Facet_what hW (r := 1) (s := 3) (v := 3) (t := lt 1 1 1 7 0 0 0 0 0 false) rfl rfl lable2 rfl).mono ?_
  rintro e w5 ⟨rfl, hb5⟩
  have HO5 : Hid (Own w w5 p LM2) := HO4.out.below hb5
  clear hW hF hb hb5 HO4
  go_wp2_with fail
  obtain ⟨F, hW, hF, hb⟩ := HO5.out
  refine (CutEdge_W hW 1 (by decide) (by decide)).mono ?_
  rintro e w6 ⟨rfl, hW6, hk6, -⟩
  have HO6 : Hid (Own w w6 p LM3) := ⟨F, hW6, hF, hb.trans (Keeps.below hk6 hb.size hF)⟩
  clear hW hF hb hW6 hk6 HO5
  go_wp2_with fail
  obtain ⟨F, hW, hF, hb⟩ := HO6.out
  refine (Able_W hW rfl lable3).mono ?_
  rintro e w7 ⟨rfl, hb7⟩
  have HO7 : Hid (Own w w7 p LM3) := HO6.out.below hb7
  clear hW hF hb hb7 HO6
  go_wp2_with fail
  obtain ⟨F, hW, hF, hb⟩ := HO7.out
  refine (Base_W hW rfl lway).mono ?_
  rintro e w8 ⟨rfl, hb8⟩
  have HO8 : Hid (Own w w8 p LM3) := HO7.out.below hb8
  clear hW hF hb hb8 HO7
  go_wp2_with fail
  obtain ⟨F, hW, hF, hb⟩ := HO8.out
  refine (Free_W hW (a := 0) (by decide) rfl lway (t0 := ft 1 1) rfl lall).mono ?_
  rw [lfree0]
  rintro e w9 ⟨rfl, hb9⟩
  have HO9 : Hid (Own w w9 p LM3) := HO8.out.below hb9
  clear hW hF hb hb9 HO8
  have hE0 : freeE false = 7 := rfl
  go_wp2_with fail
  obtain ⟨F, hW, hF, hb⟩ := HO9.out
  refine (Free_W hW (a := 3) (by decide) rfl lway (t0 := ft 1 1) rfl lall).mono ?_
  rw [lfree3]
  rintro e w10 ⟨rfl, hb10⟩
  have HO10 : Hid (Own w w10 p LM3) := HO9.out.below hb10
  clear hW hF hb hb10 HO9
  have hE1 : freeE true = 0 := rfl
  go_wp2_with fail
  obtain ⟨F, hW, hF, hb⟩ := HO10.out
  refine (Len_W hW).mono ?_
  rintro e _ ⟨rfl, rfl⟩
  have hL : LM3.things.length = 2 := rfl
  go_wp2_with fail
  refine (Made_W hW 1).mono ?_
  rintro e _ ⟨rfl, rfl⟩
  have hM : (if sideB LM3 1 = true then LM3.made.getD (1 : Int).toNat 0 else 0) = 1 := by decide
  rw [hM]
  go_wp2_with fail
  go_ret
  exact ⟨rfl, hb⟩
end Go.Proofs.Ytmefjkggibbhoaa
