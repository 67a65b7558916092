/- A part of the proof, several texts in one: NoW, NoC, SortLay, Range, Class. -/
import Derived.Test.YthebeomenjfdlaaGreatmAD
import Derived.Test.YthebeomenjfdlaaGreatmAA
import Derived.Test.YthebeomenjfdlaaGreatChecked
import Derived.Shelf.SortM.Plain
import Derived.Ground.SlgmProg
import Derived.Shelf.SlGeneric
import Derived.Deep.QuietTactic
import Derived.BigQuiet
/- Worlds that are not there: the nil world, the zero world. -/
namespace Go.Proofs.YthebeomenjfdlaaGreat
open Go.RowKit Go.ChangeMaps Go.MapKept

/-- No world: nil, or one without its map of things. -/
def NoW (w : World) (v : Value) : Prop := v = .pointer none ∨ ∃ b, v = .pointer (some ⟨b, 0, none⟩) ∧ w.cell? ⟨b, 2, none⟩ = some (.map none)
theorem NoW.below {w w' : World} {v : Value} (h : NoW w v) (hb : Below w.heap.size w w') : NoW w' v := by
  rcases h with rfl | ⟨b, rfl, h⟩
  · exact .inl rfl
  · exact .inr ⟨b, rfl, (hb.cell (p := ⟨b, 2, none⟩) (World.block_lt_of_cell? _ _ h)).trans h⟩

set_option maxRecDepth 8000 in
theorem none_no {w : World} {v : Value} (h : NoW w v) : Calls Tryz.prog 63 #[v] w fun e w' => e = .returned (.bool true) ∧ w = w' := by
  rcases h with rfl | ⟨b, rfl, h⟩
  all_goals
    go_enter Tryz.func63, Tryz.ntmps63
    go_wp2
    go_ret
    exact ⟨rfl, rfl⟩

attribute [local go_sem ↓] execOp_stW
set_option maxRecDepth 8000 in
theorem What_no {w : World} {v : Value} (h : NoW w v) (r : Int) : Calls Tryz.prog 18 #[v, .int .i64 r] w fun e w' => e = .returned (.tuple #[.agg #[.int .u8 0, .int .i64 0, .int .u8 0, .int .i64 0, .string ⟨#[]⟩, .slice none 0 0, .int .i64 0, .slice none 0 0, .int .i64 0, .int .i64 0, .int .i64 0, .int .i64 0, .int .u8 0, .bool false, .slice none 0 0, .slice none 0 0], .int .i64 1]) ∧ Below w.heap.size w w' := by
  have hn := fun w' (hb : Below w.heap.size w w') => none_no (h.below hb)
  have HN := (show Hid _ from hn)
  clear hn h
  go_enter Tryz.func18, Tryz.ntmps18
  go_wp2_with fail
  refine Calls.mono (HN.out _ ((Below.refl _ w).alloc (Nat.le_refl _) _)) ?_
  rintro e _ ⟨rfl, rfl⟩
  have B1 := blk_new w (.cells #[.int .u8 0, .int .i64 0, .int .u8 0, .int .i64 0, .string ⟨#[]⟩, .slice none 0 0, .int .i64 0, .slice none 0 0, .int .i64 0, .int .i64 0, .int .i64 0, .int .i64 0, .int .u8 0, .bool false, .slice none 0 0, .slice none 0 0] 42)
  have hst := storeWhat_blk (c' := #[.int .u8 0, .int .i64 0, .int .u8 0, .int .i64 0, .string ⟨#[]⟩, .slice none 0 0, .int .i64 0, .slice none 0 0, .int .i64 0, .int .i64 0, .int .i64 0, .int .i64 0, .int .u8 0, .bool false, .slice none 0 0, .slice none 0 0]) B1 rfl rfl (by simp [go_sem])
  go_wp2_with fail
  exact bodyPost_ret (results_What2 rfl _ _ _ _ _ rfl (heap_setRow_at B1) rfl) rfl ⟨rfl, Below.setRow ((Below.refl _ _).alloc (Nat.le_refl _) _) (Nat.le_refl _) _⟩

end Go.Proofs.YthebeomenjfdlaaGreat
/- World's calls over worlds that are not there. -/
namespace Go.Proofs.YthebeomenjfdlaaGreat
open Go.RowKit Go.ChangeMaps Go.MapKept

set_option maxRecDepth 8000 in
theorem wSides_no {w : World} {v : Value} (hv : NoW w v) : Calls Tryz.prog 43 #[v] w fun e w' => e = .returned (.int .i64 0) ∧ w = w' := by
  have HN := (show Hid _ from none_no hv)
  clear hv
  go_enter Tryz.func43, Tryz.ntmps43
  go_wp2_with fail
  refine Calls.mono HN.out ?_
  rintro e _ ⟨rfl, rfl⟩
  go_wp2_with fail
  go_ret
  exact ⟨rfl, rfl⟩
set_option maxRecDepth 8000 in
theorem wParent_no {w : World} {v : Value} (hv : NoW w v) (s : Int) : Calls Tryz.prog 36 #[v, .int .i64 s] w fun e w' => e = .returned (.tuple #[.int .i64 0, .int .i64 1]) ∧ w = w' := by
  have HN := (show Hid _ from none_no hv)
  clear hv
  go_enter Tryz.func36, Tryz.ntmps36
  go_wp2_with fail
  refine Calls.mono HN.out ?_
  rintro e _ ⟨rfl, rfl⟩
  go_wp2_with fail
  go_ret2
  exact ⟨rfl, rfl⟩
set_option maxRecDepth 8000 in
theorem wCutEdge_no {w : World} {v : Value} (hv : NoW w v) (n : Int) : Calls Tryz.prog 44 #[v, .int .i64 n] w fun e w' => e = .returned (.int .i64 1) ∧ w = w' := by
  have HN := (show Hid _ from none_no hv)
  clear hv
  go_enter Tryz.func44, Tryz.ntmps44
  go_wp2_with fail
  refine Calls.mono HN.out ?_
  rintro e _ ⟨rfl, rfl⟩
  go_wp2_with fail
  go_ret
  exact ⟨rfl, rfl⟩
set_option maxRecDepth 8000 in
theorem wLen_no {w : World} {v : Value} (hv : NoW w v) : Calls Tryz.prog 55 #[v] w fun e w' => e = .returned (.int .i64 0) ∧ w = w' := by
  have HN := (show Hid _ from none_no hv)
  clear hv
  go_enter Tryz.func55, Tryz.ntmps55
  go_wp2_with fail
  refine Calls.mono HN.out ?_
  rintro e _ ⟨rfl, rfl⟩
  go_wp2_with fail
  go_ret
  exact ⟨rfl, rfl⟩
set_option maxRecDepth 8000 in
theorem wFacet_no {w : World} {v : Value} (hv : NoW w v) (r s : Int) : Calls Tryz.prog 34 #[v, .int .i64 r, .int .u8 s] w fun e w' => e = .returned (.tuple #[.int .i64 0, .int .i64 1]) ∧ w = w' := by
  have HN := (show Hid _ from none_no hv)
  clear hv
  go_enter Tryz.func34, Tryz.ntmps34
  go_wp2_with fail
  refine Calls.mono HN.out ?_
  rintro e _ ⟨rfl, rfl⟩
  go_wp2_with fail
  go_ret2
  exact ⟨rfl, rfl⟩
set_option maxRecDepth 8000 in
theorem wFind_no {w : World} {v : Value} (hv : NoW w v) (r s : Int) : Calls Tryz.prog 35 #[v, .int .i64 r, .int .u8 s] w fun e w' => e = .returned (.tuple #[.int .i64 0, .bool false]) ∧ w = w' := by
  have HN := (show Hid _ from none_no hv)
  clear hv
  go_enter Tryz.func35, Tryz.ntmps35
  go_wp2_with fail
  refine Calls.mono HN.out ?_
  rintro e _ ⟨rfl, rfl⟩
  go_wp2_with fail
  go_ret2
  exact ⟨rfl, rfl⟩
set_option maxRecDepth 8000 in
theorem wFree_no {w : World} {v : Value} (hv : NoW w v) (s r : Int) : Calls Tryz.prog 54 #[v, .int .i64 s, .int .i64 r] w fun e w' => e = .returned (.int .i64 1) ∧ w = w' := by
  have HN := (show Hid _ from none_no hv)
  clear hv
  go_enter Tryz.func54, Tryz.ntmps54
  go_wp2_with fail
  refine Calls.mono HN.out ?_
  rintro e _ ⟨rfl, rfl⟩
  go_wp2_with fail
  go_ret
  exact ⟨rfl, rfl⟩
set_option maxRecDepth 8000 in
theorem wCopy_no {w : World} {v : Value} (hv : NoW w v) : Calls Tryz.prog 15 #[v] w fun e w' => e = .returned (.pointer none) ∧ w = w' := by
  have HN := (show Hid _ from none_no hv)
  clear hv
  go_enter Tryz.func15, Tryz.ntmps15
  go_wp2_with fail
  refine Calls.mono HN.out ?_
  rintro e _ ⟨rfl, rfl⟩
  go_wp2_with fail
  go_ret
  exact ⟨rfl, rfl⟩
set_option maxRecDepth 8000 in
theorem wDrop_no {w : World} {v : Value} (hv : NoW w v) (x : Value) : Calls Tryz.prog 48 #[v, x] w fun e w' => e = .returned (.int .i64 1) ∧ w = w' := by
  have HN := (show Hid _ from none_no hv)
  clear hv
  go_enter Tryz.func48, Tryz.ntmps48
  go_wp2_with fail
  refine Calls.mono HN.out ?_
  rintro e _ ⟨rfl, rfl⟩
  go_wp2_with fail
  go_ret
  exact ⟨rfl, rfl⟩
set_option maxRecDepth 8000 in
theorem wTell_no {w : World} {v : Value} (hv : NoW w v) : Calls Tryz.prog 58 #[v] w fun e w' => e = .returned (.agg #[.slice none 0 0, .slice none 0 0, .slice none 0 0, .int .i64 0, .slice none 0 0]) ∧ Below w.heap.size w w' := by
  have HN := (show Hid _ from fun w' (hb : Below w.heap.size w w') => none_no (hv.below hb))
  clear hv
  go_enter Tryz.func58, Tryz.ntmps58
  go_wp2_with fail
  refine Calls.mono (HN.out _ ((Below.refl _ _).alloc (Nat.le_refl _) _)) ?_
  rintro e _ ⟨rfl, rfl⟩
  go_wp2_with fail
  go_returns
  exact ⟨rfl, by go_grown⟩
set_option maxRecDepth 8000 in
theorem wIs_no {w : World} {v : Value} (hv : NoW w v) (r : Int) : Calls Tryz.prog 49 #[v, .int .i64 r] w fun e w' => e = .returned (.bool false) ∧ w = w' := by
  have HN := (show Hid _ from none_no hv)
  clear hv
  go_enter Tryz.func49, Tryz.ntmps49
  go_wp2_with fail
  refine Calls.mono HN.out ?_
  rintro e _ ⟨rfl, rfl⟩
  go_wp2_with fail
  go_ret
  exact ⟨rfl, rfl⟩
set_option maxRecDepth 8000 in
theorem wKind_no {w : World} {v : Value} (hv : NoW w v) (r : Int) : Calls Tryz.prog 50 #[v, .int .i64 r] w fun e w' => e = .returned (.int .u8 0) ∧ w = w' := by
  have HN := (show Hid _ from wIs_no hv r)
  clear hv
  go_enter Tryz.func50, Tryz.ntmps50
  go_wp2_with fail
  refine Calls.mono HN.out ?_
  rintro e _ ⟨rfl, rfl⟩
  go_wp2_with fail
  go_ret
  exact ⟨rfl, rfl⟩
set_option maxRecDepth 8000 in
theorem wHome_no {w : World} {v : Value} (hv : NoW w v) (r : Int) : Calls Tryz.prog 37 #[v, .int .i64 r] w fun e w' => e = .returned (.tuple #[.int .i64 0, .bool false]) ∧ w = w' := by
  have HN := (show Hid _ from wIs_no hv r)
  clear hv
  go_enter Tryz.func37, Tryz.ntmps37
  go_wp2_with fail
  refine Calls.mono HN.out ?_
  rintro e _ ⟨rfl, rfl⟩
  go_wp2_with fail
  go_ret2
  exact ⟨rfl, rfl⟩
set_option maxRecDepth 8000 in
theorem wside_no {w : World} {v : Value} (hv : NoW w v) (s : Int) : Calls Tryz.prog 86 #[v, .int .i64 s] w fun e w' => e = .returned (.bool false) ∧ w = w' := by
  have HN := (show Hid _ from wSides_no hv)
  clear hv
  by_cases h0 : 0 ≤ s
  · go_enter Tryz.func86, Tryz.ntmps86
    go_wp2_with fail
    refine Calls.mono HN.out ?_
    rintro e _ ⟨rfl, rfl⟩
    go_wp2_with fail
    go_ret
    exact ⟨by simp <;> omega, rfl⟩
  · go_enter Tryz.func86, Tryz.ntmps86
    go_wp2_with fail
    go_ret
    exact ⟨by simp <;> omega, rfl⟩
set_option maxRecDepth 8000 in
theorem wedge_no {w : World} {v : Value} (hv : NoW w v) (s : Int) : Calls Tryz.prog 97 #[v, .int .i64 s] w fun e w' => e = .returned (.bool false) ∧ w = w' := by
  have HN := (show Hid _ from wSides_no hv)
  clear hv
  by_cases h0 : 0 < s
  · go_enter Tryz.func97, Tryz.ntmps97
    go_wp2_with fail
    refine Calls.mono HN.out ?_
    rintro e _ ⟨rfl, rfl⟩
    go_wp2_with fail
    go_ret
    exact ⟨by simp <;> omega, rfl⟩
  · go_enter Tryz.func97, Tryz.ntmps97
    go_wp2_with fail
    go_ret
    exact ⟨by simp <;> omega, rfl⟩
set_option maxRecDepth 8000 in
theorem wIsCut_no {w : World} {v : Value} (hv : NoW w v) (n : Int) : Calls Tryz.prog 45 #[v, .int .i64 n] w fun e w' => e = .returned (.bool false) ∧ w = w' := by
  have HN := (show Hid _ from wedge_no hv n)
  clear hv
  go_enter Tryz.func45, Tryz.ntmps45
  go_wp2_with fail
  refine Calls.mono HN.out ?_
  rintro e _ ⟨rfl, rfl⟩
  go_wp2_with fail
  go_ret
  exact ⟨rfl, rfl⟩
set_option maxRecDepth 8000 in
theorem wOpen_no {w : World} {v : Value} (hv : NoW w v) (a b : Int) : Calls Tryz.prog 46 #[v, .int .i64 a, .int .i64 b] w fun e w' => e = .returned (.bool false) ∧ w = w' := by
  have HN := (show Hid _ from wside_no hv a)
  clear hv
  go_enter Tryz.func46, Tryz.ntmps46
  go_wp2_with fail
  refine Calls.mono HN.out ?_
  rintro e _ ⟨rfl, rfl⟩
  go_wp2_with fail
  go_ret
  exact ⟨rfl, rfl⟩
set_option maxRecDepth 8000 in
theorem wMade_no {w : World} {v : Value} (hv : NoW w v) (s : Int) : Calls Tryz.prog 56 #[v, .int .i64 s] w fun e w' => e = .returned (.int .i64 0) ∧ w = w' := by
  have HN := (show Hid _ from wside_no hv s)
  clear hv
  go_enter Tryz.func56, Tryz.ntmps56
  go_wp2_with fail
  refine Calls.mono HN.out ?_
  rintro e _ ⟨rfl, rfl⟩
  go_wp2_with fail
  go_ret
  exact ⟨rfl, rfl⟩

theorem sizeWhat' : (Tryz.prog.info? 42).map (·.size) = some 16 := by kernel_rfl
end Go.Proofs.YthebeomenjfdlaaGreat
/- The contract of slices.Sort, laid at the references. -/
namespace Go.Proofs.YthebeomenjfdlaaGreat
open Go.Shelf
def Tryz.sortLay_ren : Go.Shelf.Ren := ⟨fun | 5 => 129 | 8 => 152 | 7 => 151 | 19 => 170 | 20 => 171 | 10 => 161 | 11 => 162 | 12 => 163 | 13 => 164 | 14 => 165 | 15 => 166 | 16 => 167 | 17 => 168 | 18 => 169 | 30 => 174 | 31 => 175 | 32 => 176 | 33 => 177 | 34 => 178 | 35 => 148 | 40 => 179 | n => n, fun | 23 => 101 | 25 => 28 | 3 => 3 | 32 => 219 | 22 => 101 | 0 => 0 | 44 => 237 | 46 => 239 | 4 => 4 | 36 => 229 | 35 => 228 | 41 => 234 | 5 => 5 | 9 => 9 | 53 => 242 | 57 => 124 | 63 => 247 | 64 => 121 | n => n, fun | n => n⟩
theorem Tryz.sortLay : Go.Proofs.SlLaysM.n5 Tryz.prog Tryz.sortLay_ren := {
  mixed := by kernel_rfl
  f5 := ⟨Tryz.f129.name, by decide, Tryz.func129.trans (congrArg some (by kernel_rfl))⟩
  f7 := ⟨Tryz.f151.name, by decide, Tryz.func151.trans (congrArg some (by kernel_rfl))⟩
  f8 := Tryz.func152.trans (congrArg some (by kernel_rfl))
  f10 := ⟨Tryz.f161.name, by decide, Tryz.func161.trans (congrArg some (by kernel_rfl))⟩
  f11 := ⟨Tryz.f162.name, by decide, Tryz.func162.trans (congrArg some (by kernel_rfl))⟩
  f12 := ⟨Tryz.f163.name, by decide, Tryz.func163.trans (congrArg some (by kernel_rfl))⟩
  f13 := ⟨Tryz.f164.name, by decide, Tryz.func164.trans (congrArg some (by kernel_rfl))⟩
  f14 := ⟨Tryz.f165.name, by decide, Tryz.func165.trans (congrArg some (by kernel_rfl))⟩
  f15 := ⟨Tryz.f166.name, by decide, Tryz.func166.trans (congrArg some (by kernel_rfl))⟩
  f16 := ⟨Tryz.f167.name, by decide, Tryz.func167.trans (congrArg some (by kernel_rfl))⟩
  f17 := ⟨Tryz.f168.name, by decide, Tryz.func168.trans (congrArg some (by kernel_rfl))⟩
  f18 := ⟨Tryz.f169.name, by decide, Tryz.func169.trans (congrArg some (by kernel_rfl))⟩
  f19 := Tryz.func170.trans (congrArg some (by kernel_rfl))
  f20 := Tryz.func171.trans (congrArg some (by kernel_rfl))
  f30 := ⟨Tryz.f174.name, by decide, Tryz.func174.trans (congrArg some (by kernel_rfl))⟩
  f31 := Tryz.func175.trans (congrArg some (by kernel_rfl))
  f32 := Tryz.func176.trans (congrArg some (by kernel_rfl))
  f33 := ⟨Tryz.f177.name, by decide, Tryz.func177.trans (congrArg some (by kernel_rfl))⟩
  f34 := ⟨Tryz.f178.name, by decide, Tryz.func178.trans (congrArg some (by kernel_rfl))⟩
  f35 := ⟨Tryz.f148.name, by decide, Tryz.func148.trans (congrArg some (by kernel_rfl))⟩
  f40 := ⟨Tryz.f179.name, by decide, Tryz.func179.trans (congrArg some (by kernel_rfl))⟩
  t0 := Tryz.underlying0
  a0 := Tryz.isAgg0
  z0 := Tryz.sizeOf0
  v0 := Tryz.zeroValue0
  t3 := Tryz.underlying3
  a3 := Tryz.isAgg3
  z3 := Tryz.sizeOf3
  v3 := Tryz.zeroValue3
  t4 := Tryz.underlying4
  a4 := Tryz.isAgg4
  z4 := Tryz.sizeOf4
  v4 := Tryz.zeroValue4
  t5 := Tryz.underlying5
  a5 := Tryz.isAgg5
  z5 := Tryz.sizeOf5
  v5 := Tryz.zeroValue5
  t9 := Tryz.underlying9
  a9 := Tryz.isAgg9
  z9 := Tryz.sizeOf9
  v9 := Tryz.zeroValue9
  t22 := Tryz.underlying101
  a22 := Tryz.isAgg101
  z22 := Tryz.sizeOf101
  v22 := Tryz.zeroValue101
  t23 := Tryz.underlying101
  a23 := Tryz.isAgg101
  z23 := Tryz.sizeOf101
  v23 := Tryz.zeroValue101
  t25 := Tryz.underlying28
  a25 := Tryz.isAgg28
  z25 := Tryz.sizeOf28
  v25 := Tryz.zeroValue28
  t32 := Tryz.underlying219
  a32 := Tryz.isAgg219
  z32 := Tryz.sizeOf219
  v32 := Tryz.zeroValue219
  t35 := Tryz.underlying228
  a35 := Tryz.isAgg228
  z35 := Tryz.sizeOf228
  v35 := Tryz.zeroValue228
  t36 := Tryz.underlying229
  a36 := Tryz.isAgg229
  z36 := Tryz.sizeOf229
  v36 := Tryz.zeroValue229
  t41 := Tryz.underlying234
  a41 := Tryz.isAgg234
  z41 := Tryz.sizeOf234
  v41 := Tryz.zeroValue234
  t44 := Tryz.underlying237
  a44 := Tryz.isAgg237
  z44 := Tryz.sizeOf237
  v44 := Tryz.zeroValue237
  t46 := Tryz.underlying239
  a46 := Tryz.isAgg239
  z46 := Tryz.sizeOf239
  v46 := Tryz.zeroValue239
  t53 := Tryz.underlying242
  a53 := Tryz.isAgg242
  z53 := Tryz.sizeOf242
  v53 := Tryz.zeroValue242
  t57 := Tryz.underlying124
  a57 := Tryz.isAgg124
  z57 := Tryz.sizeOf124
  v57 := Tryz.zeroValue124
  t63 := Tryz.underlying247
  a63 := Tryz.isAgg247
  z63 := Tryz.sizeOf247
  v63 := Tryz.zeroValue247
  t64 := Tryz.underlying121
  a64 := Tryz.isAgg121
  z64 := Tryz.sizeOf121
  v64 := Tryz.zeroValue121 }
end Go.Proofs.YthebeomenjfdlaaGreat
/- A loop over a map with references as keys, said with the map as a function of its keys. -/
namespace Go.Proofs.YthebeomenjfdlaaGreat
open Go.RowKit Go.ChangeMaps Go.MapKept
open Go.Maps (Keyed)

/-- Block r is a loop over the map b, which has f; L says whose turn is still to come. -/
def Rg (w : World) (b r : Nat) (f : Value → Option Value) (L : Int → Bool) (cnt : Nat) : Prop :=
  ∃ (D : DataW Value) (n : Nat) (left : Lit → Bool), w.ranges Tryz.prog 28 tokR b r n D left cnt ∧
    (∀ key kl, keyOf Tryz.prog 28 key = some kl → Maps.has D kl = (f key).isSome ∧ ∀ v, f key = some v → ∀ zd, D.atKey kl zd = .held v) ∧
    ∀ x, (Lit.int .i64 x).wf = true → left (.int .i64 x) = L x

section
variable {w : World} {b r : Nat} {f : Value → Option Value} {L : Int → Bool} {cnt : Nat}

theorem Rg.of_blocks {w' : World} (h : Rg w b r f L cnt) (hb : w'.heap[b]? = w.heap[b]?) (hr : w'.heap[r]? = w.heap[r]?) : Rg w' b r f L cnt := by
  obtain ⟨D, n, left, ⟨es, clock, since, seen, c0, h1, h2, h3, h4, h5, h6⟩, r'⟩ := h
  exact ⟨D, n, left, ⟨es, clock, since, seen, c0, hb.trans h1, h2, h3, h4, hr.trans h5, h6⟩, r'⟩
theorem Rg.lt (h : Rg w b r f L cnt) : r < w.heap.size := by
  obtain ⟨D, n, left, h, _⟩ := h
  exact h.lt
theorem Rg.ltb (h : Rg w b r f L cnt) : b < w.heap.size := by
  obtain ⟨D, n, left, h, _⟩ := h
  exact h.owns.lt
theorem Rg.ne (h : Rg w b r f L cnt) : r ≠ b := by
  obtain ⟨D, n, left, h, _⟩ := h
  exact h.ne
theorem Rg.below {w' : World} (h : Rg w b r f L cnt) (hb : Below w.heap.size w w') : Rg w' b r f L cnt := h.of_blocks (hb.block b h.ltb) (hb.block r h.lt)
theorem Rg.left_eq (h : Rg w b r f L cnt) : w.rangeLeft b r = cnt := by
  obtain ⟨D, n, left, h, _⟩ := h
  exact h.left_eq
theorem Rg.congr {L' : Int → Bool} (h : Rg w b r f L cnt) (hL : ∀ x, (Lit.int .i64 x).wf = true → L' x = L x) : Rg w b r f L' cnt := by
  obtain ⟨D, n, left, h1, h2, h3⟩ := h
  exact ⟨D, n, left, h1, h2, fun x hx => (h3 x hx).trans (hL x hx).symm⟩
end

section
variable {w : World} {ops : Array Oper} {rest : List Oper} {o : Oper} {a : Act} {Q : Exit → Act → World → Prop}

theorem range_H (hg : o.guard = none) (m : Operand) (t e : TypeId) (hop : o.op = Op.range t m) (ht : Tryz.prog.underlying t = some (.map 28 e)) (b n : Nat) (f : Value → Option Value)
    (hm : a.eval m = .map (some b)) (h : HasMap Tryz.prog 28 w b f n)
    (hK : ∀ w' L cnt, Rg w' b w.heap.size f L cnt → (∀ x, (Lit.int .i64 x).wf = true → L x = (f (.int .i64 x)).isSome) → Below w.heap.size w w' → wpList Tryz.prog ops Q rest (a.put o.dst (.pointer (some ⟨w.heap.size, 0, none⟩))) w') :
    wpList Tryz.prog ops Q (o :: rest) a w := by
  obtain ⟨D, h1, h2, h3⟩ := h
  refine wpList_range_own w hg m t hop 28 e keyedRef ht tokR b n D hm h1 fun w' hrg hgr hsz => ?_
  refine hK w' (fun x => (f (.int .i64 x)).isSome) (Maps.size D) ⟨D, n, Maps.has D, hrg, h3, fun x hx => (h3 _ _ (key_ref hx)).1⟩ (fun x _ => rfl) ?_
  exact ⟨hgr.os, hgr.tape, hgr.output, hgr.size, fun k hk => hgr.block k hk (by simp)⟩

theorem next_H (hg : o.guard = none) (it : Operand) (hop : o.op = Op.next it false) (b r : Nat) (f : Value → Option Value) (L : Int → Bool) (cnt : Nat)
    (hit : a.eval it = .pointer (some ⟨r, 0, none⟩)) (h : Rg w b r f L cnt)
    (hDone : (∀ x, (Lit.int .i64 x).wf = true → L x = false) → wpList Tryz.prog ops Q rest (a.put o.dst (.tuple #[.bool false])) w)
    (hMore : ∀ (x : Int) (v : Value) (w' : World) (cnt' : Nat), (Lit.int .i64 x).wf = true → L x = true → f (.int .i64 x) = some v → Rg w' b r f (fun z => L z && !decide (z = x)) cnt' → cnt' < cnt →
      Keeps (fun y => y = r) w w' → w'.heap.size = w.heap.size → (Instr.entry (.pointer (some ⟨r, 0, none⟩))).run Tryz.prog w' = .ok (.tuple #[.int .i64 x, v]) w' → wpList Tryz.prog ops Q rest (a.put o.dst (.tuple #[.bool true, .int .i64 x, v])) w') :
    wpList Tryz.prog ops Q (o :: rest) a w := by
  obtain ⟨D, n, left, h1, h2, h3⟩ := h
  refine wpList_next_ranges w hg it hop 28 keyedRef tokR (Value.int .i64) (fun v : Value => v) (fun key kl hk => by obtain ⟨x, rfl, _⟩ := Maps.keyOf_int_inv Tryz.underlying28 hk; exact ⟨x, rfl⟩) (fun v y _ => ⟨v, rfl⟩) b r n D left cnt hit h1
    (fun _ hl => hDone fun x hx => (h3 x hx).symm.trans (hl _)) ?_
  intro x v kl y w' cnt' hkey hl hv hat hrg hlt hgr hsz hen
  obtain ⟨x', ex, rfl, hx⟩ := Maps.keyOf_int_inv Tryz.underlying28 hkey
  cases ex
  obtain ⟨g1, g2⟩ := h2 _ _ hkey
  have ey := (tokR_inj hv).1
  have hf : f (.int .i64 x) = some v := by
    cases hfx : f (.int .i64 x) with
    | none =>
      rw [hfx] at g1
      have h5 := Maps.atKey_of_not_has (D := D) (k := .int .i64 x) (by simpa using g1) .nil
      have h6 := hat .nil
      rw [h5, ey] at h6
      cases h6
    | some u =>
      have h6 := g2 u hfx .nil
      rw [hat .nil, ey] at h6
      cases h6
      rfl
  refine hMore x v w' cnt' hx ((h3 x hx).symm.trans hl) hf ⟨D, n, _, hrg, h2, fun z hz => ?_⟩ hlt (Keeps.of_grown hgr (fun z hz => by cases hz; rfl)) hsz hen
  show (left (.int .i64 z) && !(Lit.int .i64 z).sameKey (.int .i64 x)) = _
  rw [h3 z hz]
  simp [Lit.sameKey]
end
theorem thf_some {M : WM} {bl : Int → Nat} {x : Int} {v : Value} (h : thf M bl (.int .i64 x) = some v) : ∃ t, M.at x = some t ∧ v = .pointer (some ⟨bl x, 0, none⟩) := by
  simp only [thf] at h
  rw [Option.map_eq_some_iff] at h
  obtain ⟨t, h1, h2⟩ := h
  exact ⟨t, h1, h2.symm⟩
end Go.Proofs.YthebeomenjfdlaaGreat
/- A region that draws its order, whose operations answer one value in every world of a class. -/
namespace Go.Proofs.YthebeomenjfdlaaGreat
open Go.RowKit

theorem region_class {P : Program} {C : World → Prop} {id : Nat} {Q : Exit → Act → World → Prop} {a : Act} {w : World} {l : List Oper} (hm : P.follows .mixedOrders = true) (hB : Region.lexB .any l.toArray = true) (hC : C w.drew)
    (h : wpQuiet P l.toArray C (fun a' => ∀ w', C w' → Q .normal a' w') l a) : (Code.region id l.toArray true).wp P Q a w :=
  wp_region_quiet (C := C) hm hB hC (by simpa using h)
theorem below_drew {w : World} : Below w.heap.size w w.drew := ⟨rfl, rfl, rfl, Nat.le_refl _, fun _ _ => rfl⟩
theorem below_drewN {w : World} (n : Nat) : Below w.heap.size w (w.drewN n) := ⟨rfl, rfl, rfl, Nat.le_refl _, fun _ _ => rfl⟩
end Go.Proofs.YthebeomenjfdlaaGreat
