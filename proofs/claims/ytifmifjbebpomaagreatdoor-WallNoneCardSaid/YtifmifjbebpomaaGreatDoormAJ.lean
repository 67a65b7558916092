/- A part of the proof, several texts in one: NoW, NoC, SortLay, RefsW. -/
import Derived.Test.YtifmifjbebpomaaGreatDoormAI
import Derived.Test.YtifmifjbebpomaaGreatDoormAA
import Derived.Test.YtifmifjbebpomaaGreatDoorChecked
import Derived.Shelf.SortM.Plain
import Derived.Ground.SlgmProg
import Derived.Shelf.SlGeneric
import Derived.Test.YtifmifjbebpomaaGreatDoormAE
import Derived.Test.YtifmifjbebpomaaGreatDoormAB
import Derived.Test.YtifmifjbebpomaaGreatDoormAD
import Derived.Sort.OwnSortedInts
import Derived.RangeFuncBox
import Derived.Test.YtifmifjbebpomaaGreatDoormAF
import Derived.Deep.DeepCutAuto
import Derived.Deep.CutBlock
/- Worlds that are not there: the nil world, the zero world. -/
namespace Go.Proofs.YtifmifjbebpomaaGreatDoor
open Go.RowKit Go.ChangeMaps Go.MapKept

/-- No world: nil, or one without its map of things. -/
def NoW (w : World) (v : Value) : Prop := v = .pointer none ∨ ∃ b, v = .pointer (some ⟨b, 0, none⟩) ∧ w.cell? ⟨b, 2, none⟩ = some (.map none)
theorem NoW.below {w w' : World} {v : Value} (h : NoW w v) (hb : Below w.heap.size w w') : NoW w' v := by
  rcases h with rfl | ⟨b, rfl, h⟩
  · exact .inl rfl
  · exact .inr ⟨b, rfl, (hb.cell (p := ⟨b, 2, none⟩) (World.block_lt_of_cell? _ _ h)).trans h⟩

set_option maxRecDepth 8000 in
theorem none_no {w : World} {v : Value} (h : NoW w v) : Calls Tryz.prog 46 #[v] w fun e w' => e = .returned (.bool true) ∧ w = w' := by
  rcases h with rfl | ⟨b, rfl, h⟩
  all_goals
    go_enter Tryz.func46, Tryz.ntmps46
    go_wp2
    go_ret
    exact ⟨rfl, rfl⟩

attribute [local go_sem ↓] execOp_stW
set_option maxRecDepth 8000 in
theorem What_no {w : World} {v : Value} (h : NoW w v) (r : Int) : Calls Tryz.prog 58 #[v, .int .i64 r] w fun e w' => e = .returned (.tuple #[.agg #[.int .u8 0, .int .i64 0, .int .u8 0, .int .i64 0, .string ⟨#[]⟩, .slice none 0 0, .int .i64 0, .slice none 0 0, .int .i64 0, .int .i64 0, .int .i64 0, .int .i64 0, .int .u8 0, .bool false, .slice none 0 0, .slice none 0 0], .int .i64 1]) ∧ Below w.heap.size w w' := by
  have hn := fun w' (hb : Below w.heap.size w w') => none_no (h.below hb)
  have HN := (show Hid _ from hn)
  clear hn h
  go_enter Tryz.func58, Tryz.ntmps58
  go_wp2_with fail
  refine Calls.mono (HN.out _ ((Below.refl _ w).alloc (Nat.le_refl _) _)) ?_
  rintro e _ ⟨rfl, rfl⟩
  have B1 := blk_new w (.cells #[.int .u8 0, .int .i64 0, .int .u8 0, .int .i64 0, .string ⟨#[]⟩, .slice none 0 0, .int .i64 0, .slice none 0 0, .int .i64 0, .int .i64 0, .int .i64 0, .int .i64 0, .int .u8 0, .bool false, .slice none 0 0, .slice none 0 0] 73)
  have hst := storeWhat_blk (c' := #[.int .u8 0, .int .i64 0, .int .u8 0, .int .i64 0, .string ⟨#[]⟩, .slice none 0 0, .int .i64 0, .slice none 0 0, .int .i64 0, .int .i64 0, .int .i64 0, .int .i64 0, .int .u8 0, .bool false, .slice none 0 0, .slice none 0 0]) B1 rfl rfl (by simp [go_sem])
  go_wp2_with fail
  exact bodyPost_ret (results_What2 rfl _ _ _ _ _ rfl (heap_setRow_at B1) rfl) rfl ⟨rfl, Below.setRow ((Below.refl _ _).alloc (Nat.le_refl _) _) (Nat.le_refl _) _⟩

set_option maxHeartbeats 1000000 in
set_option maxRecDepth 8000 in
theorem find_no {w : World} {v : Value} (h : NoW w v) (r k : Int) : Calls Tryz.prog 169 #[v, .int .i64 r, .int .u8 k] w fun e w' => e = .returned (.tuple #[.agg #[.int .u8 0, .int .i64 0, .int .u8 0, .int .i64 0, .string ⟨#[]⟩, .slice none 0 0, .int .i64 0, .slice none 0 0, .int .i64 0, .int .i64 0, .int .i64 0, .int .i64 0, .int .u8 0, .bool false, .slice none 0 0, .slice none 0 0], .int .i64 1]) ∧ Below w.heap.size w w' := by
  have B1 := blk_new w (.cells #[.int .u8 0, .int .i64 0, .int .u8 0, .int .i64 0, .string ⟨#[]⟩, .slice none 0 0, .int .i64 0, .slice none 0 0, .int .i64 0, .int .i64 0, .int .i64 0, .int .i64 0, .int .u8 0, .bool false, .slice none 0 0, .slice none 0 0] 73)
  rcases h with rfl | ⟨b, rfl, h⟩
  · have hst := storeWhat_blk (c' := #[.int .u8 0, .int .i64 0, .int .u8 0, .int .i64 0, .string ⟨#[]⟩, .slice none 0 0, .int .i64 0, .slice none 0 0, .int .i64 0, .int .i64 0, .int .i64 0, .int .i64 0, .int .u8 0, .bool false, .slice none 0 0, .slice none 0 0]) B1 rfl rfl (by simp [go_sem])
    go_enter Tryz.func169, Tryz.ntmps169
    go_wp2_with fail
    exact bodyPost_ret (results_What2 rfl _ _ _ _ _ rfl (heap_setRow_at B1) rfl) rfl ⟨rfl, Below.setRow ((Below.refl _ _).alloc (Nat.le_refl _) _) (Nat.le_refl _) _⟩
  · have hw := fun w' (hb : Below w.heap.size w w') => What_no (NoW.below (.inr ⟨b, rfl, h⟩) hb) r
    have HW := (show Hid _ from hw)
    clear hw h
    go_enter Tryz.func169, Tryz.ntmps169
    go_wp2_with fail
    refine Calls.mono (HW.out _ ((Below.refl _ w).alloc (Nat.le_refl _) _)) ?_
    rintro e w1 ⟨rfl, hb1⟩
    have B1' : w1.heap[w.heap.size]? = _ := (hb1.block _ (blk_lt B1)).trans B1
    have hb0 : Below w.heap.size w w1 := ((Below.refl _ w).alloc (Nat.le_refl _) _).trans (hb1.mono (by simp))
    have B2 := blk_new w1 (.cells #[.int .u8 0, .int .i64 0, .int .u8 0, .int .i64 0, .string ⟨#[]⟩, .slice none 0 0, .int .i64 0, .slice none 0 0, .int .i64 0, .int .i64 0, .int .i64 0, .int .i64 0, .int .u8 0, .bool false, .slice none 0 0, .slice none 0 0] 73)
    have hst2 := storeWhat_blk (c' := #[.int .u8 0, .int .i64 0, .int .u8 0, .int .i64 0, .string ⟨#[]⟩, .slice none 0 0, .int .i64 0, .slice none 0 0, .int .i64 0, .int .i64 0, .int .i64 0, .int .i64 0, .int .u8 0, .bool false, .slice none 0 0, .slice none 0 0]) B2 rfl rfl (by simp [go_sem])
    have B3 : ((w1.alloc (.cells #[.int .u8 0, .int .i64 0, .int .u8 0, .int .i64 0, .string ⟨#[]⟩, .slice none 0 0, .int .i64 0, .slice none 0 0, .int .i64 0, .int .i64 0, .int .i64 0, .int .i64 0, .int .u8 0, .bool false, .slice none 0 0, .slice none 0 0] 73)).setRow w1.heap.size #[.int .u8 0, .int .i64 0, .int .u8 0, .int .i64 0, .string ⟨#[]⟩, .slice none 0 0, .int .i64 0, .slice none 0 0, .int .i64 0, .int .i64 0, .int .i64 0, .int .i64 0, .int .u8 0, .bool false, .slice none 0 0, .slice none 0 0]).heap[w.heap.size]? = some (.cells #[.int .u8 0, .int .i64 0, .int .u8 0, .int .i64 0, .string ⟨#[]⟩, .slice none 0 0, .int .i64 0, .slice none 0 0, .int .i64 0, .int .i64 0, .int .i64 0, .int .i64 0, .int .u8 0, .bool false, .slice none 0 0, .slice none 0 0] 73 (0, 0)) :=
      (heap_setRow_other _ _ _ _ (by have := blk_lt B1'; omega)).trans ((Below.heap_alloc _ _ _ (blk_lt B1')).trans B1')
    have hst3 := storeWhat_blk (c' := #[.int .u8 0, .int .i64 0, .int .u8 0, .int .i64 0, .string ⟨#[]⟩, .slice none 0 0, .int .i64 0, .slice none 0 0, .int .i64 0, .int .i64 0, .int .i64 0, .int .i64 0, .int .u8 0, .bool false, .slice none 0 0, .slice none 0 0]) B3 rfl rfl (by simp [go_sem])
    go_wp2_with fail
    exact bodyPost_ret (results_What2 rfl _ _ _ _ _ rfl (heap_setRow_at B3) rfl) rfl ⟨rfl, Below.setRow (Below.setRow (hb0.alloc hb0.size _) hb0.size _) (Nat.le_refl _) _⟩
end Go.Proofs.YtifmifjbebpomaaGreatDoor
/- World's calls over worlds that are not there. -/
namespace Go.Proofs.YtifmifjbebpomaaGreatDoor
open Go.RowKit Go.ChangeMaps Go.MapKept

set_option maxRecDepth 8000 in
theorem wSides_no {w : World} {v : Value} (hv : NoW w v) : Calls Tryz.prog 31 #[v] w fun e w' => e = .returned (.int .i64 0) ∧ w = w' := by
  have HN := (show Hid _ from none_no hv)
  clear hv
  go_enter Tryz.func31, Tryz.ntmps31
  go_wp2_with fail
  refine Calls.mono HN.out ?_
  rintro e _ ⟨rfl, rfl⟩
  go_wp2_with fail
  go_ret
  exact ⟨rfl, rfl⟩
set_option maxRecDepth 8000 in
theorem wParent_no {w : World} {v : Value} (hv : NoW w v) (s : Int) : Calls Tryz.prog 73 #[v, .int .i64 s] w fun e w' => e = .returned (.tuple #[.int .i64 0, .int .i64 1]) ∧ w = w' := by
  have HN := (show Hid _ from none_no hv)
  clear hv
  go_enter Tryz.func73, Tryz.ntmps73
  go_wp2_with fail
  refine Calls.mono HN.out ?_
  rintro e _ ⟨rfl, rfl⟩
  go_wp2_with fail
  go_ret2
  exact ⟨rfl, rfl⟩
set_option maxRecDepth 8000 in
theorem wCutEdge_no {w : World} {v : Value} (hv : NoW w v) (n : Int) : Calls Tryz.prog 42 #[v, .int .i64 n] w fun e w' => e = .returned (.int .i64 1) ∧ w = w' := by
  have HN := (show Hid _ from none_no hv)
  clear hv
  go_enter Tryz.func42, Tryz.ntmps42
  go_wp2_with fail
  refine Calls.mono HN.out ?_
  rintro e _ ⟨rfl, rfl⟩
  go_wp2_with fail
  go_ret
  exact ⟨rfl, rfl⟩



set_option maxRecDepth 8000 in
theorem wFree_no {w : World} {v : Value} (hv : NoW w v) (s r : Int) : Calls Tryz.prog 103 #[v, .int .i64 s, .int .i64 r] w fun e w' => e = .returned (.int .i64 1) ∧ w = w' := by
  have HN := (show Hid _ from none_no hv)
  clear hv
  go_enter Tryz.func103, Tryz.ntmps103
  go_wp2_with fail
  refine Calls.mono HN.out ?_
  rintro e _ ⟨rfl, rfl⟩
  go_wp2_with fail
  go_ret
  exact ⟨rfl, rfl⟩
set_option maxRecDepth 8000 in
theorem wCopy_no {w : World} {v : Value} (hv : NoW w v) : Calls Tryz.prog 27 #[v] w fun e w' => e = .returned (.pointer none) ∧ w = w' := by
  have HN := (show Hid _ from none_no hv)
  clear hv
  go_enter Tryz.func27, Tryz.ntmps27
  go_wp2_with fail
  refine Calls.mono HN.out ?_
  rintro e _ ⟨rfl, rfl⟩
  go_wp2_with fail
  go_ret
  exact ⟨rfl, rfl⟩


set_option maxRecDepth 8000 in
theorem wIs_no {w : World} {v : Value} (hv : NoW w v) (r : Int) : Calls Tryz.prog 23 #[v, .int .i64 r] w fun e w' => e = .returned (.bool false) ∧ w = w' := by
  have HN := (show Hid _ from none_no hv)
  clear hv
  go_enter Tryz.func23, Tryz.ntmps23
  go_wp2_with fail
  refine Calls.mono HN.out ?_
  rintro e _ ⟨rfl, rfl⟩
  go_wp2_with fail
  go_ret
  exact ⟨rfl, rfl⟩
set_option maxRecDepth 8000 in
theorem wKind_no {w : World} {v : Value} (hv : NoW w v) (r : Int) : Calls Tryz.prog 64 #[v, .int .i64 r] w fun e w' => e = .returned (.int .u8 0) ∧ w = w' := by
  have HN := (show Hid _ from wIs_no hv r)
  clear hv
  go_enter Tryz.func64, Tryz.ntmps64
  go_wp2_with fail
  refine Calls.mono HN.out ?_
  rintro e _ ⟨rfl, rfl⟩
  go_wp2_with fail
  go_ret
  exact ⟨rfl, rfl⟩
set_option maxRecDepth 8000 in
theorem wHome_no {w : World} {v : Value} (hv : NoW w v) (r : Int) : Calls Tryz.prog 29 #[v, .int .i64 r] w fun e w' => e = .returned (.tuple #[.int .i64 0, .bool false]) ∧ w = w' := by
  have HN := (show Hid _ from wIs_no hv r)
  clear hv
  go_enter Tryz.func29, Tryz.ntmps29
  go_wp2_with fail
  refine Calls.mono HN.out ?_
  rintro e _ ⟨rfl, rfl⟩
  go_wp2_with fail
  go_ret2
  exact ⟨rfl, rfl⟩
set_option maxRecDepth 8000 in
theorem wside_no {w : World} {v : Value} (hv : NoW w v) (s : Int) : Calls Tryz.prog 78 #[v, .int .i64 s] w fun e w' => e = .returned (.bool false) ∧ w = w' := by
  have HN := (show Hid _ from wSides_no hv)
  clear hv
  by_cases h0 : 0 ≤ s
  · go_enter Tryz.func78, Tryz.ntmps78
    go_wp2_with fail
    refine Calls.mono HN.out ?_
    rintro e _ ⟨rfl, rfl⟩
    go_wp2_with fail
    go_ret
    exact ⟨by simp <;> omega, rfl⟩
  · go_enter Tryz.func78, Tryz.ntmps78
    go_wp2_with fail
    go_ret
    exact ⟨by simp <;> omega, rfl⟩
set_option maxRecDepth 8000 in
theorem wedge_no {w : World} {v : Value} (hv : NoW w v) (s : Int) : Calls Tryz.prog 74 #[v, .int .i64 s] w fun e w' => e = .returned (.bool false) ∧ w = w' := by
  have HN := (show Hid _ from wSides_no hv)
  clear hv
  by_cases h0 : 0 < s
  · go_enter Tryz.func74, Tryz.ntmps74
    go_wp2_with fail
    refine Calls.mono HN.out ?_
    rintro e _ ⟨rfl, rfl⟩
    go_wp2_with fail
    go_ret
    exact ⟨by simp <;> omega, rfl⟩
  · go_enter Tryz.func74, Tryz.ntmps74
    go_wp2_with fail
    go_ret
    exact ⟨by simp <;> omega, rfl⟩
set_option maxRecDepth 8000 in
theorem wIsCut_no {w : World} {v : Value} (hv : NoW w v) (n : Int) : Calls Tryz.prog 35 #[v, .int .i64 n] w fun e w' => e = .returned (.bool false) ∧ w = w' := by
  have HN := (show Hid _ from wedge_no hv n)
  clear hv
  go_enter Tryz.func35, Tryz.ntmps35
  go_wp2_with fail
  refine Calls.mono HN.out ?_
  rintro e _ ⟨rfl, rfl⟩
  go_wp2_with fail
  go_ret
  exact ⟨rfl, rfl⟩
set_option maxRecDepth 8000 in
theorem wOpen_no {w : World} {v : Value} (hv : NoW w v) (a b : Int) : Calls Tryz.prog 41 #[v, .int .i64 a, .int .i64 b] w fun e w' => e = .returned (.bool false) ∧ w = w' := by
  have HN := (show Hid _ from wside_no hv a)
  clear hv
  go_enter Tryz.func41, Tryz.ntmps41
  go_wp2_with fail
  refine Calls.mono HN.out ?_
  rintro e _ ⟨rfl, rfl⟩
  go_wp2_with fail
  go_ret
  exact ⟨rfl, rfl⟩

theorem sizeWhat' : (Tryz.prog.info? 73).map (·.size) = some 16 := by kernel_rfl
end Go.Proofs.YtifmifjbebpomaaGreatDoor
/- The contract of slices.Sort, laid at the references. -/
namespace Go.Proofs.YtifmifjbebpomaaGreatDoor
open Go.Shelf
def Tryz.sortLay_ren : Go.Shelf.Ren := ⟨fun | 5 => 119 | 8 => 150 | 7 => 149 | 19 => 184 | 20 => 185 | 10 => 175 | 11 => 176 | 12 => 177 | 13 => 178 | 14 => 179 | 15 => 180 | 16 => 181 | 17 => 182 | 18 => 183 | 30 => 192 | 31 => 193 | 32 => 194 | 33 => 195 | 34 => 196 | 35 => 197 | 40 => 200 | n => n, fun | 23 => 112 | 25 => 24 | 3 => 3 | 32 => 98 | 22 => 112 | 0 => 0 | 44 => 159 | 46 => 161 | 4 => 4 | 36 => 280 | 35 => 279 | 41 => 285 | 5 => 5 | 9 => 9 | 53 => 309 | 57 => 182 | 63 => 315 | 64 => 316 | n => n, fun | n => n⟩
theorem Tryz.sortLay : Go.Proofs.SlLaysM.n5 Tryz.prog Tryz.sortLay_ren := {
  mixed := by kernel_rfl
  f5 := ⟨Tryz.f119.name, by decide, Tryz.func119.trans (congrArg some (by kernel_rfl))⟩
  f7 := ⟨Tryz.f149.name, by decide, Tryz.func149.trans (congrArg some (by kernel_rfl))⟩
  f8 := Tryz.func150.trans (congrArg some (by kernel_rfl))
  f10 := ⟨Tryz.f175.name, by decide, Tryz.func175.trans (congrArg some (by kernel_rfl))⟩
  f11 := ⟨Tryz.f176.name, by decide, Tryz.func176.trans (congrArg some (by kernel_rfl))⟩
  f12 := ⟨Tryz.f177.name, by decide, Tryz.func177.trans (congrArg some (by kernel_rfl))⟩
  f13 := ⟨Tryz.f178.name, by decide, Tryz.func178.trans (congrArg some (by kernel_rfl))⟩
  f14 := ⟨Tryz.f179.name, by decide, Tryz.func179.trans (congrArg some (by kernel_rfl))⟩
  f15 := ⟨Tryz.f180.name, by decide, Tryz.func180.trans (congrArg some (by kernel_rfl))⟩
  f16 := ⟨Tryz.f181.name, by decide, Tryz.func181.trans (congrArg some (by kernel_rfl))⟩
  f17 := ⟨Tryz.f182.name, by decide, Tryz.func182.trans (congrArg some (by kernel_rfl))⟩
  f18 := ⟨Tryz.f183.name, by decide, Tryz.func183.trans (congrArg some (by kernel_rfl))⟩
  f19 := Tryz.func184.trans (congrArg some (by kernel_rfl))
  f20 := Tryz.func185.trans (congrArg some (by kernel_rfl))
  f30 := ⟨Tryz.f192.name, by decide, Tryz.func192.trans (congrArg some (by kernel_rfl))⟩
  f31 := Tryz.func193.trans (congrArg some (by kernel_rfl))
  f32 := Tryz.func194.trans (congrArg some (by kernel_rfl))
  f33 := ⟨Tryz.f195.name, by decide, Tryz.func195.trans (congrArg some (by kernel_rfl))⟩
  f34 := ⟨Tryz.f196.name, by decide, Tryz.func196.trans (congrArg some (by kernel_rfl))⟩
  f35 := ⟨Tryz.f197.name, by decide, Tryz.func197.trans (congrArg some (by kernel_rfl))⟩
  f40 := ⟨Tryz.f200.name, by decide, Tryz.func200.trans (congrArg some (by kernel_rfl))⟩
  t0 := Tryz.underlying0
  a0 := Tryz.isAgg0
  z0 := Tryz.sizeOf0
  v0 := Tryz.zeroValue0
  t3 := Tryz.underlying3
  a3 := Tryz.isAgg3
  z3 := Tryz.sizeOf3
  v3 := Tryz.zeroValue3
  t4 := Tryz.underlying4
  a4 := Tryz.isAgg4
  z4 := Tryz.sizeOf4
  v4 := Tryz.zeroValue4
  t5 := Tryz.underlying5
  a5 := Tryz.isAgg5
  z5 := Tryz.sizeOf5
  v5 := Tryz.zeroValue5
  t9 := Tryz.underlying9
  a9 := Tryz.isAgg9
  z9 := Tryz.sizeOf9
  v9 := Tryz.zeroValue9
  t22 := Tryz.underlying112
  a22 := Tryz.isAgg112
  z22 := Tryz.sizeOf112
  v22 := Tryz.zeroValue112
  t23 := Tryz.underlying112
  a23 := Tryz.isAgg112
  z23 := Tryz.sizeOf112
  v23 := Tryz.zeroValue112
  t25 := Tryz.underlying24
  a25 := Tryz.isAgg24
  z25 := Tryz.sizeOf24
  v25 := Tryz.zeroValue24
  t32 := Tryz.underlying98
  a32 := Tryz.isAgg98
  z32 := Tryz.sizeOf98
  v32 := Tryz.zeroValue98
  t35 := Tryz.underlying279
  a35 := Tryz.isAgg279
  z35 := Tryz.sizeOf279
  v35 := Tryz.zeroValue279
  t36 := Tryz.underlying280
  a36 := Tryz.isAgg280
  z36 := Tryz.sizeOf280
  v36 := Tryz.zeroValue280
  t41 := Tryz.underlying285
  a41 := Tryz.isAgg285
  z41 := Tryz.sizeOf285
  v41 := Tryz.zeroValue285
  t44 := Tryz.underlying159
  a44 := Tryz.isAgg159
  z44 := Tryz.sizeOf159
  v44 := Tryz.zeroValue159
  t46 := Tryz.underlying161
  a46 := Tryz.isAgg161
  z46 := Tryz.sizeOf161
  v46 := Tryz.zeroValue161
  t53 := Tryz.underlying309
  a53 := Tryz.isAgg309
  z53 := Tryz.sizeOf309
  v53 := Tryz.zeroValue309
  t57 := Tryz.underlying182
  a57 := Tryz.isAgg182
  z57 := Tryz.sizeOf182
  v57 := Tryz.zeroValue182
  t63 := Tryz.underlying315
  a63 := Tryz.isAgg315
  z63 := Tryz.sizeOf315
  v63 := Tryz.zeroValue315
  t64 := Tryz.underlying316
  a64 := Tryz.isAgg316
  z64 := Tryz.sizeOf316
  v64 := Tryz.zeroValue316 }
end Go.Proofs.YtifmifjbebpomaaGreatDoor
/- refs: all numbers of a world, rising. -/
namespace Go.Proofs.YtifmifjbebpomaaGreatDoor
open Go.RowKit Go.ChangeMaps Go.MapKept
variable {w : World} {p : Nat} {M : WM} {F : Nat → Prop}

/-- What has come, and what is still to come. -/
structure Cs (M : WM) (L : Int → Bool) (ss : List Int) : Prop where
  nd : ss.Nodup
  mem : ∀ x, x ∈ ss ↔ ((M.at x).isSome = true ∧ L x = false)
theorem Cs.start {M : WM} (hM : M.ok) {bl : Int → Nat} {L : Int → Bool} (h : ∀ x, (Lit.int .i64 x).wf = true → L x = (thf M bl (.int .i64 x)).isSome) : Cs M L [] where
  nd := List.nodup_nil
  mem := fun x => by
    constructor
    · intro hx
      cases hx
    · rintro ⟨h1, h2⟩
      obtain ⟨t, ht⟩ := Option.isSome_iff_exists.1 h1
      rw [h x (hM.at_wf ht)] at h2
      simp [thf, ht] at h2
theorem Cs.step {M : WM} {L : Int → Bool} {ss : List Int} (h : Cs M L ss) {x : Int} {t : Th} (hx : M.at x = some t) (hL : L x = true) : Cs M (fun z => L z && !decide (z = x)) (ss ++ [x]) where
  nd := by
    rw [List.nodup_append]
    refine ⟨h.nd, by simp, fun a ha b hb => ?_⟩
    simp at hb
    subst hb
    intro e
    subst e
    rw [((h.mem a).1 ha).2] at hL
    cases hL
  mem := fun y => by
    rw [List.mem_append, h.mem y]
    by_cases e : y = x
    · subst e
      simp [hx]
    · simp [e]
theorem Cs.done {M : WM} (hM : M.ok) {L : Int → Bool} {ss : List Int} (h : Cs M L ss) (hL : ∀ x, (Lit.int .i64 x).wf = true → L x = false) : (ss.mergeSort fun x y => decide (x ≤ y)) = M.things.map (·.1) ∧ ss.length = M.things.length := by
  have hk : (M.things.map (·.1)).Pairwise (fun a b => a < b) := by
    rw [List.pairwise_map]
    exact hM.keys
  have hnd : (M.things.map (·.1)).Nodup := hk.imp (fun h => by omega)
  have hp : ss.Perm (M.things.map (·.1)) := (List.perm_ext_iff_of_nodup h.nd hnd).2 fun x => by
    rw [h.mem x, List.mem_map]
    constructor
    · rintro ⟨h1, -⟩
      obtain ⟨t, ht⟩ := Option.isSome_iff_exists.1 h1
      exact ⟨(x, t), at_mem ht, rfl⟩
    · rintro ⟨y, hy, rfl⟩
      have := hM.at_of_mem hy
      exact ⟨by rw [this]; rfl, hL _ (hM.at_wf this)⟩
  have tr : ∀ a b c : Int, decide (a ≤ b) = true → decide (b ≤ c) = true → decide (a ≤ c) = true := fun a b c h1 h2 => by simp at *; omega
  have tot : ∀ a b : Int, (decide (a ≤ b) || decide (b ≤ a)) = true := fun a b => by simp; omega
  refine ⟨?_, by rw [hp.length_eq, List.length_map]⟩
  exact List.Perm.eq_of_pairwise (le := fun a b => decide (a ≤ b) = true) (fun a b _ _ h1 h2 => by simp at h1 h2; omega) (List.pairwise_mergeSort tr tot ss) (hk.imp (fun h => by simp; omega)) ((List.mergeSort_perm ss _).trans hp)
theorem nodup_len : ∀ (l m : List Int), l.Nodup → (∀ x ∈ l, x ∈ m) → l.length ≤ m.length
  | [], _, _, _ => Nat.zero_le _
  | x :: l, m, h, hm => by
    obtain ⟨h1, h2⟩ := List.nodup_cons.1 h
    have hx := hm x (by simp)
    have := nodup_len l (m.erase x) h2 (fun y hy => (List.mem_erase_of_ne (fun e : y = x => h1 (e ▸ hy))).2 (hm y (by simp [hy])))
    rw [List.length_erase_of_mem hx] at this
    have := List.length_pos_of_mem hx
    simp only [List.length_cons]
    omega
theorem Cs.len {M : WM} {L : Int → Bool} {ss : List Int} (h : Cs M L ss) : ss.length ≤ M.things.length := by
  have := nodup_len ss (M.things.map (·.1)) h.nd (fun x hx => by
    obtain ⟨t, ht⟩ := Option.isSome_iff_exists.1 ((h.mem x).1 hx).1
    exact List.mem_map.2 ⟨(x, t), at_mem ht, rfl⟩)
  simpa using this
theorem WM.ok.len_le {M : WM} (hM : M.ok) : (M.things.length : Int) ≤ M.last := by
  have key : ∀ (l : List (Int × Th)) (b : Int), l.Pairwise (fun x y => x.1 < y.1) → (∀ x ∈ l, b < x.1 ∧ x.1 ≤ M.last) → b ≤ M.last → (l.length : Int) + b ≤ M.last := by
    intro l
    induction l with
    | nil => intro b _ _ h; simpa using h
    | cons x l ih =>
      intro b hp hx hb
      obtain ⟨h1, h2⟩ := List.pairwise_cons.1 hp
      have hx0 := hx x (by simp)
      have := ih x.1 h2 (fun y hy => ⟨h1 y hy, (hx y (by simp [hy])).2⟩) hx0.2
      simp only [List.length_cons]
      omega
  have := key M.things 0 hM.keys (fun x hx => hM.range x hx) hM.last.1
  omega

def RefsPost (w : World) (M : WM) (e : Ending) (w' : World) : Prop :=
  ∃ g cap, e = .returned (.slice (some ⟨g, 0, none⟩) M.things.length cap) ∧ w'.ownsRow w.heap.size 24 1 (.slice (some ⟨g, 0, none⟩) M.things.length cap) M.things.length ((M.things.map (·.1)).map (Value.int .i64)) ∧ Below w.heap.size w w'

set_option maxHeartbeats 2000000 in
set_option maxRecDepth 20000 in
theorem refs_W (hW : IsW w p M F) : Calls Tryz.prog 80 #[.pointer (some ⟨p, 0, none⟩)] w (RefsPost w M) := by
  obtain ⟨pa, pc, cg, cc, mg, mc, tb, fb, fn, bl, hV⟩ := hW
  have HV := (show Hid _ from hV)
  have hlast := hV.ok.len_le
  have hl2 := hV.ok.last.2
  have hn : (M.things.length : Int) ≤ 1099511627776 := by omega
  have c2 := hV.c2
  have hlen := hV.things.len Tryz.underlying34
  obtain ⟨i0, hi, hz0, hz1, hz2⟩ := info_parts infoRef
  obtain ⟨w1, hmk, hrow, hgr⟩ := run_make_own (P := Tryz.prog) (w := w) w.heap.size 112 24 i0 (.int .i64 0) 1 Tryz.underlying112 hi hz0 hz1 .i64 .i64 M.things.length (by rw [hz2]; omega) (by unfold maxLen; omega) (Nat.le_refl _)
  have hb1 : Below w.heap.size w w1 := ⟨hgr.os, hgr.tape, hgr.output, hgr.size, fun k hk => hgr.block k hk (by simp)⟩
  have HN := (show Hid ((M.things.length : Int) ≤ 1099511627776) from hn)
  have HR : Hid (w1.ownsRow w.heap.size 24 1 (.slice (some ⟨w.heap.size, 0, none⟩) 0 M.things.length) 0 []) := hrow
  have HB1 := (show Hid (Below w.heap.size w w1) from hb1)
  have c21 := (hV.below hb1).c2
  have HT1 := (show Hid _ from (hV.below hb1).things)
  clear hV hlast hl2 hn hrow hgr hb1 hi hz0 hz1 hz2
  go_enter Tryz.func80, Tryz.ntmps80
  go_wp2_with (first | (at_range; refine range_H rfl _ 34 122 rfl Tryz.underlying34 tb _ (thf M bl) rfl HT1.out ?_; intro w3 L cnt hrg hL hb3))
  have HG3 := (show Hid (Rg w3 tb w1.heap.size (thf M bl) L cnt) from hrg)
  have HC3 := (show Hid (Cs M L []) from Cs.start HV.out.ok hL)
  have HB3 := (show Hid (Below w.heap.size w w3) from HB1.out.trans (hb3.mono HB1.out.size))
  have HR3 : Hid (w3.ownsRow w.heap.size 24 1 (.slice (some ⟨w.heap.size, 0, none⟩) 0 M.things.length) 0 []) := World.ownsRow.kept (row := none) HR.out ⟨hb3.os, hb3.tape, hb3.output, hb3.size, fun k hk _ => hb3.block k hk⟩ (Or.inr (by simp [Value.ownBlock]))
  have hr0 : w.heap.size ≤ w1.heap.size := HB1.out.size
  have Hr0 := (show Hid (w.heap.size < w1.heap.size) from by
    rcases HR.out.2 with ⟨h, -⟩ | ⟨g, cap, cur, h1, h2, h3, -⟩
    · cases h
    · cases h1
      exact blk_lt h3)
  clear hrg hL hb3 c21 HT1 HR hmk hlen c2 hr0
  generalize w1.heap.size = r0 at *
  simp only [Go.Act.put, List.setIfInBounds_toArray, List.set_cons_succ, List.set_cons_zero]
  go_loopw [3] (fun v wr => ∃ L cnt ss, Hid (Rg wr tb r0 (thf M bl) L cnt) ∧ Hid (Cs M L ss) ∧ Hid (Below w.heap.size w wr) ∧ Hid (∃ g cap, v = .slice (some ⟨g, 0, none⟩) ss.length cap) ∧ Hid (wr.ownsRow w.heap.size 24 1 v ss.length (ss.map (Value.int .i64)))) (fun _ wr => wr.rangeLeft tb r0)
  case atStart => exact ⟨L, cnt, [], HG3, HC3, HB3, ⟨_, _, rfl⟩, HR3⟩
  case round =>
    clear HG3 HC3 HB3 HR3
    obtain ⟨L, cnt, ss, HG, HC, HB, HS, HR⟩ := hrel
    obtain ⟨g, cap, rfl⟩ := HS.out
    go_wp2_with (first | (at_next; refine next_H rfl _ rfl tb r0 (thf M bl) L cnt rfl HG.out ?_ ?_))
    · intro hdone
      obtain ⟨hsrt, hlen⟩ := HC.out.done HV.out.ok hdone
      rcases HR.out.2 with ⟨h, -⟩ | ⟨g', cap', cur, hv, hbase, hb, h1, h2, h3, h4⟩
      · cases h
      cases hv
      have hsz : ss.length < 4611686018427387904 := by have := HN.out; omega
      have hH := holds_of_blockI hb (by simpa using h4)
      have hs := AnyM.slices_Sort_int Tryz.sortLay g 0 cap ss wr hH (blk_lt hb) hsz
      have hs2 : Calls Tryz.prog 119 #[.slice (some ⟨g, 0, none⟩) ss.length cap] wr (fun e w' => e = .returned (.tuple #[]) ∧ Hid (RefsPost w M (.returned (.slice (some ⟨g, 0, none⟩) ss.length cap)) w')) := by
        refine Calls.mono hs ?_
        rintro e w' ⟨rfl, n, os, rfl⟩
        refine ⟨rfl, g, cap, by rw [hlen], ?_, ?_⟩
        · have := ownsRow_sortedI (n := n) (os := os) (ts := ss.mergeSort fun x y => decide (x ≤ y)) (by simp) hbase hb h1 h2 h3
          rw [← hlen, ← hsrt]
          exact this
        · exact HB.out.grown (grownBy_sortedI _) HB.out.size (fun j hj => by cases hj; exact hbase)
      have HS2 := (show Hid _ from hs2)
      clear hsrt hlen hb h1 h2 h3 h4 hH hs hs2 hsz hbase HR HG
      go_wp2_with fail
      refine Calls.mono HS2.out ?_
      rintro e w' ⟨rfl, HP⟩
      go_wp2_with fail
      go_ret
      exact HP.out
    · intro x v w4 cnt' hx hLx hf hrg' hlt hk hsz hen
      obtain ⟨t, ht, rfl⟩ := thf_some hf
      have HC4 := (show Hid (Cs M (fun z => L z && !decide (z = x)) (ss ++ [x])) from HC.out.step ht hLx)
      have hgr4 : wr.grownBy w4 (some r0) := ⟨hk.os, hk.tape, hk.output, hk.size, fun b hb hne => hk.block b hb (fun e => hne (by rw [e]))⟩
      have hgr0 : g < wr.heap.size ∧ w.heap.size ≤ g ∧ g ≠ r0 := by
        obtain ⟨D, n, left, hrr, -⟩ := HG.out
        have h1 := row_ne_iter HR.out hrr
        have h2 := HR.out.lt g rfl
        exact ⟨h2.2, h2.1, fun e => h1 (by rw [e]; rfl)⟩
      have HR4 : Hid (w4.ownsRow w.heap.size 24 1 (.slice (some ⟨g, 0, none⟩) ss.length cap) ss.length (ss.map (Value.int .i64))) := World.ownsRow.kept (row := some r0) HR.out hgr4 (Or.inr (by simp [Value.ownBlock]; exact hgr0.2.2))
      have HG4 := (show Hid (Rg w4 tb r0 (thf M bl) (fun z => L z && !decide (z = x)) cnt') from hrg')
      have Hlt := (show Hid (cnt' < cnt) from hlt)
      have Hsz4 := (show Hid (w4.heap.size = wr.heap.size) from hsz)
      have Hcnt := (show Hid (wr.rangeLeft tb r0 = cnt) from HG.out.left_eq)
      have HB4 : Hid (Below w.heap.size w w4) := HB.out.grown hgr4 HB.out.size (fun j hj => by cases hj; exact Nat.le_of_lt Hr0.out)
      have hbase : w.heap.size ≤ w4.heap.size := HB4.out.size
      have hown := HR4.out
      have Hp : Hid ((ss.length : Int) ≤ 1099511627777) := by
        have h1 := HC.out.len
        have h2 := HN.out
        show _ ≤ _
        omega
      have Hg0 := (show Hid _ from hgr0)
      have HOwn : Hid (w4.ownsRow w.heap.size 24 1 (.slice (some ⟨g, 0, none⟩) ss.length cap) ss.length (ss.map (Value.int .i64))) := hown
      have Htb : Hid (tb < w.heap.size) := HV.out.lt _ HV.out.own.2.2.2.1
      clear hLx hf hrg' hlt hk hsz ht hgr4 hgr0 HG HR HR4 HC
      go_wp2_with (first
        | (at_builtin; refine append_ref rfl _ _ rfl w.heap.size _ ss rfl HOwn.out x rfl Hp hbase ?_; intro v' w5 hown' hg5 hb5))
      have hg5' : w4.grownBy w5 (some g) := hg5
      have hsz4 : wr.heap.size ≤ w4.heap.size := by have := HG4.out.lt; have := Hsz4.out; omega
      have hRg5 : Rg w5 tb r0 (thf M bl) (fun z => L z && !decide (z = x)) cnt' := HG4.out.of_blocks (hg5'.block tb HG4.out.ltb (fun e => by cases e; have := Htb.out; have := Hg0.out.2.1; omega)) (hg5'.block r0 HG4.out.lt (fun e => by cases e; exact Hg0.out.2.2 rfl))
      have HRg5 := (show Hid (Rg w5 tb r0 (thf M bl) (fun z => L z && !decide (z = x)) cnt') from hRg5)
      have HB5 := (show Hid (Below w.heap.size w w5) from HB4.out.trans hb5)
      have HO5 : Hid (w5.ownsRow w.heap.size 24 1 v' (ss ++ [x]).length ((ss ++ [x]).map (Value.int .i64))) := hown'
      have HS5 : Hid (∃ g cap, v' = .slice (some ⟨g, 0, none⟩) (ss ++ [x]).length cap) := by
        obtain ⟨g5, cap5, h5⟩ := ownsRow_succ (k := ss.length) (by simpa using hown')
        exact ⟨g5, cap5, by rw [h5]; simp⟩
      refine ⟨⟨_, cnt', ss ++ [x], HRg5, HC4, HB5, HS5, HO5⟩, ?_⟩
      rw [Hcnt.out, HRg5.out.left_eq]
      exact Hlt.out
end Go.Proofs.YtifmifjbebpomaaGreatDoor
