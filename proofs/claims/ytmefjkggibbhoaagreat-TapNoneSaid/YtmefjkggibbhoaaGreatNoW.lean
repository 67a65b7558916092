/- Worlds that are not there: the nil world, the zero world. -/
import Derived.Test.YtmefjkggibbhoaaGreatWhat
namespace Go.Proofs.YtmefjkggibbhoaaGreat
open Go.RowKit Go.ChangeMaps Go.MapKept

/-- No world: nil, or one without its map of things. -/
def NoW (w : World) (v : Value) : Prop := v = .pointer none ∨ ∃ b, v = .pointer (some ⟨b, 0, none⟩) ∧ w.cell? ⟨b, 2, none⟩ = some (.map none)
theorem NoW.below {w w' : World} {v : Value} (h : NoW w v) (hb : Below w.heap.size w w') : NoW w' v := by
  rcases h with rfl | ⟨b, rfl, h⟩
  · exact .inl rfl
  · exact .inr ⟨b, rfl, (hb.cell (p := ⟨b, 2, none⟩) (World.block_lt_of_cell? _ _ h)).trans h⟩

set_option maxRecDepth 8000 in
theorem none_no {w : World} {v : Value} (h : NoW w v) : Calls Tryz.prog 38 #[v] w fun e w' => e = .returned (.bool true) ∧ w = w' := by
  rcases h with rfl | ⟨b, rfl, h⟩
  all_goals
    go_enter Tryz.func38, Tryz.ntmps38
    go_wp2
    go_ret
    exact ⟨rfl, rfl⟩

attribute [local go_sem ↓] execOp_stW
set_option maxRecDepth 8000 in
theorem What_no {w : World} {v : Value} (h : NoW w v) (r : Int) : Calls Tryz.prog 14 #[v, .int .i64 r] w fun e w' => e = .returned (.tuple #[.agg #[.int .u8 0, .int .i64 0, .int .u8 0, .int .i64 0, .string ⟨#[]⟩, .slice none 0 0, .int .i64 0, .slice none 0 0, .int .i64 0, .int .i64 0, .int .i64 0, .int .i64 0, .int .u8 0, .bool false, .slice none 0 0, .slice none 0 0], .int .i64 1]) ∧ Below w.heap.size w w' := by
  have hn := fun w' (hb : Below w.heap.size w w') => none_no (h.below hb)
  have HN := (show Hid _ from hn)
  clear hn h
  go_enter Tryz.func14, Tryz.ntmps14
  go_wp2_with fail
  refine Calls.mono (HN.out _ ((Below.refl _ w).alloc (Nat.le_refl _) _)) ?_
  rintro e _ ⟨rfl, rfl⟩
  have B1 := blk_new w (.cells #[.int .u8 0, .int .i64 0, .int .u8 0, .int .i64 0, .string ⟨#[]⟩, .slice none 0 0, .int .i64 0, .slice none 0 0, .int .i64 0, .int .i64 0, .int .i64 0, .int .i64 0, .int .u8 0, .bool false, .slice none 0 0, .slice none 0 0] 53)
  have hst := storeWhat_blk (c' := #[.int .u8 0, .int .i64 0, .int .u8 0, .int .i64 0, .string ⟨#[]⟩, .slice none 0 0, .int .i64 0, .slice none 0 0, .int .i64 0, .int .i64 0, .int .i64 0, .int .i64 0, .int .u8 0, .bool false, .slice none 0 0, .slice none 0 0]) B1 rfl rfl (by simp [go_sem])
  go_wp2_with fail
  exact bodyPost_ret (results_What2 rfl _ _ _ _ _ rfl (heap_setRow_at B1) rfl) rfl ⟨rfl, Below.setRow ((Below.refl _ _).alloc (Nat.le_refl _) _) (Nat.le_refl _) _⟩

set_option maxHeartbeats 1000000 in
set_option maxRecDepth 8000 in
theorem find_no {w : World} {v : Value} (h : NoW w v) (r k : Int) : Calls Tryz.prog 59 #[v, .int .i64 r, .int .u8 k] w fun e w' => e = .returned (.tuple #[.agg #[.int .u8 0, .int .i64 0, .int .u8 0, .int .i64 0, .string ⟨#[]⟩, .slice none 0 0, .int .i64 0, .slice none 0 0, .int .i64 0, .int .i64 0, .int .i64 0, .int .i64 0, .int .u8 0, .bool false, .slice none 0 0, .slice none 0 0], .int .i64 1]) ∧ Below w.heap.size w w' := by
  have B1 := blk_new w (.cells #[.int .u8 0, .int .i64 0, .int .u8 0, .int .i64 0, .string ⟨#[]⟩, .slice none 0 0, .int .i64 0, .slice none 0 0, .int .i64 0, .int .i64 0, .int .i64 0, .int .i64 0, .int .u8 0, .bool false, .slice none 0 0, .slice none 0 0] 53)
  rcases h with rfl | ⟨b, rfl, h⟩
  · have hst := storeWhat_blk (c' := #[.int .u8 0, .int .i64 0, .int .u8 0, .int .i64 0, .string ⟨#[]⟩, .slice none 0 0, .int .i64 0, .slice none 0 0, .int .i64 0, .int .i64 0, .int .i64 0, .int .i64 0, .int .u8 0, .bool false, .slice none 0 0, .slice none 0 0]) B1 rfl rfl (by simp [go_sem])
    go_enter Tryz.func59, Tryz.ntmps59
    go_wp2_with fail
    exact bodyPost_ret (results_What2 rfl _ _ _ _ _ rfl (heap_setRow_at B1) rfl) rfl ⟨rfl, Below.setRow ((Below.refl _ _).alloc (Nat.le_refl _) _) (Nat.le_refl _) _⟩
  · have hw := fun w' (hb : Below w.heap.size w w') => What_no (NoW.below (.inr ⟨b, rfl, h⟩) hb) r
    have HW := (show Hid _ from hw)
    clear hw h
    go_enter Tryz.func59, Tryz.ntmps59
    go_wp2_with fail
    refine Calls.mono (HW.out _ ((Below.refl _ w).alloc (Nat.le_refl _) _)) ?_
    rintro e w1 ⟨rfl, hb1⟩
    have B1' : w1.heap[w.heap.size]? = _ := (hb1.block _ (blk_lt B1)).trans B1
    have hb0 : Below w.heap.size w w1 := ((Below.refl _ w).alloc (Nat.le_refl _) _).trans (hb1.mono (by simp))
    have B2 := blk_new w1 (.cells #[.int .u8 0, .int .i64 0, .int .u8 0, .int .i64 0, .string ⟨#[]⟩, .slice none 0 0, .int .i64 0, .slice none 0 0, .int .i64 0, .int .i64 0, .int .i64 0, .int .i64 0, .int .u8 0, .bool false, .slice none 0 0, .slice none 0 0] 53)
    have hst2 := storeWhat_blk (c' := #[.int .u8 0, .int .i64 0, .int .u8 0, .int .i64 0, .string ⟨#[]⟩, .slice none 0 0, .int .i64 0, .slice none 0 0, .int .i64 0, .int .i64 0, .int .i64 0, .int .i64 0, .int .u8 0, .bool false, .slice none 0 0, .slice none 0 0]) B2 rfl rfl (by simp [go_sem])
    have B3 : ((w1.alloc (.cells #[.int .u8 0, .int .i64 0, .int .u8 0, .int .i64 0, .string ⟨#[]⟩, .slice none 0 0, .int .i64 0, .slice none 0 0, .int .i64 0, .int .i64 0, .int .i64 0, .int .i64 0, .int .u8 0, .bool false, .slice none 0 0, .slice none 0 0] 53)).setRow w1.heap.size #[.int .u8 0, .int .i64 0, .int .u8 0, .int .i64 0, .string ⟨#[]⟩, .slice none 0 0, .int .i64 0, .slice none 0 0, .int .i64 0, .int .i64 0, .int .i64 0, .int .i64 0, .int .u8 0, .bool false, .slice none 0 0, .slice none 0 0]).heap[w.heap.size]? = some (.cells #[.int .u8 0, .int .i64 0, .int .u8 0, .int .i64 0, .string ⟨#[]⟩, .slice none 0 0, .int .i64 0, .slice none 0 0, .int .i64 0, .int .i64 0, .int .i64 0, .int .i64 0, .int .u8 0, .bool false, .slice none 0 0, .slice none 0 0] 53 (0, 0)) :=
      (heap_setRow_other _ _ _ _ (by have := blk_lt B1'; omega)).trans ((Below.heap_alloc _ _ _ (blk_lt B1')).trans B1')
    have hst3 := storeWhat_blk (c' := #[.int .u8 0, .int .i64 0, .int .u8 0, .int .i64 0, .string ⟨#[]⟩, .slice none 0 0, .int .i64 0, .slice none 0 0, .int .i64 0, .int .i64 0, .int .i64 0, .int .i64 0, .int .u8 0, .bool false, .slice none 0 0, .slice none 0 0]) B3 rfl rfl (by simp [go_sem])
    go_wp2_with fail
    exact bodyPost_ret (results_What2 rfl _ _ _ _ _ rfl (heap_setRow_at B3) rfl) rfl ⟨rfl, Below.setRow (Below.setRow (hb0.alloc hb0.size _) hb0.size _) (Nat.le_refl _) _⟩
end Go.Proofs.YtmefjkggibbhoaaGreat
