/- What of a light thing. -/
import Derived.Test.YtifmifjbebpomaaGreatDoorMake
namespace Go.Proofs.YtifmifjbebpomaaGreatDoor
open Go.RowKit Go.ChangeMaps Go.MapKept
variable {w : World} {p : Nat} {M : WM} {F : Nat → Prop}

/-- A What and a number handed back. -/
theorem results_What2 {fn : Func} {q x : Tmp} (h : fn.results = #[.cell q 73, .tmp x]) (tmps : Array Value) (W : World) (g : Nat) (cs : Array Value) (fr : Nat × Nat) (hp : tmps.getD q undef = .pointer (some ⟨g, 0, none⟩))
    (hg : W.heap[g]? = some (.cells cs 73 fr)) (hs : cs.size = 16) : (results fn tmps).run Tryz.prog W = .ok (.tuple #[.agg cs, tmps.getD x undef]) W := by
  have h1 := run_loadVar_row W g 73 73 cs fr _ hg Tryz.underlying73 rfl (by rw [hs]; exact sizeWhat)
  unfold results
  rw [h]
  rw [Array.getD_eq_getD_getElem?] at hp
  simp [hp, asAddr, h1, Result.andThen]

theorem thc_lt (k h vk vn n l tg bi s : Int) (fu : Bool) : thc (lt k h vk vn n l tg bi s fu) = #[.int .u8 k, .int .i64 h, .int .u8 vk, .int .i64 vn, .string ⟨#[]⟩, .slice none 0 0, .int .i64 0, .slice none 0 0, .int .i64 n, .int .i64 l, .int .i64 tg, .int .i64 bi, .int .u8 s, .bool fu, .slice none 0 0, .slice none 0 0] := rfl

set_option maxHeartbeats 1000000 in
set_option maxRecDepth 8000 in
theorem What_lt (hW : IsW w p M F) {r k h vk vn n l tg bi s : Int} {fu : Bool} (hr : (Lit.int .i64 r).wf = true) (ht : M.at r = some (lt k h vk vn n l tg bi s fu)) (hp : Plain vk vn) :
    Calls Tryz.prog 58 #[.pointer (some ⟨p, 0, none⟩), .int .i64 r] w fun e w' => e = .returned (.tuple #[.agg #[.int .u8 k, .int .i64 h, .int .u8 vk, .int .i64 vn, .string ⟨#[]⟩, .slice none 0 0, .int .i64 0, .slice none 0 0, .int .i64 n, .int .i64 l, .int .i64 tg, .int .i64 bi, .int .u8 s, .bool fu, .slice none 0 0, .slice none 0 0], .int .i64 0]) ∧ Below w.heap.size w w' := by
  have HW : Hid (IsW w p M F) := hW
  have Ht : Hid (M.at r = some (lt k h vk vn n l tg bi s fu)) := ht
  have hIs : (M.at r).isSome = true := by rw [ht]; rfl
  have HIs := (show Hid _ from hIs)
  clear hW ht hIs
  go_enter Tryz.func58, Tryz.ntmps58
  go_wp2_with fail
  refine (none_W (HW.out.below ((Below.refl _ _).alloc (Nat.le_refl _) _))).mono ?_
  rintro e _ ⟨rfl, rfl⟩
  go_wp2_with fail
  refine (Is_W (HW.out.below ((Below.refl _ _).alloc (Nat.le_refl _) _)) hr).mono ?_
  rw [HIs.out]
  rintro e _ ⟨rfl, rfl⟩
  have hWA := HW.out.below (w' := w.alloc (.cells #[.int .u8 0, .int .i64 0, .int .u8 0, .int .i64 0, .string ⟨#[]⟩, .slice none 0 0, .int .i64 0, .slice none 0 0, .int .i64 0, .int .i64 0, .int .i64 0, .int .i64 0, .int .u8 0, .bool false, .slice none 0 0, .slice none 0 0] 73)) ((Below.refl _ _).alloc (Nat.le_refl _) _)
  obtain ⟨pa, pc, cg, cc, mg, mc, tb, fb, fn, bl, hV⟩ := hWA
  have c2 := hV.c2
  have hlk := hV.look hr
  rw [Ht.out] at hlk
  simp only [Option.map_some] at hlk
  have hld := loadWhat_blk (hV.blk r _ Ht.out).1 rfl
  rw [thc_lt] at hld
  clear hV
  go_wp2_with fail
  refine (ownWhat_W _ k h vk vn n l tg bi s fu hp).mono ?_
  rintro e w1 ⟨rfl, hb1⟩
  have B1 := below_blk hb1 (blk_new w _)
  have HB1 : Hid (Below w.heap.size w w1) := ((Below.refl _ _).alloc (Nat.le_refl _) _).trans (hb1.mono (by simp))
  have hst := storeWhat_blk (c' := #[.int .u8 k, .int .i64 h, .int .u8 vk, .int .i64 vn, .string ⟨#[]⟩, .slice none 0 0, .int .i64 0, .slice none 0 0, .int .i64 n, .int .i64 l, .int .i64 tg, .int .i64 bi, .int .u8 s, .bool fu, .slice none 0 0, .slice none 0 0]) B1 rfl rfl (by simp [go_sem])
  have G1 := (show Hid _ from heap_setRow_at (c' := #[.int .u8 k, .int .i64 h, .int .u8 vk, .int .i64 vn, .string ⟨#[]⟩, .slice none 0 0, .int .i64 0, .slice none 0 0, .int .i64 n, .int .i64 l, .int .i64 tg, .int .i64 bi, .int .u8 s, .bool fu, .slice none 0 0, .slice none 0 0]) B1)
  clear hb1 B1 c2 hlk hld
  go_wp2_with fail
  exact bodyPost_ret (results_What2 rfl _ _ _ _ _ rfl G1.out rfl) rfl ⟨rfl, Below.setRow HB1.out (Nat.le_refl _) _⟩
end Go.Proofs.YtifmifjbebpomaaGreatDoor
