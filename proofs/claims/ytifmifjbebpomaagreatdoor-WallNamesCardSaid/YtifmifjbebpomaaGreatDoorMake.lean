/- Make of a light thing whose kind asks for nothing. -/
import Derived.Test.YtifmifjbebpomaaGreatDoorOwn
import Derived.Test.YtifmifjbebpomaaGreatDoorLay
import Derived.Test.YtifmifjbebpomaaGreatDoorWalkA
import Derived.Deep.QuietTactic
import Derived.BigQuiet
namespace Go.Proofs.YtifmifjbebpomaaGreatDoor
open Go.RowKit Go.ChangeMaps Go.MapKept
variable {w : World} {p : Nat} {M : WM} {F : Nat → Prop}

/-- A thing without lists. -/
abbrev lt (k h vk vn n l tg bi s : Int) (fu : Bool) : Th := ⟨k, h, ⟨vk, vn, ⟨#[]⟩, [], 0⟩, .slice none 0 0, [], .slice none 0 0, n, l, tg, bi, s, fu, .slice none 0 0, .slice none 0 0⟩
theorem deep_lt (w : World) (F : Nat → Prop) (k h vk vn n l tg bi s : Int) (fu : Bool) : Deep w F (lt k h vk vn n l tg bi s fu) := ⟨SlT.nil _ _ _ _, SlT.nil _ _ _ _, rfl, rfl⟩
/-- No blocks. -/
def NoB : Nat → Prop := fun _ => False

/-- What a call leaves that lays new blocks, and writes into F. -/
def Grew (F : Nat → Prop) (w : World) (F' : Nat → Prop) (w' : World) : Prop := Keeps F w w' ∧ ∀ b, F' b → F b ∨ w.heap.size ≤ b

set_option maxRecDepth 8000 in
theorem asksOf_no {k : Int} (w : World) (h : k = 1 ∨ k = 2 ∨ k = 3 ∨ k = 4 ∨ k = 5 ∨ k = 8 ∨ k = 10 ∨ k = 12 ∨ k = 13) : Calls Tryz.prog 49 #[.int .u8 k] w fun e w' => e = .returned (.bool false) ∧ w = w' := by
  rcases h with rfl | rfl | rfl | rfl | rfl | rfl | rfl | rfl | rfl <;>
  · go_enter Tryz.func49, Tryz.ntmps49
    go_wp2
    go_ret
    exact ⟨rfl, rfl⟩

set_option maxHeartbeats 1000000 in
set_option maxRecDepth 8000 in
theorem Make_no (hW : IsW w p M F) {k h vk vn n l tg bi s : Int} {fu : Bool} (hp : Plain vk vn)
    (hk : k = 1 ∨ k = 2 ∨ k = 3 ∨ k = 4 ∨ k = 5 ∨ k = 8 ∨ k = 10 ∨ k = 12) (a : AddOk M (lt k h vk vn n l tg bi s fu))
    (hform : ∀ w, IsW w p M F → Calls Tryz.prog 47 #[.pointer (some ⟨p, 0, none⟩), .agg #[.int .u8 k, .int .i64 h, .int .u8 vk, .int .i64 vn, .string ⟨#[]⟩, .slice none 0 0, .int .i64 0, .slice none 0 0, .int .i64 n, .int .i64 l, .int .i64 tg, .int .i64 bi, .int .u8 s, .bool fu, .slice none 0 0, .slice none 0 0]] w fun e w' => e = .returned (.bool true) ∧ Below w.heap.size w w')
    (hfits : ∀ w, IsW w p M F → Calls Tryz.prog 51 #[.pointer (some ⟨p, 0, none⟩), .int .i64 0, .agg #[.int .u8 k, .int .i64 h, .int .u8 vk, .int .i64 vn, .string ⟨#[]⟩, .slice none 0 0, .int .i64 0, .slice none 0 0, .int .i64 n, .int .i64 l, .int .i64 tg, .int .i64 bi, .int .u8 s, .bool fu, .slice none 0 0, .slice none 0 0]] w fun e w' => e = .returned (.bool true) ∧ Below w.heap.size w w') :
    Calls Tryz.prog 18 #[.pointer (some ⟨p, 0, none⟩), .agg #[.int .u8 k, .int .i64 h, .int .u8 vk, .int .i64 vn, .string ⟨#[]⟩, .slice none 0 0, .int .i64 0, .slice none 0 0, .int .i64 n, .int .i64 l, .int .i64 tg, .int .i64 bi, .int .u8 s, .bool fu, .slice none 0 0, .slice none 0 0]] w fun e w' =>
      e = .returned (.tuple #[.int .i64 (M.last + 1), .int .i64 0]) ∧ ∃ F', IsW w' p (M.add (lt k h vk vn n l tg bi s fu)) F' ∧ Grew F w F' w' := by
  have k14 : (k == 14) = false := by rcases hk with rfl | rfl | rfl | rfl | rfl | rfl | rfl | rfl <;> rfl
  have k13 : (k == 13) = false := by rcases hk with rfl | rfl | rfl | rfl | rfl | rfl | rfl | rfl <;> rfl
  have k15 : (k == 15) = false := by rcases hk with rfl | rfl | rfl | rfl | rfl | rfl | rfl | rfl <;> rfl
  have hby : ((k == 15 || k == 16) : Bool) = false := by rcases hk with rfl | rfl | rfl | rfl | rfl | rfl | rfl | rfl <;> rfl
  have HA : Hid (AddOk M (lt k h vk vn n l tg bi s fu)) := a
  have HW : Hid (IsW w p M F) := hW
  have Hk : Hid (k = 1 ∨ k = 2 ∨ k = 3 ∨ k = 4 ∨ k = 5 ∨ k = 8 ∨ k = 10 ∨ k = 12) := hk
  have Hform := (show Hid _ from hform)
  have Hfits := (show Hid _ from hfits)
  clear a hk hform hfits
  go_enter Tryz.func18, Tryz.ntmps18
  go_wp2_with fail
  refine (none_W (hW.below ((Below.refl _ _).alloc (Nat.le_refl _) _))).mono ?_
  rintro e _ ⟨rfl, rfl⟩
  go_wp2_with fail
  refine (Hform.out _ (HW.out.below ((Below.refl _ _).alloc (Nat.le_refl _) _))).mono ?_
  rintro e w1 ⟨rfl, hb1⟩
  have B1 := below_blk hb1 (blk_new _ _)
  have c1 : w1.cell? ⟨w.heap.size, 0, none⟩ = some (.int .u8 k) := by rw [cell_blk B1]; rfl
  have l1 := loadWhat_blk B1 rfl
  have HB : Hid (Below w.heap.size w w1) := ((Below.refl _ _).alloc (Nat.le_refl _) _).trans (hb1.mono (by simp; try omega))
  clear hb1
  go_wp2_with fail
  refine (names_W _ _ k h vk vn n l tg bi s fu hp).mono ?_
  rintro e w2 ⟨rfl, hb2⟩
  have B2 := below_blk hb2 B1
  clear c1 l1
  have c1 : w2.cell? ⟨w.heap.size, 0, none⟩ = some (.int .u8 k) := by rw [cell_blk B2]; rfl
  have l2 := loadWhat_blk B2 rfl
  have HB2 : Hid (Below w.heap.size w w2) := HB.out.trans (hb2.mono HB.out.size)
  clear hb2 B1 HB
  go_wp2_with fail
  refine (asksOf_no _ (by rcases Hk.out with h | h | h | h | h | h | h | h <;> simp [h])).mono ?_
  rintro e _ ⟨rfl, rfl⟩
  go_wp2_with fail
  refine (asksBy_W _ _).mono ?_
  rw [hby]
  rintro e _ ⟨rfl, rfl⟩
  go_wp2_with fail
  refine (Hfits.out _ (HW.out.below HB2.out)).mono ?_
  rintro e w3 ⟨rfl, hb3⟩
  have B3 := below_blk hb3 B2
  clear c1 l2
  have HB3 : Hid (Below w.heap.size w w3) := HB2.out.trans (hb3.mono HB2.out.size)
  clear hb3 B2 HB2
  have hW3 := HW.out.below HB3.out
  obtain ⟨q1, q2⟩ := HA.out.home (by rcases Hk.out with h | h | h | h | h | h | h | h <;> simp [h])
  have q3 := HA.out.made (by rcases Hk.out with h | h | h | h | h | h | h | h <;> simp [h])
  obtain ⟨hn, rfl⟩ := Int.eq_ofNat_of_zero_le q1
  simp only [Int.toNat_natCast] at q3
  have q2 : (hn : Int) < M.made.length := q2
  have Q3 : ¬ (512 ≤ M.made.getD hn 0) := by omega
  obtain ⟨pa, pc, cg, cc, mg, mc, tb, fb, fn, bl, hV⟩ := hW3
  have c5 := hV.c5
  have hA1 : w3.cell? ⟨w.heap.size, 1, none⟩ = some (.int .i64 hn) := by rw [cell_blk B3]; rfl
  have hA0 : w3.cell? ⟨w.heap.size, 0, none⟩ = some (.int .u8 k) := by rw [cell_blk B3]; rfl
  have hc : w3.cell? ⟨mg, hn, none⟩ = some (.int .i64 (M.made.getD hn 0)) := hV.mad.cell (by rw [List.getElem?_map, List.getElem?_eq_getElem (by omega), List.getD_eq_getElem?_getD, List.getElem?_eq_getElem (by omega)]; rfl)
  obtain ⟨v, hv⟩ : ∃ v, v = M.made.getD hn 0 := ⟨_, rfl⟩
  rw [← hv] at hc Q3
  clear hv q3 q1
  have l3 := loadWhat_blk (w := w3.drew) B3 rfl
  have hq2 : hn < M.made.length := by omega
  have HV : Hid (WV w3 p M F pa pc cg cc mg mc tb fb fn bl) := hV
  clear hV
  go_wp2_with fail
  go_region
  go_wp2_with fail
  refine (ownWhat_W _ k hn vk vn n l tg bi s fu hp).mono ?_
  rintro e w4 ⟨rfl, hb4⟩
  have HB4 : Hid (Below w.heap.size w w4) := HB3.out.drew.trans (hb4.mono HB3.out.size)
  have B4 := below_blk hb4 (show w3.drew.heap[w.heap.size]? = _ from B3)
  clear hb4 B3 HB3 HV
  have hlay := lay_W (HW.out.below HB4.out) HA.out (deep_lt _ NoB _ _ _ _ _ _ _ _ _ _) (fun _ h => h.elim)
  go_wp2_with fail
  refine hlay.mono ?_
  rintro e w5 ⟨rfl, hW5, hk5⟩
  clear hlay
  have B5 := (hk5.block _ (blk_lt B4) (fun h => Nat.lt_irrefl _ (HW.out.lt _ h))).trans B4
  have a5 : w5.cell? ⟨w.heap.size, 0, none⟩ = some (.int .u8 k) := by rw [cell_blk B5]; rfl
  have HF : Hid (∃ F', IsW w5 p (M.add (lt k hn vk vn n l tg bi s fu)) F' ∧ Grew F w F' w5) := ⟨_, hW5, Below.keeps HB4.out hk5, by
    have := HB4.out.size
    rintro b ((h | h) | h)
    · exact .inl h
    · exact h.elim
    · right; omega⟩
  clear hW5 hk5 HB4 B4 B5
  go_wp2_with fail
  go_ret2
  exact ⟨rfl, HF.out⟩
end Go.Proofs.YtifmifjbebpomaaGreatDoor
