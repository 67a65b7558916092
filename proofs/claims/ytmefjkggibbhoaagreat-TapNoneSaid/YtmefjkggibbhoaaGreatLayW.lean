/- Lay of a light thing over a light thing: what it has is turned. -/
import Derived.Test.YtmefjkggibbhoaaGreatWhat
import Derived.Test.YtmefjkggibbhoaaGreatSetW
import Derived.Test.YtmefjkggibbhoaaGreatClass
namespace Go.Proofs.YtmefjkggibbhoaaGreat
open Go.RowKit Go.ChangeMaps Go.MapKept
variable {w : World} {p : Nat} {M : WM} {F : Nat → Prop}

set_option maxHeartbeats 2000000 in
set_option maxRecDepth 20000 in
theorem Lay_lt (hW : IsW w p M F) {r k h vk vn n l tg bi s vk' vn' n' l' : Int} {fu' : Bool} (hr : (Lit.int .i64 r).wf = true) (ht : M.at r = some (lt k h vk vn n l tg bi s false)) (hp : Plain vk' vn')
    (hform : ∀ w, IsW w p M F → Calls Tryz.prog 61 #[.pointer (some ⟨p, 0, none⟩), .agg #[.int .u8 k, .int .i64 h, .int .u8 vk', .int .i64 vn', .string ⟨#[]⟩, .slice none 0 0, .int .i64 0, .slice none 0 0, .int .i64 n', .int .i64 l', .int .i64 tg, .int .i64 bi, .int .u8 s, .bool fu', .slice none 0 0, .slice none 0 0]] w fun e w' => e = .returned (.bool true) ∧ Below w.heap.size w w') :
    Calls Tryz.prog 60 #[.pointer (some ⟨p, 0, none⟩), .int .i64 r, .agg #[.int .u8 k, .int .i64 h, .int .u8 vk', .int .i64 vn', .string ⟨#[]⟩, .slice none 0 0, .int .i64 0, .slice none 0 0, .int .i64 n', .int .i64 l', .int .i64 tg, .int .i64 bi, .int .u8 s, .bool fu', .slice none 0 0, .slice none 0 0]] w fun e w' => e = .returned (.int .i64 0) ∧ IsW w' p (M.set r (lt k h vk' vn' n' l' tg bi s fu')) F ∧ Keeps F w w' := by
  have hB0 : Below w.heap.size w (w.alloc (.cells #[.int .u8 k, .int .i64 h, .int .u8 vk', .int .i64 vn', .string ⟨#[]⟩, .slice none 0 0, .int .i64 0, .slice none 0 0, .int .i64 n', .int .i64 l', .int .i64 tg, .int .i64 bi, .int .u8 s, .bool fu', .slice none 0 0, .slice none 0 0] 53)) := (Below.refl _ _).alloc (Nat.le_refl _) _
  have b0 := blk_new w (.cells #[.int .u8 k, .int .i64 h, .int .u8 vk', .int .i64 vn', .string ⟨#[]⟩, .slice none 0 0, .int .i64 0, .slice none 0 0, .int .i64 n', .int .i64 l', .int .i64 tg, .int .i64 bi, .int .u8 s, .bool fu', .slice none 0 0, .slice none 0 0] 53)
  obtain ⟨wa, hwa⟩ : ∃ wa, wa = w.alloc (.cells #[.int .u8 k, .int .i64 h, .int .u8 vk', .int .i64 vn', .string ⟨#[]⟩, .slice none 0 0, .int .i64 0, .slice none 0 0, .int .i64 n', .int .i64 l', .int .i64 tg, .int .i64 bi, .int .u8 s, .bool fu', .slice none 0 0, .slice none 0 0] 53) := ⟨_, rfl⟩
  have HB0 : Hid (Below w.heap.size w wa) := by rw [hwa]; exact hB0
  have Hb0 : Hid (wa.heap[w.heap.size]? = some (.cells #[.int .u8 k, .int .i64 h, .int .u8 vk', .int .i64 vn', .string ⟨#[]⟩, .slice none 0 0, .int .i64 0, .slice none 0 0, .int .i64 n', .int .i64 l', .int .i64 tg, .int .i64 bi, .int .u8 s, .bool fu', .slice none 0 0, .slice none 0 0] 53 (0, 0))) := by rw [hwa]; exact b0
  have Hwa := (show Hid _ from hwa)
  have HW : Hid (IsW w p M F) := hW
  have Hf := (show Hid _ from hform)
  have Ht : Hid (M.at r = some (lt k h vk vn n l tg bi s false)) := ht
  obtain ⟨pa, pc, cg, cc, mg, mc, tb, fb, fn, bl, hV⟩ := hW
  have HV := (show Hid _ from hV)
  have ds : Hid (∀ w', Below wa.heap.size wa w' → w'.cell? ⟨w.heap.size, 0, none⟩ = some (.int .u8 k) ∧ w'.cell? ⟨w.heap.size, 1, none⟩ = some (.int .i64 h) ∧ w'.cell? ⟨w.heap.size, 10, none⟩ = some (.int .i64 tg) ∧ w'.cell? ⟨w.heap.size, 11, none⟩ = some (.int .i64 bi) ∧ w'.cell? ⟨w.heap.size, 12, none⟩ = some (.int .u8 s) ∧
      w'.cell? ⟨bl r, 0, none⟩ = some (.int .u8 k) ∧ w'.cell? ⟨bl r, 1, none⟩ = some (.int .i64 h) ∧ w'.cell? ⟨bl r, 10, none⟩ = some (.int .i64 tg) ∧ w'.cell? ⟨bl r, 11, none⟩ = some (.int .i64 bi) ∧ w'.cell? ⟨bl r, 12, none⟩ = some (.int .u8 s) ∧ w'.cell? ⟨bl r, 13, none⟩ = some (.bool false) ∧
      (ldW (.pointer (some ⟨w.heap.size, 0, none⟩))).run Tryz.prog w' = .ok (.value (.agg #[.int .u8 k, .int .i64 h, .int .u8 vk', .int .i64 vn', .string ⟨#[]⟩, .slice none 0 0, .int .i64 0, .slice none 0 0, .int .i64 n', .int .i64 l', .int .i64 tg, .int .i64 bi, .int .u8 s, .bool fu', .slice none 0 0, .slice none 0 0])) w' ∧ IsW w' p M F) := fun w' hb => by
    have hbl := (HV.out.below (HB0.out.trans (hb.mono HB0.out.size))).blk r _ Ht.out
    obtain ⟨q0, q1, -, -, q10, q11, q12, q13⟩ := thc_cell hbl.1
    have hg := below_blk hb Hb0.out
    exact ⟨by rw [cell_blk hg]; rfl, by rw [cell_blk hg]; rfl, by rw [cell_blk hg]; rfl, by rw [cell_blk hg]; rfl, by rw [cell_blk hg]; rfl, q0, q1, q10, q11, q12, q13, loadWhat_blk hg rfl, HW.out.below (HB0.out.trans (hb.mono HB0.out.size))⟩
  clear hV hB0 b0 hform ht hwa
  go_enter Tryz.func60, Tryz.ntmps60
  go_wp2_with fail
  rw [← Hwa.out]
  have hWa := HW.out.below HB0.out
  refine (none_W hWa).mono ?_
  rintro e _ ⟨rfl, rfl⟩
  go_wp2_with fail
  refine (Is_W hWa hr).mono ?_
  rw [Ht.out]
  rintro e _ ⟨rfl, rfl⟩
  have c2 := (HV.out.below HB0.out).c2
  have hlk := (HV.out.below HB0.out).look hr
  rw [Ht.out] at hlk
  simp only [Option.map_some] at hlk
  clear hWa
  go_wp2_with fail
  refine region_class (C := fun w' => Below wa.heap.size wa w') (by kernel_rfl) (by kernel_rfl) below_drew ?_
  repeat (first
    | go_big_quiet_step (fail)
    | quiet_step (fail)
    | (refine wpQuiet_step (fun K hK => ?_); go_simp; first
        | (refine hK _ ?_; clear hK K)
        | (apply Exists.intro
           refine ⟨fun w' hC => ?_, hK _ ?_⟩
           · obtain ⟨q1, q2, q3, q4, q5, q6, q7, q8, q9, q10, q11, q12, q13⟩ := ds.out w' hC
             first
               | exact rfl
               | (go_simp; exact rfl)
               | (go_simp; exact ⟨rfl, rfl⟩)
               | exact (Hf.out w' q13).mono fun e w'' ⟨he, hb⟩ => ⟨he, hC.trans (hb.mono hC.size)⟩
           clear hK K)))
  refine wpQuiet_nil ?_
  intro w5 hC5
  have HB5 := (show Hid (Below wa.heap.size wa w5) from hC5)
  have l5 := (ds.out w5 hC5).2.2.2.2.2.2.2.2.2.2.2.1
  clear hC5 c2 hlk
  go_wp2_with fail
  refine (names_W _ _ k h vk' vn' n' l' tg bi s fu' hp).mono ?_
  rintro e w6 ⟨rfl, hb6⟩
  have HB6 : Hid (Below wa.heap.size wa w6) := HB5.out.trans (hb6.mono HB5.out.size)
  have l6 := (ds.out w6 HB6.out).2.2.2.2.2.2.2.2.2.2.2.1
  clear hb6 l5 HB5
  go_wp2_with fail
  refine (ownWhat_W _ k h vk' vn' n' l' tg bi s fu' hp).mono ?_
  rintro e w7 ⟨rfl, hb7⟩
  have HB7 : Hid (Below wa.heap.size wa w7) := HB6.out.trans (hb7.mono HB6.out.size)
  have B7 := ((HV.out.below (HB0.out.trans (HB7.out.mono HB0.out.size))).blk r _ Ht.out).1
  rw [thc_lt] at B7
  have hst := storeWhat_blk (c' := #[.int .u8 k, .int .i64 h, .int .u8 vk', .int .i64 vn', .string ⟨#[]⟩, .slice none 0 0, .int .i64 0, .slice none 0 0, .int .i64 n', .int .i64 l', .int .i64 tg, .int .i64 bi, .int .u8 s, .bool fu', .slice none 0 0, .slice none 0 0]) B7 rfl rfl (by simp [go_sem])
  have G7 := (show Hid _ from heap_setRow_at (c' := #[.int .u8 k, .int .i64 h, .int .u8 vk', .int .i64 vn', .string ⟨#[]⟩, .slice none 0 0, .int .i64 0, .slice none 0 0, .int .i64 n', .int .i64 l', .int .i64 tg, .int .i64 bi, .int .u8 s, .bool fu', .slice none 0 0, .slice none 0 0]) B7)
  have HB8 := (show Hid (Below w.heap.size w w7) from HB0.out.trans (HB7.out.mono HB0.out.size))
  clear hb7 B7 l6
  go_wp2_with fail
  go_ret
  refine ⟨rfl, ?_, ?_⟩
  · have hV7 := HV.out.below HB8.out
    refine ⟨pa, pc, cg, cc, mg, mc, tb, fb, fn, bl, hV7.turn (u := lt k h vk vn n l tg bi s false) (t := lt k h vk' vn' n' l' tg bi s fu') ⟨Ht.out, rfl, rfl, fun _ => rfl, (hV7.ok.wf _ _ Ht.out).tgt, rfl, rfl⟩ (by simp [World.setRow]) G7.out (fun b _ hb => heap_setRow_other _ _ _ _ hb) (fun _ h => h) (fun b hb => by have := hV7.lt b hb; simpa [World.setRow] using this) (deep_lt _ _ _ _ _ _ _ _ _ _ _ _)⟩
  · have hF := (HV.out.blk r _ Ht.out).2.1
    exact Below.keeps HB8.out ⟨rfl, rfl, rfl, by simp [World.setRow], fun b _ hb => heap_setRow_other _ _ _ _ (fun e => hb (e ▸ hF))⟩
end Go.Proofs.YtmefjkggibbhoaaGreat
