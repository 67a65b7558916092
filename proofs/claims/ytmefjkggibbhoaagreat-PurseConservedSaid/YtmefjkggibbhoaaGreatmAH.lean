/- A part of the proof, several texts in one: Fits, FitsB, Bare. -/
import Derived.Test.YtmefjkggibbhoaaGreatmAB
import Derived.Test.YtmefjkggibbhoaaGreatmAG
import Derived.Deep.QuietTactic
import Derived.BigQuiet
import Derived.StillTailTactics
import Derived.BigRegion
/- fits at the kinds that ask for nothing. Printed by gen_fits.py. -/
namespace Go.Proofs.YtmefjkggibbhoaaGreat
open Go.RowKit Go.ChangeMaps Go.MapKept
variable {w : World} {p : Nat} {M : WM} {F : Nat → Prop}

set_option maxRecDepth 8000 in
theorem fits_1 (w : World) (q : Option Addr) (r h vk vn n l tg bi s : Int) (fu : Bool) : Calls Tryz.prog 65 #[.pointer q, .int .i64 r, .agg #[.int .u8 1, .int .i64 h, .int .u8 vk, .int .i64 vn, .string ⟨#[]⟩, .slice none 0 0, .int .i64 0, .slice none 0 0, .int .i64 n, .int .i64 l, .int .i64 tg, .int .i64 bi, .int .u8 s, .bool fu, .slice none 0 0, .slice none 0 0]] w fun e w' => e = .returned (.bool true) ∧ Below w.heap.size w w' := by
  go_enter Tryz.func65, Tryz.ntmps65
  go_wp2
  go_ret
  exact ⟨rfl, by go_grown⟩

set_option maxRecDepth 8000 in
theorem fits_2 (w : World) (q : Option Addr) (r h vk vn n l tg bi s : Int) (fu : Bool) : Calls Tryz.prog 65 #[.pointer q, .int .i64 r, .agg #[.int .u8 2, .int .i64 h, .int .u8 vk, .int .i64 vn, .string ⟨#[]⟩, .slice none 0 0, .int .i64 0, .slice none 0 0, .int .i64 n, .int .i64 l, .int .i64 tg, .int .i64 bi, .int .u8 s, .bool fu, .slice none 0 0, .slice none 0 0]] w fun e w' => e = .returned (.bool true) ∧ Below w.heap.size w w' := by
  go_enter Tryz.func65, Tryz.ntmps65
  go_wp2
  go_ret
  exact ⟨rfl, by go_grown⟩

set_option maxRecDepth 8000 in
theorem fits_3 (w : World) (q : Option Addr) (r h vk vn n l tg bi s : Int) (fu : Bool) : Calls Tryz.prog 65 #[.pointer q, .int .i64 r, .agg #[.int .u8 3, .int .i64 h, .int .u8 vk, .int .i64 vn, .string ⟨#[]⟩, .slice none 0 0, .int .i64 0, .slice none 0 0, .int .i64 n, .int .i64 l, .int .i64 tg, .int .i64 bi, .int .u8 s, .bool fu, .slice none 0 0, .slice none 0 0]] w fun e w' => e = .returned (.bool true) ∧ Below w.heap.size w w' := by
  go_enter Tryz.func65, Tryz.ntmps65
  go_wp2
  go_ret
  exact ⟨rfl, by go_grown⟩

set_option maxRecDepth 8000 in
theorem fits_4 (w : World) (q : Option Addr) (r h vk vn n l tg bi s : Int) (fu : Bool) : Calls Tryz.prog 65 #[.pointer q, .int .i64 r, .agg #[.int .u8 4, .int .i64 h, .int .u8 vk, .int .i64 vn, .string ⟨#[]⟩, .slice none 0 0, .int .i64 0, .slice none 0 0, .int .i64 n, .int .i64 l, .int .i64 tg, .int .i64 bi, .int .u8 s, .bool fu, .slice none 0 0, .slice none 0 0]] w fun e w' => e = .returned (.bool true) ∧ Below w.heap.size w w' := by
  go_enter Tryz.func65, Tryz.ntmps65
  go_wp2
  go_ret
  exact ⟨rfl, by go_grown⟩

set_option maxRecDepth 8000 in
theorem fits_5 (w : World) (q : Option Addr) (r h vk vn n l tg bi s : Int) (fu : Bool) : Calls Tryz.prog 65 #[.pointer q, .int .i64 r, .agg #[.int .u8 5, .int .i64 h, .int .u8 vk, .int .i64 vn, .string ⟨#[]⟩, .slice none 0 0, .int .i64 0, .slice none 0 0, .int .i64 n, .int .i64 l, .int .i64 tg, .int .i64 bi, .int .u8 s, .bool fu, .slice none 0 0, .slice none 0 0]] w fun e w' => e = .returned (.bool true) ∧ Below w.heap.size w w' := by
  go_enter Tryz.func65, Tryz.ntmps65
  go_wp2
  go_ret
  exact ⟨rfl, by go_grown⟩

set_option maxRecDepth 8000 in
theorem fits_8 (w : World) (q : Option Addr) (r h vk vn n l tg bi s : Int) (fu : Bool) : Calls Tryz.prog 65 #[.pointer q, .int .i64 r, .agg #[.int .u8 8, .int .i64 h, .int .u8 vk, .int .i64 vn, .string ⟨#[]⟩, .slice none 0 0, .int .i64 0, .slice none 0 0, .int .i64 n, .int .i64 l, .int .i64 tg, .int .i64 bi, .int .u8 s, .bool fu, .slice none 0 0, .slice none 0 0]] w fun e w' => e = .returned (.bool true) ∧ Below w.heap.size w w' := by
  go_enter Tryz.func65, Tryz.ntmps65
  go_wp2
  go_ret
  exact ⟨rfl, by go_grown⟩

set_option maxRecDepth 8000 in
theorem fits_10 (w : World) (q : Option Addr) (r h vk vn n l tg bi s : Int) (fu : Bool) : Calls Tryz.prog 65 #[.pointer q, .int .i64 r, .agg #[.int .u8 10, .int .i64 h, .int .u8 vk, .int .i64 vn, .string ⟨#[]⟩, .slice none 0 0, .int .i64 0, .slice none 0 0, .int .i64 n, .int .i64 l, .int .i64 tg, .int .i64 bi, .int .u8 s, .bool fu, .slice none 0 0, .slice none 0 0]] w fun e w' => e = .returned (.bool true) ∧ Below w.heap.size w w' := by
  go_enter Tryz.func65, Tryz.ntmps65
  go_wp2
  go_ret
  exact ⟨rfl, by go_grown⟩

set_option maxRecDepth 8000 in
theorem fits_12 (w : World) (q : Option Addr) (r h vk vn n l tg bi s : Int) (fu : Bool) : Calls Tryz.prog 65 #[.pointer q, .int .i64 r, .agg #[.int .u8 12, .int .i64 h, .int .u8 vk, .int .i64 vn, .string ⟨#[]⟩, .slice none 0 0, .int .i64 0, .slice none 0 0, .int .i64 n, .int .i64 l, .int .i64 tg, .int .i64 bi, .int .u8 s, .bool fu, .slice none 0 0, .slice none 0 0]] w fun e w' => e = .returned (.bool true) ∧ Below w.heap.size w w' := by
  go_enter Tryz.func65, Tryz.ntmps65
  go_wp2
  go_ret
  exact ⟨rfl, by go_grown⟩

end Go.Proofs.YtmefjkggibbhoaaGreat
/- fits at the kinds that ask for another thing: a switch, a purse, a tap, a gate. -/
namespace Go.Proofs.YtmefjkggibbhoaaGreat
open Go.RowKit Go.ChangeMaps Go.MapKept
variable {w : World} {p : Nat} {M : WM} {F : Nat → Prop}

theorem IsW.drewN (hW : IsW w p M F) (m : Nat) : IsW (w.drewN m) p M F := hW.below ⟨rfl, rfl, rfl, Nat.le_refl _, fun _ _ => rfl⟩

theorem WV.look_drewN {pa : Option Addr} {pc cg cc mg mc tb fb fn : Nat} {bl : Int → Nat} (h : WV w p M F pa pc cg cc mg mc tb fb fn bl) {q : Int} {t : Th} (hq : (Lit.int .i64 q).wf = true) (ht : M.at q = some t) (m : Nat) :
    (Instr.lookup 60 (.map (some tb)) (.int .i64 q) false).run Tryz.prog (w.drewN m) = .ok (.pointer (some ⟨bl q, 0, none⟩)) (w.drewN m) := by
  have := (h.below (w' := w.drewN m) ⟨rfl, rfl, rfl, Nat.le_refl _, fun _ _ => rfl⟩).look hq
  rw [ht] at this
  exact this

/-- 'there' of fits: a thing of that kind, at that home. -/
theorem there_yes (hW : IsW w p M F) {bw bx : Nat} {q k h : Int} {t : Th} (hq : (Lit.int .i64 q).wf = true) (ht : M.at q = some t) (hk : t.kind = k) (hh : t.home = h)
    (cw : w.cell? ⟨bw, 0, none⟩ = some (.pointer (some ⟨p, 0, none⟩))) (cx : w.cell? ⟨bx, 1, none⟩ = some (.int .i64 h)) :
    Calls Tryz.prog 93 #[.int .i64 q, .int .u8 k, .pointer (some ⟨bw, 0, none⟩), .pointer (some ⟨bx, 0, none⟩)] w fun e w' => e = .returned (.bool true) ∧ ∃ n, w' = w.drewN n := by
  subst hk hh
  have hK : ∀ m, Calls Tryz.prog 34 #[.pointer (some ⟨p, 0, none⟩), .int .i64 q] (w.drewN m) fun e w' => e = .returned (.int .u8 t.kind) ∧ w' = w.drewN m := fun m =>
    (Kind_W (hW.drewN m) hq).mono (by rintro e w' ⟨rfl, rfl⟩; exact ⟨by simp [WM.kindOf, ht], rfl⟩)
  have HK := (show Hid _ from hK)
  obtain ⟨pa, pc, cg, cc, mg, mc, tb, fb, fn, bl, h⟩ := hW
  have c2 := h.c2
  have hlk := h.look_drewN hq ht
  obtain ⟨-, k1, -, -, -, -, -, -⟩ := thc_cell (h.blk q t ht).1
  have e1 : (t.kind == t.kind) = true := by simp
  have e2 : (t.home == t.home) = true := by simp
  clear h ht hq hK
  go_enter Tryz.func93, Tryz.ntmps93
  go_wp2_with fail
  go_quiet ((go_at_call 34; exact Calls.quiet_of_same (HK.out _)))
  go_wp2_with fail
  go_ret
  exact ⟨rfl, _, rfl⟩

set_option maxRecDepth 8000 in
theorem fits_13 (w : World) (q : Option Addr) (r h : Int) (fu : Bool) : Calls Tryz.prog 65 #[.pointer q, .int .i64 r, .agg #[.int .u8 13, .int .i64 h, .int .u8 0, .int .i64 0, .string ⟨#[]⟩, .slice none 0 0, .int .i64 0, .slice none 0 0, .int .i64 0, .int .i64 0, .int .i64 0, .int .i64 0, .int .u8 0, .bool fu, .slice none 0 0, .slice none 0 0]] w fun e w' => e = .returned (.bool true) ∧ Below w.heap.size w w' := by
  go_enter Tryz.func65, Tryz.ntmps65
  go_wp2_with fail
  go_quiet (fail)
  go_wp2_with fail
  go_ret
  exact ⟨rfl, ((((Below.refl _ _).alloc (Nat.le_refl _) _).alloc (by simp) _).trans ⟨rfl, rfl, rfl, Nat.le_refl _, fun _ _ => rfl⟩)⟩

set_option maxRecDepth 8000 in
theorem fits_9 (hW : IsW w p M F) {r h n tg : Int} {t : Th} (hq : (Lit.int .i64 tg).wf = true) (ht : M.at tg = some t) (hk : t.kind = 8) (hh : t.home = h) :
    Calls Tryz.prog 65 #[.pointer (some ⟨p, 0, none⟩), .int .i64 r, .agg #[.int .u8 9, .int .i64 h, .int .u8 0, .int .i64 0, .string ⟨#[]⟩, .slice none 0 0, .int .i64 0, .slice none 0 0, .int .i64 n, .int .i64 0, .int .i64 tg, .int .i64 0, .int .u8 0, .bool false, .slice none 0 0, .slice none 0 0]] w fun e w' => e = .returned (.bool true) ∧ Below w.heap.size w w' := by
  have HW : Hid (IsW w p M F) := hW
  have HT : Hid (M.at tg = some t ∧ t.kind = 8 ∧ t.home = h) := ⟨ht, hk, hh⟩
  clear hW ht hk hh
  go_enter Tryz.func65, Tryz.ntmps65
  go_wp2_with fail
  have hb := ((Below.refl w.heap.size w).alloc (Nat.le_refl _) (.cells #[.pointer (some ⟨p, 0, none⟩)] 26)).alloc (by simp) (.cells #[.int .u8 9, .int .i64 h, .int .u8 0, .int .i64 0, .string ⟨#[]⟩, .slice none 0 0, .int .i64 0, .slice none 0 0, .int .i64 n, .int .i64 0, .int .i64 tg, .int .i64 0, .int .u8 0, .bool false, .slice none 0 0, .slice none 0 0] 53)
  have HB := (show Hid _ from hb)
  refine (there_yes (HW.out.below hb) hq HT.out.1 HT.out.2.1 HT.out.2.2 (by rw [cell_blk (blk2_old _ _ _)]; rfl) (by rw [cell_blk (blk2_new _ _ _)]; rfl)).mono ?_
  clear hb
  rintro e w' ⟨rfl, m, rfl⟩
  go_wp2_with fail
  go_ret
  exact ⟨rfl, Below.trans HB.out ⟨rfl, rfl, rfl, Nat.le_refl _, fun _ _ => rfl⟩⟩

set_option maxRecDepth 8000 in
theorem fits_16 (hW : IsW w p M F) {r h tg bi : Int} {t u : Th} (hq : (Lit.int .i64 tg).wf = true) (hq2 : (Lit.int .i64 bi).wf = true) (ht : M.at bi = some t) (hk : t.kind = 3) (hh : t.home = h) (hu : M.at tg = some u) :
    Calls Tryz.prog 65 #[.pointer (some ⟨p, 0, none⟩), .int .i64 r, .agg #[.int .u8 16, .int .i64 h, .int .u8 0, .int .i64 0, .string ⟨#[]⟩, .slice none 0 0, .int .i64 0, .slice none 0 0, .int .i64 0, .int .i64 0, .int .i64 tg, .int .i64 bi, .int .u8 0, .bool false, .slice none 0 0, .slice none 0 0]] w fun e w' => e = .returned (.bool true) ∧ Below w.heap.size w w' := by
  have HW : Hid (IsW w p M F) := hW
  have HT : Hid (M.at bi = some t ∧ t.kind = 3 ∧ t.home = h) := ⟨ht, hk, hh⟩
  have HU : Hid ((M.at tg).isSome = true) := by show _ = _; rw [hu]; rfl
  clear hW ht hk hh hu
  go_enter Tryz.func65, Tryz.ntmps65
  go_wp2_with fail
  have hb := ((Below.refl w.heap.size w).alloc (Nat.le_refl _) (.cells #[.pointer (some ⟨p, 0, none⟩)] 26)).alloc (by simp) (.cells #[.int .u8 16, .int .i64 h, .int .u8 0, .int .i64 0, .string ⟨#[]⟩, .slice none 0 0, .int .i64 0, .slice none 0 0, .int .i64 0, .int .i64 0, .int .i64 tg, .int .i64 bi, .int .u8 0, .bool false, .slice none 0 0, .slice none 0 0] 53)
  have HB := (show Hid _ from hb)
  refine (there_yes (HW.out.below hb) hq2 HT.out.1 HT.out.2.1 HT.out.2.2 (by rw [cell_blk (blk2_old _ _ _)]; rfl) (by rw [cell_blk (blk2_new _ _ _)]; rfl)).mono ?_
  clear hb
  rintro e w' ⟨rfl, m, rfl⟩
  go_wp2_with fail
  refine (Is_W ((HW.out.below HB.out).drewN m) hq).mono ?_
  rw [HU.out]
  rintro e _ ⟨rfl, rfl⟩
  go_wp2_with fail
  go_ret
  exact ⟨rfl, Below.trans HB.out ⟨rfl, rfl, rfl, Nat.le_refl _, fun _ _ => rfl⟩⟩

set_option maxRecDepth 8000 in
theorem fits_15 (hW : IsW w p M F) {h tg bi : Int} {t u : Th} (hq : (Lit.int .i64 tg).wf = true) (hq2 : (Lit.int .i64 bi).wf = true) (ht : M.at bi = some t) (hk : t.kind = 13) (hh : t.home = h) (h0 : t.tgt = 0) (hu : M.at tg = some u) :
    Calls Tryz.prog 65 #[.pointer (some ⟨p, 0, none⟩), .int .i64 0, .agg #[.int .u8 15, .int .i64 h, .int .u8 0, .int .i64 0, .string ⟨#[]⟩, .slice none 0 0, .int .i64 0, .slice none 0 0, .int .i64 0, .int .i64 0, .int .i64 tg, .int .i64 bi, .int .u8 0, .bool false, .slice none 0 0, .slice none 0 0]] w fun e w' => e = .returned (.bool true) ∧ Below w.heap.size w w' := by
  have HW : Hid (IsW w p M F) := hW
  have HT : Hid (M.at bi = some t ∧ t.kind = 13 ∧ t.home = h) := ⟨ht, hk, hh⟩
  have HT0 : Hid (t.tgt = 0) := h0
  have HU : Hid ((M.at tg).isSome = true) := by show _ = _; rw [hu]; rfl
  clear hW ht hk hh hu h0
  go_enter Tryz.func65, Tryz.ntmps65
  go_wp2_with fail
  have hb := ((Below.refl w.heap.size w).alloc (Nat.le_refl _) (.cells #[.pointer (some ⟨p, 0, none⟩)] 26)).alloc (by simp) (.cells #[.int .u8 15, .int .i64 h, .int .u8 0, .int .i64 0, .string ⟨#[]⟩, .slice none 0 0, .int .i64 0, .slice none 0 0, .int .i64 0, .int .i64 0, .int .i64 tg, .int .i64 bi, .int .u8 0, .bool false, .slice none 0 0, .slice none 0 0] 53)
  have HB := (show Hid _ from hb)
  have hBW := blk2_old w (.cells #[.pointer (some ⟨p, 0, none⟩)] 26) (.cells #[.int .u8 15, .int .i64 h, .int .u8 0, .int .i64 0, .string ⟨#[]⟩, .slice none 0 0, .int .i64 0, .slice none 0 0, .int .i64 0, .int .i64 0, .int .i64 tg, .int .i64 bi, .int .u8 0, .bool false, .slice none 0 0, .slice none 0 0] 53)
  have hBX := blk2_new w (.cells #[.pointer (some ⟨p, 0, none⟩)] 26) (.cells #[.int .u8 15, .int .i64 h, .int .u8 0, .int .i64 0, .string ⟨#[]⟩, .slice none 0 0, .int .i64 0, .slice none 0 0, .int .i64 0, .int .i64 0, .int .i64 tg, .int .i64 bi, .int .u8 0, .bool false, .slice none 0 0, .slice none 0 0] 53)
  have hWB := HW.out.below hb
  revert HB hWB hBW hBX
  clear hb
  generalize (w.alloc (.cells #[.pointer (some ⟨p, 0, none⟩)] 26)).alloc (.cells #[.int .u8 15, .int .i64 h, .int .u8 0, .int .i64 0, .string ⟨#[]⟩, .slice none 0 0, .int .i64 0, .slice none 0 0, .int .i64 0, .int .i64 0, .int .i64 tg, .int .i64 bi, .int .u8 0, .bool false, .slice none 0 0, .slice none 0 0] 53) = w1
  intro HB hBW hBX hWB
  have cw : w1.cell? ⟨w.heap.size, 0, none⟩ = some (.pointer (some ⟨p, 0, none⟩)) := by rw [cell_blk hBW]; rfl
  have x1 : w1.cell? ⟨w.heap.size + 1, 1, none⟩ = some (.int .i64 h) := by rw [cell_blk hBX]; rfl
  have x10 : w1.cell? ⟨w.heap.size + 1, 10, none⟩ = some (.int .i64 tg) := by rw [cell_blk hBX]; rfl
  have x11 : w1.cell? ⟨w.heap.size + 1, 11, none⟩ = some (.int .i64 bi) := by rw [cell_blk hBX]; rfl
  have HTh := (show Hid (∀ m, Calls Tryz.prog 93 #[.int .i64 bi, .int .u8 13, .pointer (some ⟨w.heap.size, 0, none⟩), .pointer (some ⟨w.heap.size + 1, 0, none⟩)] (w1.drewN m) fun e w' => e = .returned (.bool true) ∧ ∃ n, w' = (w1.drewN m).drewN n) from
    fun m => there_yes (hWB.drewN m) hq2 HT.out.1 HT.out.2.1 HT.out.2.2 cw x1)
  have HIs := (show Hid (∀ m, Calls Tryz.prog 46 #[.pointer (some ⟨p, 0, none⟩), .int .i64 tg] (w1.drewN m) fun e w' => e = .returned (.bool true) ∧ w' = w1.drewN m) from
    fun m => (Is_W (hWB.drewN m) hq).mono (by rw [HU.out]; rintro e w' ⟨rfl, rfl⟩; exact ⟨rfl, rfl⟩))
  obtain ⟨pa, pc, cg, cc, mg, mc, tb, fb, fn, bl, hV⟩ := hWB
  have c2 := hV.c2
  have hlk := hV.look_drewN hq2 HT.out.1
  obtain ⟨-, -, -, -, k6, -, -, -⟩ := thc_cell (hV.blk bi t HT.out.1).1
  rw [HT0.out] at k6
  clear hV hBW hBX
  go_quiet ((first | (go_at_call 93; exact Calls.quiet_of (HTh.out _)) | (go_at_call 46; exact Calls.quiet_of_same (HIs.out _))))
  go_wp2_with fail
  go_ret
  exact ⟨rfl, Below.trans HB.out ⟨rfl, rfl, rfl, Nat.le_refl _, fun _ _ => rfl⟩⟩
end Go.Proofs.YtmefjkggibbhoaaGreat
/- bare: a What with just the fields that its kind names. One theorem a kind; printed by gen_bare.py. -/
namespace Go.Proofs.YtmefjkggibbhoaaGreat
open Go.RowKit Go.ChangeMaps Go.MapKept

set_option maxRecDepth 8000 in
theorem bare_0 (w : World) (h vn vr n l tg bi vk s : Int) (vs : ByteArray) (fu : Bool) (a1 a2 a3 a4 : Option Addr) (n1 c1 n2 c2 n3 c3 n4 c4 : Nat) :
    Calls Tryz.prog 82 #[.agg #[.int .u8 0, .int .i64 h, .int .u8 vk, .int .i64 vn, .string vs, .slice a1 n1 c1, .int .i64 vr, .slice a2 n2 c2, .int .i64 n, .int .i64 l, .int .i64 tg, .int .i64 bi, .int .u8 s, .bool fu, .slice a3 n3 c3, .slice a4 n4 c4]] w fun e w' => e = .returned (.agg #[.int .u8 0, .int .i64 h, .int .u8 0, .int .i64 0, .string ⟨#[]⟩, .slice none 0 0, .int .i64 0, .slice none 0 0, .int .i64 0, .int .i64 0, .int .i64 0, .int .i64 0, .int .u8 0, .bool false, .slice none 0 0, .slice none 0 0]) ∧ Below w.heap.size w w' := by
  go_enter Tryz.func82, Tryz.ntmps82
  go_wp2
  refine bodyPost_ret (results_What rfl _ _ _ _ _ rfl (blk_at1 _ _ _ _ rfl) rfl) rfl ⟨rfl, by go_grown⟩

set_option maxRecDepth 8000 in
theorem bare_1 (w : World) (h vn vr n l tg bi vk s : Int) (vs : ByteArray) (fu : Bool) (a1 a2 a3 a4 : Option Addr) (n1 c1 n2 c2 n3 c3 n4 c4 : Nat) :
    Calls Tryz.prog 82 #[.agg #[.int .u8 1, .int .i64 h, .int .u8 vk, .int .i64 vn, .string vs, .slice a1 n1 c1, .int .i64 vr, .slice a2 n2 c2, .int .i64 n, .int .i64 l, .int .i64 tg, .int .i64 bi, .int .u8 s, .bool fu, .slice a3 n3 c3, .slice a4 n4 c4]] w fun e w' => e = .returned (.agg #[.int .u8 1, .int .i64 h, .int .u8 vk, .int .i64 vn, .string vs, .slice a1 n1 c1, .int .i64 vr, .slice none 0 0, .int .i64 0, .int .i64 0, .int .i64 0, .int .i64 0, .int .u8 0, .bool false, .slice none 0 0, .slice none 0 0]) ∧ Below w.heap.size w w' := by
  go_enter Tryz.func82, Tryz.ntmps82
  go_wp2
  refine bodyPost_ret (results_What rfl _ _ _ _ _ rfl (blk_at1 _ _ _ _ rfl) rfl) rfl ⟨rfl, by go_grown⟩

set_option maxRecDepth 8000 in
theorem bare_2 (w : World) (h vn vr n l tg bi vk s : Int) (vs : ByteArray) (fu : Bool) (a1 a2 a3 a4 : Option Addr) (n1 c1 n2 c2 n3 c3 n4 c4 : Nat) :
    Calls Tryz.prog 82 #[.agg #[.int .u8 2, .int .i64 h, .int .u8 vk, .int .i64 vn, .string vs, .slice a1 n1 c1, .int .i64 vr, .slice a2 n2 c2, .int .i64 n, .int .i64 l, .int .i64 tg, .int .i64 bi, .int .u8 s, .bool fu, .slice a3 n3 c3, .slice a4 n4 c4]] w fun e w' => e = .returned (.agg #[.int .u8 2, .int .i64 h, .int .u8 0, .int .i64 0, .string ⟨#[]⟩, .slice none 0 0, .int .i64 0, .slice a2 n2 c2, .int .i64 0, .int .i64 0, .int .i64 0, .int .i64 0, .int .u8 0, .bool false, .slice none 0 0, .slice none 0 0]) ∧ Below w.heap.size w w' := by
  go_enter Tryz.func82, Tryz.ntmps82
  go_wp2
  refine bodyPost_ret (results_What rfl _ _ _ _ _ rfl (blk_at1 _ _ _ _ rfl) rfl) rfl ⟨rfl, by go_grown⟩

set_option maxRecDepth 8000 in
theorem bare_3 (w : World) (h vn vr n l tg bi vk s : Int) (vs : ByteArray) (fu : Bool) (a1 a2 a3 a4 : Option Addr) (n1 c1 n2 c2 n3 c3 n4 c4 : Nat) :
    Calls Tryz.prog 82 #[.agg #[.int .u8 3, .int .i64 h, .int .u8 vk, .int .i64 vn, .string vs, .slice a1 n1 c1, .int .i64 vr, .slice a2 n2 c2, .int .i64 n, .int .i64 l, .int .i64 tg, .int .i64 bi, .int .u8 s, .bool fu, .slice a3 n3 c3, .slice a4 n4 c4]] w fun e w' => e = .returned (.agg #[.int .u8 3, .int .i64 h, .int .u8 0, .int .i64 0, .string ⟨#[]⟩, .slice none 0 0, .int .i64 0, .slice none 0 0, .int .i64 n, .int .i64 0, .int .i64 0, .int .i64 0, .int .u8 0, .bool false, .slice none 0 0, .slice none 0 0]) ∧ Below w.heap.size w w' := by
  go_enter Tryz.func82, Tryz.ntmps82
  go_wp2
  refine bodyPost_ret (results_What rfl _ _ _ _ _ rfl (blk_at1 _ _ _ _ rfl) rfl) rfl ⟨rfl, by go_grown⟩

set_option maxRecDepth 8000 in
theorem bare_4 (w : World) (h vn vr n l tg bi vk s : Int) (vs : ByteArray) (fu : Bool) (a1 a2 a3 a4 : Option Addr) (n1 c1 n2 c2 n3 c3 n4 c4 : Nat) :
    Calls Tryz.prog 82 #[.agg #[.int .u8 4, .int .i64 h, .int .u8 vk, .int .i64 vn, .string vs, .slice a1 n1 c1, .int .i64 vr, .slice a2 n2 c2, .int .i64 n, .int .i64 l, .int .i64 tg, .int .i64 bi, .int .u8 s, .bool fu, .slice a3 n3 c3, .slice a4 n4 c4]] w fun e w' => e = .returned (.agg #[.int .u8 4, .int .i64 h, .int .u8 0, .int .i64 0, .string ⟨#[]⟩, .slice none 0 0, .int .i64 0, .slice a2 n2 c2, .int .i64 0, .int .i64 0, .int .i64 0, .int .i64 0, .int .u8 0, .bool false, .slice none 0 0, .slice none 0 0]) ∧ Below w.heap.size w w' := by
  go_enter Tryz.func82, Tryz.ntmps82
  go_wp2
  refine bodyPost_ret (results_What rfl _ _ _ _ _ rfl (blk_at1 _ _ _ _ rfl) rfl) rfl ⟨rfl, by go_grown⟩

set_option maxRecDepth 8000 in
theorem bare_5 (w : World) (h vn vr n l tg bi vk s : Int) (vs : ByteArray) (fu : Bool) (a1 a2 a3 a4 : Option Addr) (n1 c1 n2 c2 n3 c3 n4 c4 : Nat) :
    Calls Tryz.prog 82 #[.agg #[.int .u8 5, .int .i64 h, .int .u8 vk, .int .i64 vn, .string vs, .slice a1 n1 c1, .int .i64 vr, .slice a2 n2 c2, .int .i64 n, .int .i64 l, .int .i64 tg, .int .i64 bi, .int .u8 s, .bool fu, .slice a3 n3 c3, .slice a4 n4 c4]] w fun e w' => e = .returned (.agg #[.int .u8 5, .int .i64 h, .int .u8 0, .int .i64 0, .string ⟨#[]⟩, .slice none 0 0, .int .i64 0, .slice none 0 0, .int .i64 0, .int .i64 0, .int .i64 0, .int .i64 0, .int .u8 0, .bool false, .slice none 0 0, .slice none 0 0]) ∧ Below w.heap.size w w' := by
  go_enter Tryz.func82, Tryz.ntmps82
  go_wp2
  refine bodyPost_ret (results_What rfl _ _ _ _ _ rfl (blk_at1 _ _ _ _ rfl) rfl) rfl ⟨rfl, by go_grown⟩

set_option maxRecDepth 8000 in
theorem bare_6 (w : World) (h vn vr n l tg bi vk s : Int) (vs : ByteArray) (fu : Bool) (a1 a2 a3 a4 : Option Addr) (n1 c1 n2 c2 n3 c3 n4 c4 : Nat) :
    Calls Tryz.prog 82 #[.agg #[.int .u8 6, .int .i64 h, .int .u8 vk, .int .i64 vn, .string vs, .slice a1 n1 c1, .int .i64 vr, .slice a2 n2 c2, .int .i64 n, .int .i64 l, .int .i64 tg, .int .i64 bi, .int .u8 s, .bool fu, .slice a3 n3 c3, .slice a4 n4 c4]] w fun e w' => e = .returned (.agg #[.int .u8 6, .int .i64 h, .int .u8 0, .int .i64 0, .string ⟨#[]⟩, .slice none 0 0, .int .i64 0, .slice none 0 0, .int .i64 0, .int .i64 0, .int .i64 tg, .int .i64 0, .int .u8 0, .bool false, .slice none 0 0, .slice none 0 0]) ∧ Below w.heap.size w w' := by
  go_enter Tryz.func82, Tryz.ntmps82
  go_wp2
  refine bodyPost_ret (results_What rfl _ _ _ _ _ rfl (blk_at1 _ _ _ _ rfl) rfl) rfl ⟨rfl, by go_grown⟩

set_option maxRecDepth 8000 in
theorem bare_7 (w : World) (h vn vr n l tg bi vk s : Int) (vs : ByteArray) (fu : Bool) (a1 a2 a3 a4 : Option Addr) (n1 c1 n2 c2 n3 c3 n4 c4 : Nat) :
    Calls Tryz.prog 82 #[.agg #[.int .u8 7, .int .i64 h, .int .u8 vk, .int .i64 vn, .string vs, .slice a1 n1 c1, .int .i64 vr, .slice a2 n2 c2, .int .i64 n, .int .i64 l, .int .i64 tg, .int .i64 bi, .int .u8 s, .bool fu, .slice a3 n3 c3, .slice a4 n4 c4]] w fun e w' => e = .returned (.agg #[.int .u8 7, .int .i64 h, .int .u8 vk, .int .i64 vn, .string vs, .slice a1 n1 c1, .int .i64 vr, .slice none 0 0, .int .i64 0, .int .i64 0, .int .i64 tg, .int .i64 0, .int .u8 0, .bool false, .slice none 0 0, .slice none 0 0]) ∧ Below w.heap.size w w' := by
  go_enter Tryz.func82, Tryz.ntmps82
  go_wp2
  go_region
  all_goals go_wp2
  all_goals refine bodyPost_ret (results_What rfl _ _ _ _ _ rfl (blk_at1d _ _ _ _ rfl) rfl) rfl ⟨rfl, by go_grown⟩

set_option maxRecDepth 8000 in
theorem bare_8 (w : World) (h vn vr n l tg bi vk s : Int) (vs : ByteArray) (fu : Bool) (a1 a2 a3 a4 : Option Addr) (n1 c1 n2 c2 n3 c3 n4 c4 : Nat) :
    Calls Tryz.prog 82 #[.agg #[.int .u8 8, .int .i64 h, .int .u8 vk, .int .i64 vn, .string vs, .slice a1 n1 c1, .int .i64 vr, .slice a2 n2 c2, .int .i64 n, .int .i64 l, .int .i64 tg, .int .i64 bi, .int .u8 s, .bool fu, .slice a3 n3 c3, .slice a4 n4 c4]] w fun e w' => e = .returned (.agg #[.int .u8 8, .int .i64 h, .int .u8 0, .int .i64 0, .string ⟨#[]⟩, .slice none 0 0, .int .i64 0, .slice none 0 0, .int .i64 n, .int .i64 l, .int .i64 0, .int .i64 0, .int .u8 0, .bool false, .slice none 0 0, .slice none 0 0]) ∧ Below w.heap.size w w' := by
  go_enter Tryz.func82, Tryz.ntmps82
  go_wp2
  go_region
  all_goals go_wp2
  all_goals refine bodyPost_ret (results_What rfl _ _ _ _ _ rfl (blk_at1d _ _ _ _ rfl) rfl) rfl ⟨rfl, by go_grown⟩

set_option maxRecDepth 8000 in
theorem bare_9 (w : World) (h vn vr n l tg bi vk s : Int) (vs : ByteArray) (fu : Bool) (a1 a2 a3 a4 : Option Addr) (n1 c1 n2 c2 n3 c3 n4 c4 : Nat) :
    Calls Tryz.prog 82 #[.agg #[.int .u8 9, .int .i64 h, .int .u8 vk, .int .i64 vn, .string vs, .slice a1 n1 c1, .int .i64 vr, .slice a2 n2 c2, .int .i64 n, .int .i64 l, .int .i64 tg, .int .i64 bi, .int .u8 s, .bool fu, .slice a3 n3 c3, .slice a4 n4 c4]] w fun e w' => e = .returned (.agg #[.int .u8 9, .int .i64 h, .int .u8 0, .int .i64 0, .string ⟨#[]⟩, .slice none 0 0, .int .i64 0, .slice none 0 0, .int .i64 n, .int .i64 0, .int .i64 tg, .int .i64 0, .int .u8 0, .bool false, .slice none 0 0, .slice none 0 0]) ∧ Below w.heap.size w w' := by
  go_enter Tryz.func82, Tryz.ntmps82
  go_wp2
  go_region
  all_goals go_wp2
  all_goals refine bodyPost_ret (results_What rfl _ _ _ _ _ rfl (blk_at1d _ _ _ _ rfl) rfl) rfl ⟨rfl, by go_grown⟩

set_option maxRecDepth 8000 in
theorem bare_10 (w : World) (h vn vr n l tg bi vk s : Int) (vs : ByteArray) (fu : Bool) (a1 a2 a3 a4 : Option Addr) (n1 c1 n2 c2 n3 c3 n4 c4 : Nat) :
    Calls Tryz.prog 82 #[.agg #[.int .u8 10, .int .i64 h, .int .u8 vk, .int .i64 vn, .string vs, .slice a1 n1 c1, .int .i64 vr, .slice a2 n2 c2, .int .i64 n, .int .i64 l, .int .i64 tg, .int .i64 bi, .int .u8 s, .bool fu, .slice a3 n3 c3, .slice a4 n4 c4]] w fun e w' => e = .returned (.agg #[.int .u8 10, .int .i64 h, .int .u8 vk, .int .i64 vn, .string vs, .slice a1 n1 c1, .int .i64 vr, .slice none 0 0, .int .i64 0, .int .i64 0, .int .i64 0, .int .i64 0, .int .u8 0, .bool fu, .slice none 0 0, .slice none 0 0]) ∧ Below w.heap.size w w' := by
  go_enter Tryz.func82, Tryz.ntmps82
  go_wp2
  go_region
  all_goals go_wp2
  all_goals refine bodyPost_ret (results_What rfl _ _ _ _ _ rfl (blk_at1d _ _ _ _ rfl) rfl) rfl ⟨rfl, by go_grown⟩

set_option maxRecDepth 8000 in
theorem bare_11 (w : World) (h vn vr n l tg bi vk s : Int) (vs : ByteArray) (fu : Bool) (a1 a2 a3 a4 : Option Addr) (n1 c1 n2 c2 n3 c3 n4 c4 : Nat) :
    Calls Tryz.prog 82 #[.agg #[.int .u8 11, .int .i64 h, .int .u8 vk, .int .i64 vn, .string vs, .slice a1 n1 c1, .int .i64 vr, .slice a2 n2 c2, .int .i64 n, .int .i64 l, .int .i64 tg, .int .i64 bi, .int .u8 s, .bool fu, .slice a3 n3 c3, .slice a4 n4 c4]] w fun e w' => e = .returned (.agg #[.int .u8 11, .int .i64 h, .int .u8 0, .int .i64 0, .string ⟨#[]⟩, .slice none 0 0, .int .i64 0, .slice none 0 0, .int .i64 0, .int .i64 0, .int .i64 tg, .int .i64 0, .int .u8 0, .bool false, .slice none 0 0, .slice none 0 0]) ∧ Below w.heap.size w w' := by
  go_enter Tryz.func82, Tryz.ntmps82
  go_wp2
  refine bodyPost_ret (results_What rfl _ _ _ _ _ rfl (blk_at1 _ _ _ _ rfl) rfl) rfl ⟨rfl, by go_grown⟩

set_option maxRecDepth 8000 in
theorem bare_12 (w : World) (h vn vr n l tg bi vk s : Int) (vs : ByteArray) (fu : Bool) (a1 a2 a3 a4 : Option Addr) (n1 c1 n2 c2 n3 c3 n4 c4 : Nat) :
    Calls Tryz.prog 82 #[.agg #[.int .u8 12, .int .i64 h, .int .u8 vk, .int .i64 vn, .string vs, .slice a1 n1 c1, .int .i64 vr, .slice a2 n2 c2, .int .i64 n, .int .i64 l, .int .i64 tg, .int .i64 bi, .int .u8 s, .bool fu, .slice a3 n3 c3, .slice a4 n4 c4]] w fun e w' => e = .returned (.agg #[.int .u8 12, .int .i64 h, .int .u8 0, .int .i64 0, .string ⟨#[]⟩, .slice none 0 0, .int .i64 0, .slice none 0 0, .int .i64 0, .int .i64 0, .int .i64 0, .int .i64 0, .int .u8 0, .bool false, .slice a3 n3 c3, .slice a4 n4 c4]) ∧ Below w.heap.size w w' := by
  go_enter Tryz.func82, Tryz.ntmps82
  go_wp2
  go_region
  all_goals go_wp2
  all_goals refine bodyPost_ret (results_What rfl _ _ _ _ _ rfl (blk_at1d _ _ _ _ rfl) rfl) rfl ⟨rfl, by go_grown⟩

set_option maxRecDepth 8000 in
theorem bare_13 (w : World) (h vn vr n l tg bi vk s : Int) (vs : ByteArray) (fu : Bool) (a1 a2 a3 a4 : Option Addr) (n1 c1 n2 c2 n3 c3 n4 c4 : Nat) :
    Calls Tryz.prog 82 #[.agg #[.int .u8 13, .int .i64 h, .int .u8 vk, .int .i64 vn, .string vs, .slice a1 n1 c1, .int .i64 vr, .slice a2 n2 c2, .int .i64 n, .int .i64 l, .int .i64 tg, .int .i64 bi, .int .u8 s, .bool fu, .slice a3 n3 c3, .slice a4 n4 c4]] w fun e w' => e = .returned (.agg #[.int .u8 13, .int .i64 h, .int .u8 0, .int .i64 0, .string ⟨#[]⟩, .slice none 0 0, .int .i64 0, .slice none 0 0, .int .i64 0, .int .i64 0, .int .i64 tg, .int .i64 0, .int .u8 0, .bool fu, .slice none 0 0, .slice none 0 0]) ∧ Below w.heap.size w w' := by
  go_enter Tryz.func82, Tryz.ntmps82
  go_wp2
  go_region
  all_goals go_wp2
  all_goals refine bodyPost_ret (results_What rfl _ _ _ _ _ rfl (blk_at1d _ _ _ _ rfl) rfl) rfl ⟨rfl, by go_grown⟩

set_option maxRecDepth 8000 in
theorem bare_14 (w : World) (h vn vr n l tg bi vk s : Int) (vs : ByteArray) (fu : Bool) (a1 a2 a3 a4 : Option Addr) (n1 c1 n2 c2 n3 c3 n4 c4 : Nat) :
    Calls Tryz.prog 82 #[.agg #[.int .u8 14, .int .i64 h, .int .u8 vk, .int .i64 vn, .string vs, .slice a1 n1 c1, .int .i64 vr, .slice a2 n2 c2, .int .i64 n, .int .i64 l, .int .i64 tg, .int .i64 bi, .int .u8 s, .bool fu, .slice a3 n3 c3, .slice a4 n4 c4]] w fun e w' => e = .returned (.agg #[.int .u8 14, .int .i64 0, .int .u8 0, .int .i64 0, .string ⟨#[]⟩, .slice none 0 0, .int .i64 0, .slice none 0 0, .int .i64 0, .int .i64 0, .int .i64 tg, .int .i64 0, .int .u8 s, .bool false, .slice none 0 0, .slice none 0 0]) ∧ Below w.heap.size w w' := by
  go_enter Tryz.func82, Tryz.ntmps82
  go_wp2
  refine bodyPost_ret (results_What rfl _ _ _ _ _ rfl (blk_at1 _ _ _ _ rfl) rfl) rfl ⟨rfl, by go_grown⟩

set_option maxRecDepth 8000 in
theorem bare_15 (w : World) (h vn vr n l tg bi vk s : Int) (vs : ByteArray) (fu : Bool) (a1 a2 a3 a4 : Option Addr) (n1 c1 n2 c2 n3 c3 n4 c4 : Nat) :
    Calls Tryz.prog 82 #[.agg #[.int .u8 15, .int .i64 h, .int .u8 vk, .int .i64 vn, .string vs, .slice a1 n1 c1, .int .i64 vr, .slice a2 n2 c2, .int .i64 n, .int .i64 l, .int .i64 tg, .int .i64 bi, .int .u8 s, .bool fu, .slice a3 n3 c3, .slice a4 n4 c4]] w fun e w' => e = .returned (.agg #[.int .u8 15, .int .i64 h, .int .u8 0, .int .i64 0, .string ⟨#[]⟩, .slice none 0 0, .int .i64 0, .slice none 0 0, .int .i64 0, .int .i64 0, .int .i64 tg, .int .i64 bi, .int .u8 0, .bool false, .slice none 0 0, .slice none 0 0]) ∧ Below w.heap.size w w' := by
  go_enter Tryz.func82, Tryz.ntmps82
  go_wp2
  go_region
  all_goals go_wp2
  all_goals refine bodyPost_ret (results_What rfl _ _ _ _ _ rfl (blk_at1d _ _ _ _ rfl) rfl) rfl ⟨rfl, by go_grown⟩

set_option maxRecDepth 8000 in
theorem bare_16 (w : World) (h vn vr n l tg bi vk s : Int) (vs : ByteArray) (fu : Bool) (a1 a2 a3 a4 : Option Addr) (n1 c1 n2 c2 n3 c3 n4 c4 : Nat) :
    Calls Tryz.prog 82 #[.agg #[.int .u8 16, .int .i64 h, .int .u8 vk, .int .i64 vn, .string vs, .slice a1 n1 c1, .int .i64 vr, .slice a2 n2 c2, .int .i64 n, .int .i64 l, .int .i64 tg, .int .i64 bi, .int .u8 s, .bool fu, .slice a3 n3 c3, .slice a4 n4 c4]] w fun e w' => e = .returned (.agg #[.int .u8 16, .int .i64 h, .int .u8 0, .int .i64 0, .string ⟨#[]⟩, .slice none 0 0, .int .i64 0, .slice none 0 0, .int .i64 0, .int .i64 0, .int .i64 tg, .int .i64 bi, .int .u8 0, .bool false, .slice none 0 0, .slice none 0 0]) ∧ Below w.heap.size w w' := by
  go_enter Tryz.func82, Tryz.ntmps82
  go_wp2
  go_region
  all_goals go_wp2
  all_goals refine bodyPost_ret (results_What rfl _ _ _ _ _ rfl (blk_at1d _ _ _ _ rfl) rfl) rfl ⟨rfl, by go_grown⟩

end Go.Proofs.YtmefjkggibbhoaaGreat
