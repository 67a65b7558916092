/- A part of the proof, several texts in one: PlT, Pivot. -/
import Derived.Test.YtcoiccbmcjdheaaGreatmAX
import Derived.Test.YtcoiccbmcjdheaaGreatmAY
import Derived.StillTailTactics
import Derived.StillTail
import Derived.StillTactics
import Derived.Test.YtcoiccbmcjdheaaGreatmAE
/- plain: a tally is given a number, is read. -/
namespace Go.Proofs.YtcoiccbmcjdheaaGreat
open Go.RowKit Go.ChangeMaps Go.MapKept
variable {w : World} {p : Nat} {M : WM} {F : Nat → Prop}

theorem ldW_mid {w : World} {b o : Nat} {c : Array Value} {e : TypeId} {fr : Nat × Nat} (hb : w.heap[b]? = some (.cells c e fr)) {cs : List Value} (hc : ∀ j x, cs[j]? = some x → c[o + j]? = some x) (hs : cs.length = 16) : (ldW (.pointer (some ⟨b, o, none⟩))).run Tryz.prog w = .ok (.value (.agg cs.toArray)) w := by
  have := run_loadAt_mid w b o 42 cs _ (fun j x hj => by rw [cell_blk hb]; exact hc j x hj) Tryz.underlying42 rfl (by rw [hs]; exact sizeWhat)
  simp only [ldW, Sem.run_bind, this, Result.andThen, Sem.run_pure]
theorem baseC_at {p : Nat} {r : Int} {t : Th} {j : Nat} {x : Value} (h : (thc t).toList[j]? = some x) : (baseC p r t)[2 + j]? = some x := by
  have hj : j < 16 := (List.getElem?_eq_some_iff.1 h).1
  match j, hj, h with
  | 0, _, h => exact h
  | 1, _, h => exact h
  | 2, _, h => exact h
  | 3, _, h => exact h
  | 4, _, h => exact h
  | 5, _, h => exact h
  | 6, _, h => exact h
  | 7, _, h => exact h
  | 8, _, h => exact h
  | 9, _, h => exact h
  | 10, _, h => exact h
  | 11, _, h => exact h
  | 12, _, h => exact h
  | 13, _, h => exact h
  | 14, _, h => exact h
  | 15, _, h => exact h
/-- The thing r is turned into x; block b is the call's own. -/
def LaidB (w : World) (p : Nat) (M : WM) (F : Nat → Prop) (r : Int) (x : Th) (b : Nat) (w' : World) : Prop :=
  ∃ vl' vals' F', (x.v.l = [] → vl' = .slice none 0 0) ∧ IsW w' p (M.set r { x with vl := vl', vals := vals' }) F' ∧ Keeps (fun y => F y ∨ y = b) w w' ∧ ∀ y, F' y → F y ∨ w.heap.size ≤ y
/-- The same, x being what it is to the last slice. -/
def LaidX (w : World) (p : Nat) (M : WM) (F : Nat → Prop) (r : Int) (x : Th) (b : Nat) (w' : World) : Prop :=
  ∃ F', IsW w' p (M.set r x) F' ∧ Keeps (fun y => F y ∨ y = b) w w' ∧ ∀ y, F' y → F y ∨ w.heap.size ≤ y
/-- The thing r is not turned; block b is the call's own. -/
def StayB (w : World) (p : Nat) (M : WM) (F : Nat → Prop) (b : Nat) (w' : World) : Prop := IsW w' p M F ∧ Keeps (fun y => y = b) w w'

set_option maxHeartbeats 4000000 in
set_option maxRecDepth 20000 in
theorem tyGive_W (hW : IsW w p M F) {r : Int} (hr : (Lit.int .i64 r).wf = true) {h n m : Int} (ht : M.at r = some (lt 3 h 0 0 n 0 0 0 0 false)) {b : Nat} (hb : w.heap[b]? = some (.cells (baseC p r (lt 3 h 0 0 n 0 0 0 0 false)) 131 (0, 0))) (hbF : ¬ F b)
    (hh : sideB M h = true) (hn : 0 ≤ n) (hm : 0 ≤ m) (hmn : n + m ≤ 9007199254740992) :
    Calls Tryz.prog 147 #[.pointer (some ⟨b, 0, none⟩), .agg #[.int .u8 1, .int .i64 m, .string ⟨#[]⟩, .slice none 0 0, .int .i64 0]] w fun e w' => e = .returned (.tuple #[.agg zV, .int .i64 0]) ∧ LaidX w p M F r (lt 3 h 0 0 (n + m) 0 0 0 0 false) b w' := by
  have c10' : w.cell? ⟨b, 10, none⟩ = some (.int .i64 n) := by rw [cell_blk hb]; rfl
  have h1 : ¬ m < 0 := by omega
  have h2 : ¬ m > 9007199254740992 - n := by omega
  have hw1 : wrap64 (9007199254740992 - n) = 9007199254740992 - n := by unfold wrap64; omega
  have hw2 : wrap64 (n + m) = n + m := by unfold wrap64; omega
  have hlt := blk_lt hb
  go_enter Tryz.func147, Tryz.ntmps147
  go_wp2_with fail
  go_region
  clear c10'
  go_wp2_with fail
  have HX : Hid (Below w.heap.size w ((w.alloc (.cells #[.int .u8 1, .int .i64 m, .string ⟨#[]⟩, .slice none 0 0, .int .i64 0] 34)).alloc (.cells #[.int .u8 0, .int .i64 0, .string ⟨#[]⟩, .slice none 0 0, .int .i64 0] 34)).drew ∧
      ((w.alloc (.cells #[.int .u8 1, .int .i64 m, .string ⟨#[]⟩, .slice none 0 0, .int .i64 0] 34)).alloc (.cells #[.int .u8 0, .int .i64 0, .string ⟨#[]⟩, .slice none 0 0, .int .i64 0] 34)).drew.heap[w.heap.size]? = some (.cells #[.int .u8 1, .int .i64 m, .string ⟨#[]⟩, .slice none 0 0, .int .i64 0] 34 (0, 0)) ∧
      ((w.alloc (.cells #[.int .u8 1, .int .i64 m, .string ⟨#[]⟩, .slice none 0 0, .int .i64 0] 34)).alloc (.cells #[.int .u8 0, .int .i64 0, .string ⟨#[]⟩, .slice none 0 0, .int .i64 0] 34)).drew.heap[w.heap.size + 1]? = some (.cells zV 34 (0, 0))) :=
    ⟨(((Below.refl _ _).alloc (Nat.le_refl _) _).alloc (by simp) _).drew, blk2_old _ _ _, blk2_new _ _ _⟩
  revert HX
  generalize World.drew _ = w2
  intro HX
  have hb2 := (HX.out.1.block b hlt).trans hb
  have c10 : w2.cell? ⟨b, 10, none⟩ = some (.int .i64 n) := by rw [cell_blk hb2]; rfl
  have f10 := frozen_blk hb2 10
  have d1 : w2.cell? ⟨w.heap.size, 1, none⟩ = some (.int .i64 m) := by rw [cell_blk HX.out.2.1]; rfl
  go_still_tail 13, (by kernel_rfl)
  change wpList _ _ _ _ _ w2.drew
  go_wp2_with fail
  have H3 : Hid (Below w.heap.size w2 w2) := Below.refl _ _
  have hb3 : (w2.setCell ⟨b, 10, none⟩ (.int .i64 (n + m))).drew.heap[b]? = some (.cells (baseC p r (lt 3 h 0 0 (n + m) 0 0 0 0 false)) 131 (0, 0)) := by
    have := blk_setCell hb2 10 (.int .i64 (n + m))
    exact this
  have hk3 : Keeps (fun y => y = b) w (w2.setCell ⟨b, 10, none⟩ (.int .i64 (n + m))).drew := (Below.keeps HX.out.1 (Keeps.setCell (S := fun y => y = b) w2 ⟨b, 10, none⟩ _ rfl)).drew
  have hr3 : (w2.setCell ⟨b, 10, none⟩ (.int .i64 (n + m))).drew.heap[w.heap.size + 1]? = some (.cells zV 34 (0, 0)) := blk_other HX.out.2.2 ⟨b, 10, none⟩ _ (by simp; omega)
  revert hb3 hk3 hr3
  generalize World.drew _ = w3
  intro hb3 hk3 hr3
  have c0 : w3.drew.cell? ⟨b, 0, none⟩ = some (.pointer (some ⟨p, 0, none⟩)) := by rw [cell_blk (blk_drew hb3)]; rfl
  have c1 : w3.drew.cell? ⟨b, 1, none⟩ = some (.int .i64 r) := by rw [cell_blk (blk_drew hb3)]; rfl
  have ldx : (ldW (.pointer (some ⟨b, 2, none⟩))).run Tryz.prog w3.drew = .ok (.value (.agg #[.int .u8 3, .int .i64 h, .int .u8 0, .int .i64 0, .string ⟨#[]⟩, .slice none 0 0, .int .i64 0, .slice none 0 0, .int .i64 (n + m), .int .i64 0, .int .i64 0, .int .i64 0, .int .u8 0, .bool false, .slice none 0 0, .slice none 0 0])) w3.drew := ldW_mid (blk_drew hb3) (cs := #[.int .u8 3, .int .i64 h, .int .u8 0, .int .i64 0, .string ⟨#[]⟩, .slice none 0 0, .int .i64 0, .slice none 0 0, .int .i64 (n + m), .int .i64 0, .int .i64 0, .int .i64 0, .int .u8 0, .bool false, .slice none 0 0, .slice none 0 0].toList) (by intro j x hj; exact baseC_at hj) rfl
  have hW3 : IsW w3.drew p M F := hW.keeps hk3.drew (fun y hy e => hbF (e ▸ hy))
  have HL : Hid (Calls Tryz.prog 137 #[.pointer (some ⟨p, 0, none⟩), .int .i64 r, .agg #[.int .u8 3, .int .i64 h, .int .u8 0, .int .i64 0, .string ⟨#[]⟩, .slice none 0 0, .int .i64 0, .slice none 0 0, .int .i64 (n + m), .int .i64 0, .int .i64 0, .int .i64 0, .int .u8 0, .bool false, .slice none 0 0, .slice none 0 0]] w3.drew fun e w' => e = .returned (.int .i64 0) ∧ IsW w' p (M.set r (lt 3 h 0 0 (n + m) 0 0 0 0 false)) F ∧ Keeps F w3.drew w') :=
    Lay_lt hW3 hr ht (.inl ⟨rfl, rfl⟩) (fun w' hW' => form_3 hW' h (n + m) hh ⟨by omega, hmn⟩)
  have HK := (show Hid _ from And.intro hk3 (And.intro hr3 hlt))
  have HbF : Hid (∀ y, F y → y < w.heap.size) := hW.lt
  refine wp_region_turnK (z := _) 16 [0] (fun i => match i with | 0 => .agg zV | 1 => .pointer (some ⟨b, 0, none⟩) | 2 => .pointer (some ⟨b, 0, none⟩) | 3 => .pointer (some ⟨b, 0, none⟩) | 4 => .pointer (some ⟨b, 0, none⟩) | 5 => .pointer (some ⟨p, 0, none⟩) | 6 => .pointer (some ⟨b, 0, none⟩) | 7 => .pointer (some ⟨b, 0, none⟩) | 8 => .pointer (some ⟨b, 0, none⟩) | 9 => .pointer (some ⟨b, 1, none⟩) | 10 => .int .i64 r | 11 => .pointer (some ⟨b, 0, none⟩) | 12 => .pointer (some ⟨b, 0, none⟩) | 13 => .pointer (some ⟨b, 0, none⟩) | 14 => .pointer (some ⟨b, 2, none⟩) | 15 => .agg #[.int .u8 3, .int .i64 h, .int .u8 0, .int .i64 0, .string ⟨#[]⟩, .slice none 0 0, .int .i64 0, .slice none 0 0, .int .i64 (n + m), .int .i64 0, .int .i64 0, .int .i64 0, .int .u8 0, .bool false, .slice none 0 0, .slice none 0 0] | _ => undef) (fun v w' => v = .int .i64 0 ∧ (IsW w' p (M.set r (lt 3 h 0 0 (n + m) 0 0 0 0 false)) F ∧ Keeps F w3.drew w')) (by kernel_rfl) rfl (by kernel_rfl) rfl (by kernel_rfl) (by kernel_rfl) ?_ ?_ ?_
  · intro i q a w7 hq hw hdep hfr
    have hj : i < 16 := (List.getElem?_eq_some_iff.1 hq).1
    match i, hj with
    | 0, _ =>
      cases hq
      clear hw hdep hfr
      simp [go_sem, zV]
    | 1, _ =>
      cases hq
      have hw : w7 = w3.drew := by simpa using hw
      subst hw
      have h0 : a.tmps.getD 0 undef = .pointer (some ⟨b, 0, none⟩) := hfr 0 (by simp)
      have h0' : a.tmps[0]?.getD undef = .pointer (some ⟨b, 0, none⟩) := by rw [← h0]; simp [Array.getD_eq_getD_getElem?]
      clear hdep hfr
      simp [go_sem, Act.eval, h0']
    | 2, _ =>
      cases hq
      have hw : w7 = w3.drew := by simpa using hw
      subst hw
      have h0 : a.tmps.getD 42 undef = .pointer (some ⟨b, 0, none⟩) := hdep ⟨1, .data⟩ (by simp) rfl _ rfl
      have h0' : a.tmps[42]?.getD undef = .pointer (some ⟨b, 0, none⟩) := by rw [← h0]; simp [Array.getD_eq_getD_getElem?]
      clear hdep hfr
      simp [go_sem, Act.eval, h0']
    | 3, _ =>
      cases hq
      have hw : w7 = w3.drew := by simpa using hw
      subst hw
      have h0 : a.tmps.getD 43 undef = .pointer (some ⟨b, 0, none⟩) := hdep ⟨2, .data⟩ (by simp) rfl _ rfl
      have h0' : a.tmps[43]?.getD undef = .pointer (some ⟨b, 0, none⟩) := by rw [← h0]; simp [Array.getD_eq_getD_getElem?]
      clear hdep hfr
      simp [go_sem, Act.eval, h0']
    | 4, _ =>
      cases hq
      have hw : w7 = w3.drew := by simpa using hw
      subst hw
      have h0 : a.tmps.getD 44 undef = .pointer (some ⟨b, 0, none⟩) := hdep ⟨3, .data⟩ (by simp) rfl _ rfl
      have h0' : a.tmps[44]?.getD undef = .pointer (some ⟨b, 0, none⟩) := by rw [← h0]; simp [Array.getD_eq_getD_getElem?]
      clear hdep hfr
      simp [go_sem, Act.eval, h0']
    | 5, _ =>
      cases hq
      have hw : w7 = w3.drew := by simpa using hw
      subst hw
      have h0 : a.tmps.getD 45 undef = .pointer (some ⟨b, 0, none⟩) := hdep ⟨4, .data⟩ (by simp) rfl _ rfl
      have h0' : a.tmps[45]?.getD undef = .pointer (some ⟨b, 0, none⟩) := by rw [← h0]; simp [Array.getD_eq_getD_getElem?]
      clear hdep hfr
      simp [go_sem, Act.eval, h0', c0]
    | 6, _ =>
      cases hq
      have hw : w7 = w3.drew := by simpa using hw
      subst hw
      have h0 : a.tmps.getD 0 undef = .pointer (some ⟨b, 0, none⟩) := hfr 0 (by simp)
      have h0' : a.tmps[0]?.getD undef = .pointer (some ⟨b, 0, none⟩) := by rw [← h0]; simp [Array.getD_eq_getD_getElem?]
      clear hdep hfr
      simp [go_sem, Act.eval, h0']
    | 7, _ =>
      cases hq
      have hw : w7 = w3.drew := by simpa using hw
      subst hw
      have h0 : a.tmps.getD 47 undef = .pointer (some ⟨b, 0, none⟩) := hdep ⟨6, .data⟩ (by simp) rfl _ rfl
      have h0' : a.tmps[47]?.getD undef = .pointer (some ⟨b, 0, none⟩) := by rw [← h0]; simp [Array.getD_eq_getD_getElem?]
      clear hdep hfr
      simp [go_sem, Act.eval, h0']
    | 8, _ =>
      cases hq
      have hw : w7 = w3.drew := by simpa using hw
      subst hw
      have h0 : a.tmps.getD 48 undef = .pointer (some ⟨b, 0, none⟩) := hdep ⟨7, .data⟩ (by simp) rfl _ rfl
      have h0' : a.tmps[48]?.getD undef = .pointer (some ⟨b, 0, none⟩) := by rw [← h0]; simp [Array.getD_eq_getD_getElem?]
      clear hdep hfr
      simp [go_sem, Act.eval, h0']
    | 9, _ =>
      cases hq
      have hw : w7 = w3.drew := by simpa using hw
      subst hw
      have h0 : a.tmps.getD 49 undef = .pointer (some ⟨b, 0, none⟩) := hdep ⟨8, .data⟩ (by simp) rfl _ rfl
      have h0' : a.tmps[49]?.getD undef = .pointer (some ⟨b, 0, none⟩) := by rw [← h0]; simp [Array.getD_eq_getD_getElem?]
      clear hdep hfr
      simp [go_sem, Act.eval, h0']
    | 10, _ =>
      cases hq
      have hw : w7 = w3.drew := by simpa using hw
      subst hw
      have h0 : a.tmps.getD 50 undef = .pointer (some ⟨b, 1, none⟩) := hdep ⟨9, .data⟩ (by simp) rfl _ rfl
      have h0' : a.tmps[50]?.getD undef = .pointer (some ⟨b, 1, none⟩) := by rw [← h0]; simp [Array.getD_eq_getD_getElem?]
      clear hdep hfr
      simp [go_sem, Act.eval, h0', c1]
    | 11, _ =>
      cases hq
      have hw : w7 = w3.drew := by simpa using hw
      subst hw
      have h0 : a.tmps.getD 0 undef = .pointer (some ⟨b, 0, none⟩) := hfr 0 (by simp)
      have h0' : a.tmps[0]?.getD undef = .pointer (some ⟨b, 0, none⟩) := by rw [← h0]; simp [Array.getD_eq_getD_getElem?]
      clear hdep hfr
      simp [go_sem, Act.eval, h0']
    | 12, _ =>
      cases hq
      have hw : w7 = w3.drew := by simpa using hw
      subst hw
      have h0 : a.tmps.getD 52 undef = .pointer (some ⟨b, 0, none⟩) := hdep ⟨11, .data⟩ (by simp) rfl _ rfl
      have h0' : a.tmps[52]?.getD undef = .pointer (some ⟨b, 0, none⟩) := by rw [← h0]; simp [Array.getD_eq_getD_getElem?]
      clear hdep hfr
      simp [go_sem, Act.eval, h0']
    | 13, _ =>
      cases hq
      have hw : w7 = w3.drew := by simpa using hw
      subst hw
      have h0 : a.tmps.getD 53 undef = .pointer (some ⟨b, 0, none⟩) := hdep ⟨12, .data⟩ (by simp) rfl _ rfl
      have h0' : a.tmps[53]?.getD undef = .pointer (some ⟨b, 0, none⟩) := by rw [← h0]; simp [Array.getD_eq_getD_getElem?]
      clear hdep hfr
      simp [go_sem, Act.eval, h0']
    | 14, _ =>
      cases hq
      have hw : w7 = w3.drew := by simpa using hw
      subst hw
      have h0 : a.tmps.getD 54 undef = .pointer (some ⟨b, 0, none⟩) := hdep ⟨13, .data⟩ (by simp) rfl _ rfl
      have h0' : a.tmps[54]?.getD undef = .pointer (some ⟨b, 0, none⟩) := by rw [← h0]; simp [Array.getD_eq_getD_getElem?]
      clear hdep hfr
      simp [go_sem, Act.eval, h0']
    | 15, _ =>
      cases hq
      have hw : w7 = w3.drew := by simpa using hw
      subst hw
      have h0 : a.tmps.getD 55 undef = .pointer (some ⟨b, 2, none⟩) := hdep ⟨14, .data⟩ (by simp) rfl _ rfl
      have h0' : a.tmps[55]?.getD undef = .pointer (some ⟨b, 2, none⟩) := by rw [← h0]; simp [Array.getD_eq_getD_getElem?]
      clear hdep hfr
      rw [execOp_ldW]
      show (ldW (a.tmps.getD 55 undef)).run _ _ = _
      rw [h0]
      exact ldx
  · intro a hdep hfr
    have g0 : a.tmps.getD 46 undef = .pointer (some ⟨p, 0, none⟩) := hdep ⟨5, .data⟩ (by simp) rfl _ rfl
    have g0' : a.tmps[46]?.getD undef = .pointer (some ⟨p, 0, none⟩) := by rw [← g0]; simp [Array.getD_eq_getD_getElem?]
    have g1 : a.tmps.getD 51 undef = .int .i64 r := hdep ⟨10, .data⟩ (by simp) rfl _ rfl
    have g1' : a.tmps[51]?.getD undef = .int .i64 r := by rw [← g1]; simp [Array.getD_eq_getD_getElem?]
    have g2 : a.tmps.getD 56 undef = .agg #[.int .u8 3, .int .i64 h, .int .u8 0, .int .i64 0, .string ⟨#[]⟩, .slice none 0 0, .int .i64 0, .slice none 0 0, .int .i64 (n + m), .int .i64 0, .int .i64 0, .int .i64 0, .int .u8 0, .bool false, .slice none 0 0, .slice none 0 0] := hdep ⟨15, .data⟩ (by simp) rfl _ rfl
    have g2' : a.tmps[56]?.getD undef = .agg #[.int .u8 3, .int .i64 h, .int .u8 0, .int .i64 0, .string ⟨#[]⟩, .slice none 0 0, .int .i64 0, .slice none 0 0, .int .i64 (n + m), .int .i64 0, .int .i64 0, .int .i64 0, .int .u8 0, .bool false, .slice none 0 0, .slice none 0 0] := by rw [← g2]; simp [Array.getD_eq_getD_getElem?]
    clear hdep hfr
    unfold Oper.wp
    simp [go_sem, callFunc, Act.eval, Tryz.func137, g0', g1', g2']
    refine Calls.mono HL.out ?_
    rintro e w5 ⟨rfl, hl⟩
    exact ⟨_, rfl, rfl, hl⟩
  · intro a w5 v hP hdf hsz hfr hval hv
    obtain ⟨rfl, hl⟩ := hP
    have e0 : a.tmps.getD 41 undef = .agg zV := hval 0 _ rfl
    have e1 : a.tmps.getD 42 undef = .pointer (some ⟨b, 0, none⟩) := hval 1 _ rfl
    have e2 : a.tmps.getD 43 undef = .pointer (some ⟨b, 0, none⟩) := hval 2 _ rfl
    have e3 : a.tmps.getD 44 undef = .pointer (some ⟨b, 0, none⟩) := hval 3 _ rfl
    have e4 : a.tmps.getD 45 undef = .pointer (some ⟨b, 0, none⟩) := hval 4 _ rfl
    have e5 : a.tmps.getD 46 undef = .pointer (some ⟨p, 0, none⟩) := hval 5 _ rfl
    have e6 : a.tmps.getD 47 undef = .pointer (some ⟨b, 0, none⟩) := hval 6 _ rfl
    have e7 : a.tmps.getD 48 undef = .pointer (some ⟨b, 0, none⟩) := hval 7 _ rfl
    have e8 : a.tmps.getD 49 undef = .pointer (some ⟨b, 0, none⟩) := hval 8 _ rfl
    have e9 : a.tmps.getD 50 undef = .pointer (some ⟨b, 1, none⟩) := hval 9 _ rfl
    have e10 : a.tmps.getD 51 undef = .int .i64 r := hval 10 _ rfl
    have e11 : a.tmps.getD 52 undef = .pointer (some ⟨b, 0, none⟩) := hval 11 _ rfl
    have e12 : a.tmps.getD 53 undef = .pointer (some ⟨b, 0, none⟩) := hval 12 _ rfl
    have e13 : a.tmps.getD 54 undef = .pointer (some ⟨b, 0, none⟩) := hval 13 _ rfl
    have e14 : a.tmps.getD 55 undef = .pointer (some ⟨b, 2, none⟩) := hval 14 _ rfl
    have e15 : a.tmps.getD 56 undef = .agg #[.int .u8 3, .int .i64 h, .int .u8 0, .int .i64 0, .string ⟨#[]⟩, .slice none 0 0, .int .i64 0, .slice none 0 0, .int .i64 (n + m), .int .i64 0, .int .i64 0, .int .i64 0, .int .u8 0, .bool false, .slice none 0 0, .slice none 0 0] := hval 15 _ rfl
    have ha := act_of hdf hsz hfr
    simp only [List.take_succ_cons, List.take_zero, List.cons_append, List.nil_append, List.filterMap_cons, List.filterMap_nil, List.foldl_cons, List.foldl_nil, List.setIfInBounds_toArray, List.set_cons_zero, List.set_cons_succ, e0, e1, e2, e3, e4, e5, e6, e7, e8, e9, e10, e11, e12, e13, e14, e15, hv] at ha
    clear hdf hsz hfr hval hv e0 e1 e2 e3 e4 e5 e6 e7 e8 e9 e10 e11 e12 e13 e14 e15
    subst ha
    have hr5 : w5.heap[w.heap.size + 1]? = some (.cells zV 34 (0, 0)) := (hl.2.block _ (blk_lt (blk_drew HK.out.2.1)) (fun e => by have := HbF.out _ e; omega)).trans (blk_drew HK.out.2.1)
    have hst : (stV (.pointer (some ⟨w.heap.size + 1, 0, none⟩)) (.agg zV)).run Tryz.prog w5 = .ok .skip w5 := stV_same hr5 rfl (by simp [zV]) (by simp [zV, go_sem]) (by simp [zV])
    have HE : Hid (LaidX w p M F r (lt 3 h 0 0 (n + m) 0 0 0 0 false) b w5) :=
      ⟨F, hl.1, (HK.out.1.drew).trans hl.2 (fun _ _ h => .inr h) (fun _ _ h => .inl h), fun _ h => .inl h⟩
    obtain ⟨⟨r0, r1, r2, r3, r4⟩, -⟩ := cells5 hr5
    clear hl hr5 c0 c1 ldx hW3 HL HK hb3 hk3 hr3 hb2 HX
    unfold wpTail Oper.wp
    rw [execOp_stV]
    simp [go_sem, Act.eval, hst]
    unfold wpTail Oper.wp
    simp [execOp, go_sem, Act.eval, wpTail]
    refine ‹∀ (a : Act) (w : World), Code.wp Tryz.prog _ _ a w → _› _ _ ?_
    go_wp2_with fail
    refine bodyPost_ret (v := .tuple #[.agg zV, .int .i64 0]) (by simp [results, Tryz.results147, go_sem, r0, r1, r2, r3, r4, zV]) rfl ⟨rfl, HE.out⟩

set_option maxRecDepth 8000 in
theorem tyGive_arg (w : World) (b : Nat) (m : Int) (hm : m < 0) : Calls Tryz.prog 147 #[.pointer (some ⟨b, 0, none⟩), .agg #[.int .u8 1, .int .i64 m, .string ⟨#[]⟩, .slice none 0 0, .int .i64 0]] w fun e w' => e = .returned (.tuple #[.agg zV, .int .i64 2]) ∧ Below w.heap.size w w' := by
  go_enter Tryz.func147, Tryz.ntmps147
  go_wp2
  go_returns
  exact ⟨rfl, by go_grown⟩
set_option maxRecDepth 8000 in
theorem tyGive_lim {b : Nat} {r : Int} {t : Th} (hb : w.heap[b]? = some (.cells (baseC p r t) 131 (0, 0))) (h0 : 0 ≤ t.n ∧ t.n ≤ 9007199254740992) {m : Int} (hm : 9007199254740992 - t.n < m) : Calls Tryz.prog 147 #[.pointer (some ⟨b, 0, none⟩), .agg #[.int .u8 1, .int .i64 m, .string ⟨#[]⟩, .slice none 0 0, .int .i64 0]] w fun e w' => e = .returned (.tuple #[.agg zV, .int .i64 8]) ∧ Below w.heap.size w w' := by
  have c10 : w.cell? ⟨b, 10, none⟩ = some (.int .i64 t.n) := by rw [cell_blk hb]; rfl
  have h1 : ¬ m < 0 := by omega
  have h2 : m > 9007199254740992 - t.n := hm
  have hw1 : wrap64 (9007199254740992 - t.n) = 9007199254740992 - t.n := by unfold wrap64; omega
  have hlt := blk_lt hb
  go_enter Tryz.func147, Tryz.ntmps147
  go_wp2_with fail
  go_region
  go_wp2_with fail
  go_returns
  exact ⟨rfl, by go_grown⟩
end Go.Proofs.YtcoiccbmcjdheaaGreat
/- A region that draws its order: a head that only reads, then one operation that all else waits for or is waited for by, then a tail that only reads: one walk, in the text's order. -/
namespace Go.Proofs.YtcoiccbmcjdheaaGreat
open Go.RowKit

section
variable {P : Program} {ops : Array Oper} {Q : Exit → Act → World → Prop} {n : Nat} {w : World}

/-- Behind the pivot. -/
def Piv (P : Program) (ops : Array Oper) (Q : Exit → Act → World → Prop) (tail : List Oper) : Exit → Act → World → Prop
  | .normal, a, w => wpStill P ops w (fun a' => Q .normal a' w) tail a
  | x, a, w => Q x a w
theorem piv_lets {tail : List Oper} (h : LetsOut (Piv P ops Q tail)) : LetsOut Q := by
  obtain ⟨a, w, h⟩ := h
  exact ⟨a, w, h⟩
theorem piv_wp {tail : List Oper} {o : Oper} {a : Act} {K : Act → World → Prop} (hh : o.wp P a w K (Piv P ops Q tail)) : o.wp P a w K Q := by
  unfold Oper.wp at *
  generalize (execOp a.eval o).run P w = r at *
  cases r with
  | ok m w' =>
    cases m <;> simp only [Oper.upon] at hh ⊢ <;>
      first
        | exact hh
        | exact Calls.mono hh (fun e w'' he => by cases e <;> first | exact he | exact piv_lets he)
  | halt x w' => cases x <;> simp only [Oper.upon] at hh ⊢ <;> exact hh

/-- What is asked of the region's edges. -/
structure Pivots (ops ops' : Array Oper) (n : Nat) : Prop where
  lt : n < ops.size
  sz : ops'.size = n
  same : ∀ i, i < n → ops'[i]? = ops[i]?
  edge : ∀ i o, i < n → ops[i]? = some o → ∀ e ∈ o.after, e.on < i
  guard : ∀ i o g b, i < n → ops[i]? = some o → o.guard = some (g, b) → g < i
  sink : ∀ i, i < n → ∃ j, i < j ∧ j ≤ n ∧ Region.waitsFor .any ops j i = true
  tail : ∀ t, n < t → t < ops.size → ∃ j, n ≤ j ∧ j < t ∧ Region.waitsFor .any ops t j = true

theorem Pivots.far {ops' : Array Oper} (p : Pivots ops ops' n) {L : Array Bool} (inv : HeadInv .any ops n L) : ∀ (d i : Nat), n - i = d → i < n → L.getD i true = false → ∀ t, n ≤ t → t ∉ Region.ready .any ops L := by
  intro d
  induction d using Nat.strongRecOn with
  | _ d ih =>
    intro i hd hi hun t ht hr
    obtain ⟨-, ot, hot, hall⟩ := mem_ready.1 hr
    have htl : t < ops.size := (Array.getElem?_eq_some_iff.1 hot).1
    have bad : ∀ j, L.getD j true = false → Region.waitsFor .any ops t j = true → False := fun j hj hw => by
      obtain ⟨o', ho', e, he, hb, hon⟩ := Region.waitsFor_spec hw
      rw [hot] at ho'
      cases ho'
      have := hall e he hb
      rw [hon, getD_both hj] at this
      cases this
    rcases Nat.lt_or_ge n t with h | h
    · obtain ⟨j, h1, h2, h3⟩ := p.tail t h htl
      exact bad j (inv.tail j h1 (by omega)) h3
    · obtain ⟨j, h1, h2, h3⟩ := p.sink i hi
      rcases Nat.lt_or_ge j n with h4 | h4
      · cases hl : L.getD j false with
        | true =>
          obtain ⟨o', ho', e, he, hb, hon⟩ := Region.waitsFor_spec h3
          have := inv.closed j o' ho' hl e he hb
          rw [hon, getD_both hun] at this
          cases this
        | false => exact ih (n - j) (by omega) j rfl h4 (getD_in (by rw [inv.size]; have := p.lt; omega) hl) t ht hr
      · have : j = t := by omega
        subst this
        exact bad i hun h3

theorem getD_dflt {L : Array Bool} {i : Nat} (h : i < L.size) (c d : Bool) : L.getD i c = L.getD i d := by simp [Array.getD, h]

theorem Pivots.head {ops' : Array Oper} (p : Pivots ops ops' n) {G : Act → Prop} {g : Nat}
    (hG : ∀ (L : Array Bool) (a : Act), HeadInv .any ops n L → (∀ i, i < n → L.getD i true = true) → G a → wpAny P .any ops Q g L a w) :
    ∀ (f : Nat) (L L' : Array Bool) (a : Act), HeadInv .any ops n L → L'.size = n → (∀ i, i < n → L.getD i true = L'.getD i true) → L'.toList.count false = f →
      wpAnyS P .any ops' w G f L' a → wpAny P .any ops Q (f + g) L a w
  | 0, L, L', a, inv, hs, hL, hc, h => by
    rw [Nat.zero_add]
    refine hG L a inv (fun i hi => ?_) h.2
    rw [hL i hi]
    exact ready_of_none L' (by rw [hs, p.sz]) (fun i o ho e he => by
      have hi : i < n := by have := (Array.getElem?_eq_some_iff.1 ho).1; rw [p.sz] at this; exact this
      exact p.edge i o hi (by rw [← p.same i hi]; exact ho) e he) h.1 i (by rw [p.sz]; exact hi)
  | f + 1, L, L', a, inv, hs, hL, hc, h => by
    have hsz := inv.size
    have hlt := p.lt
    have old : ∀ i, i < n → L'.getD i false = L.getD i false := fun i hi => by
      rw [getD_dflt (L := L') (by omega) false true, ← hL i hi, getD_dflt (by omega) true false]
    have up : ∀ i, i < n → (i ∈ Region.ready .any ops' L' ↔ i ∈ Region.ready .any ops L) := fun i hi => by
      rw [mem_ready, mem_ready, p.same i hi, hL i hi]
      constructor
      · rintro ⟨h1, o, ho, h2⟩
        exact ⟨h1, o, ho, fun e he hb => by rw [← old _ (by have := p.edge i o hi ho e he; omega)]; exact h2 e he hb⟩
      · rintro ⟨h1, o, ho, h2⟩
        exact ⟨h1, o, ho, fun e he hb => by rw [old _ (by have := p.edge i o hi ho e he; omega)]; exact h2 e he hb⟩
    obtain ⟨i0, hi0, hun0⟩ : ∃ i, i < n ∧ L'.getD i true = false := by
      have : false ∈ L'.toList := List.count_pos_iff.1 (by omega)
      obtain ⟨i, hi, he⟩ := List.getElem_of_mem this
      have hi' : i < L'.size := by simpa using hi
      exact ⟨i, by omega, by simp [Array.getD, hi']; simpa using he⟩
    have far := p.far inv _ i0 rfl hi0 (by rw [hL i0 hi0]; exact hun0)
    rw [show f + 1 + g = (f + g) + 1 by omega]
    refine ⟨fun h0 => ?_, fun i hi => ?_⟩
    · exfalso
      have hr : Region.ready .any ops' L' = [] := by
        rw [List.eq_nil_iff_forall_not_mem]
        intro i hi
        have hin : i < n := by
          obtain ⟨-, o, ho, -⟩ := mem_ready.1 hi
          have := (Array.getElem?_eq_some_iff.1 ho).1
          rw [p.sz] at this
          exact this
        have := (up i hin).1 hi
        rw [h0] at this
        cases this
      have := ready_of_none L' (by rw [hs, p.sz]) (fun i o ho e he => by
        have hi : i < n := by have := (Array.getElem?_eq_some_iff.1 ho).1; rw [p.sz] at this; exact this
        exact p.edge i o hi (by rw [← p.same i hi]; exact ho) e he) hr i0 (by rw [p.sz]; exact hi0)
      rw [this] at hun0
      cases hun0
    · have hin : i < n := by
        rcases Nat.lt_or_ge i n with h1 | h1
        · exact h1
        · exact absurd hi (far i h1)
      have hi' := (up i hin).2 hi
      have hst := h.2 i hi'
      have hun : L'.getD i true = false := (mem_ready.1 hi').1
      have hLi : i < L'.size := by omega
      have hcnt := count_set_true (l := L'.toList) (i := i) (by simpa using hLi) (by simpa [Array.getD, hLi] using hun)
      have hst' : stOp P ops w i (wpAnyS P .any ops' w G f (L'.setIfInBounds i true)) a := by
        unfold stOp at hst ⊢
        rw [p.same i hin] at hst
        cases ho : ops[i]? with
        | none => rw [ho] at hst; exact hst
        | some o =>
          rw [ho] at hst
          simp only at hst ⊢
          have hw : Region.wanted o (yielded ops' a.tmps) = Region.wanted o (yielded ops a.tmps) := by
            cases hg : o.guard with
            | none => simp [Region.wanted, hg]
            | some gb =>
              obtain ⟨q, b⟩ := gb
              have := p.guard i o q b hin ho hg
              simp [Region.wanted, hg, yielded, p.same q (by omega)]
          rw [← hw]
          exact hst
      refine wpOp_of_stOp (fun a' h' => p.head hG f _ (L'.setIfInBounds i true) a' (inv.set hi hin) (by simpa using hs) (fun j hj => ?_) (by rw [Array.toList_setIfInBounds]; omega) h') hst'
      by_cases hji : j = i
      · subst hji
        have h1 : j < L.size := by omega
        have h2 : j < L'.size := by omega
        simp [Array.getD, h1, h2]
      · rw [getD_set_ne true (Ne.symm hji), getD_set_ne true (Ne.symm hji)]
        exact hL j hj

/-- The edges, by a Boolean. -/
def pivotB (ops : Array Oper) (n : Nat) : Bool :=
  decide (n < ops.size) && Region.noSelect ops && Region.noSelect (ops.extract 0 n) && Region.sinkB .any ops n &&
  ((List.range n).all fun i => (ops[i]?).all fun o => (o.after.all fun e => decide (e.on < i)) && o.guard.all fun g => decide (g.1 < i)) &&
  ((List.range ops.size).all fun t => decide (t ≤ n) || (List.range t).any fun j => decide (n ≤ j) && Region.waitsFor .any ops t j) &&
  Region.lexFrom .any (ops.extract 0 n) n 0 (Array.replicate n false) &&
  decide (Region.ready .any ops (Array.replicate n true ++ Array.replicate (ops.size - n) false) = [n]) &&
  Region.lexFrom .any ops (ops.size - n - 1) (n + 1) ((Array.replicate n true ++ Array.replicate (ops.size - n) false).setIfInBounds n true)

theorem pivots_of (h : pivotB ops n = true) : Pivots ops (ops.extract 0 n) n := by
  simp only [pivotB, Bool.and_eq_true, decide_eq_true_eq] at h
  obtain ⟨⟨⟨⟨⟨⟨⟨⟨h1, -⟩, -⟩, h2⟩, h3⟩, h4⟩, -⟩, -⟩, -⟩ := h
  have h3' : ∀ i o, i < n → ops[i]? = some o → (∀ e ∈ o.after, e.on < i) ∧ ∀ g b, o.guard = some (g, b) → g < i := fun i o hi ho => by
    have := List.all_eq_true.1 h3 i (List.mem_range.2 hi)
    rw [ho] at this
    simp only [Option.all_some, Bool.and_eq_true, Array.all_eq_true_iff_forall_mem, decide_eq_true_eq] at this
    exact ⟨this.1, fun g b hg => by have := this.2; rw [hg] at this; simpa using this⟩
  exact {
    lt := h1
    sz := by simp; omega
    same := fun i hi => by rw [Array.getElem?_extract]; simp; omega
    edge := fun i o hi ho => (h3' i o hi ho).1
    guard := fun i o g b hi ho hg => (h3' i o hi ho).2 g b hg
    sink := fun i hi => by
      have := List.all_eq_true.1 h2 i (List.mem_range.2 hi)
      obtain ⟨j, hj, hj2⟩ := List.any_eq_true.1 this
      simp only [Bool.and_eq_true, decide_eq_true_eq] at hj2
      exact ⟨j, hj2.1, by have := List.mem_range.1 hj; omega, hj2.2⟩
    tail := fun t h5 h6 => by
      have := List.all_eq_true.1 h4 t (List.mem_range.2 h6)
      simp only [Bool.or_eq_true, decide_eq_true_eq] at this
      rcases this with h | h
      · omega
      · obtain ⟨j, hj, hj2⟩ := List.any_eq_true.1 h
        simp only [Bool.and_eq_true, decide_eq_true_eq] at hj2
        exact ⟨j, hj2.1, List.mem_range.1 hj, hj2.2⟩ }

theorem still_ops {ops' : Array Oper} {G : Act → Prop} : ∀ (l : List Oper) (a : Act), (∀ o ∈ l, ∀ (t : Array Value), Region.wanted o (yielded ops' t) = Region.wanted o (yielded ops t)) → wpStill P ops w G l a → wpStill P ops' w G l a
  | [], a, _, h => h
  | o :: l, a, hw, h => by
    unfold wpStill at h ⊢
    rw [hw o (by simp) a.tmps]
    split
    · rename_i hx
      rw [if_pos hx] at h
      exact Oper.still_mono (fun a' h' => still_ops l a' (fun o' ho' => hw o' (by simp [ho'])) h') h
    · rename_i hx
      rw [if_neg hx] at h
      exact still_ops l _ (fun o' ho' => hw o' (by simp [ho'])) h

theorem wp_region_pivot {id : Nat} {a : Act} {w : World} {l : List Oper} (n : Nat) (hm : P.follows .mixedOrders = true) (hB : pivotB l.toArray n = true)
    (h : wpStill P l.toArray w.drew (fun a' => wpList P l.toArray (Piv P l.toArray Q (l.drop (n + 1))) ((l.drop n).take 1) a' w.drew) (l.take n) a) : (Code.region id l.toArray true).wp P Q a w := by
  have p := pivots_of hB
  simp only [pivotB, Bool.and_eq_true, decide_eq_true_eq] at hB
  obtain ⟨⟨⟨⟨⟨⟨⟨⟨h1, hsel⟩, hsel'⟩, -⟩, -⟩, -⟩, hlex⟩, hrd⟩, hlex2⟩ := hB
  have h1' : n < l.length := by simpa using h1
  have hops : (l.toArray.extract 0 n) = (l.take n).toArray := by simp
  have hlen : (l.take n).length = n := by simp; omega
  refine wp_region_any hm ?_
  obtain ⟨o, ho⟩ : ∃ o, l[n]? = some o := ⟨_, List.getElem?_eq_getElem h1'⟩
  have hd1 : (l.drop n).take 1 = [o] := by
    rw [List.drop_eq_getElem_cons h1', List.take_succ_cons, List.take_zero]
    rw [List.getElem?_eq_getElem h1'] at ho
    simpa using ho
  have hG : ∀ (L : Array Bool) (a : Act), HeadInv .any l.toArray n L → (∀ i, i < n → L.getD i true = true) →
      wpList P l.toArray (Piv P l.toArray Q (l.drop (n + 1))) ((l.drop n).take 1) a w.drew → wpAny P .any l.toArray Q (l.toArray.size - n) L a w.drew := by
    intro L a inv hL hh
    have hLe : L = Array.replicate n true ++ Array.replicate (l.toArray.size - n) false := by
      apply Array.ext
      · rw [inv.size]; simp; omega
      · intro i hi1 hi2
        by_cases hin : i < n
        · have := hL i hin
          simp only [Array.getD, hi1, ↓reduceDIte, Array.getInternal_eq_getElem] at this
          rw [this, Array.getElem_append_left (by simpa using hin)]
          simp
        · have := inv.tail i (by omega) (by rw [← inv.size]; exact hi1)
          simp only [Array.getD, hi1, ↓reduceDIte, Array.getInternal_eq_getElem] at this
          rw [this, Array.getElem_append_right (by simp; omega)]
          simp
    rw [show l.toArray.size - n = (l.toArray.size - n - 1) + 1 by omega, hLe]
    refine ⟨fun h0 => (by rw [hrd] at h0; cases h0), fun i hi => ?_⟩
    rw [hrd] at hi
    have hin : i = n := by simpa using hi
    subst hin
    rw [hd1] at hh
    have tailw : ∀ a' w', wpStill P l.toArray w' (fun a'' => Q .normal a'' w') (l.drop (i + 1)) a' → wpAny P .any l.toArray Q (l.toArray.size - i - 1) ((Array.replicate i true ++ Array.replicate (l.toArray.size - i) false).setIfInBounds i true) a' w' := fun a' w' h' => by
      have hdl : (l.drop (i + 1)).length = l.toArray.size - i - 1 := by simp; omega
      have := wpAnyS_lex (md := .any) hsel (l.drop (i + 1)) (i + 1) ((Array.replicate i true ++ Array.replicate (l.toArray.size - i) false).setIfInBounds i true) a' (fun j => by simp [List.getElem?_drop]) (by rw [hdl]; exact hlex2) h'
      rw [hdl] at this
      exact wpAny_of_still (Q := fun a'' => Q .normal a'' w') (fun _ h => h) _ _ _ this
    unfold wpOp
    rw [show l.toArray[i]? = some o by simpa using ho]
    simp only
    unfold wpList at hh
    split at hh
    · rename_i hx
      rw [if_pos hx]
      rcases hh with hh | ⟨h5, h6⟩
      · exact .inl (Oper.wp_mono (fun a' w' h' => tailw a' w' h') (piv_wp hh))
      · exact .inr ⟨h5, piv_lets h6⟩
    · rename_i hx
      rw [if_neg hx]
      exact tailw _ _ hh
  have hS : wpAnyS P .any (l.toArray.extract 0 n) w.drew (fun a' => wpList P l.toArray (Piv P l.toArray Q (l.drop (n + 1))) ((l.drop n).take 1) a' w.drew) n (Array.replicate n false) a := by
    have hst := still_ops (ops := l.toArray) (ops' := l.toArray.extract 0 n) (l.take n) a (fun o ho t => by
      obtain ⟨i, hi, he⟩ := List.getElem_of_mem ho
      have hin : i < n := by omega
      have hoi : l.toArray[i]? = some o := by
        rw [List.getElem_take] at he
        rw [List.getElem?_toArray, List.getElem?_eq_getElem (by omega), he]
      cases hg : o.guard with
      | none => simp [Region.wanted, hg]
      | some gb =>
        obtain ⟨q, b⟩ := gb
        have := p.guard i o q b hin hoi hg
        simp only [Region.wanted, hg, yielded, p.same q (by omega)]) h
    have := wpAnyS_lex (md := .any) (P := P) (w := w.drew) hsel' (l.take n) 0 (Array.replicate n false) a (fun j => by rw [hops]; simp) (by rw [hlen]; exact hlex) hst
    rwa [hlen] at this
  have inv0 : HeadInv .any l.toArray n (Array.replicate l.toArray.size false) :=
    ⟨by simp, fun j oj _ hl => (by rw [getD_replicate_false] at hl; cases hl), fun t _ ht => getD_in (by simpa using ht) (getD_replicate_false _ _)⟩
  have := p.head hG n _ (Array.replicate n false) a inv0 (by simp) (fun i hi => by
    have h2 : i < l.toArray.size := by omega
    simp [Array.getD, hi]
    simpa using h2) (by simp) hS
  rw [show n + (l.toArray.size - n) = l.toArray.size by omega] at this
  exact this
end
end Go.Proofs.YtcoiccbmcjdheaaGreat
