/- A part of the proof, several texts in one: PlP, PlZ, PlU, Other. -/
import Derived.Test.YtcoiccbmcjdheaaGreatmBF
import Derived.Test.YtcoiccbmcjdheaaGreatmBA
import Derived.Test.YtcoiccbmcjdheaaGreatmBJ
import Derived.Test.YtcoiccbmcjdheaaGreatmAH
import Derived.Test.YtcoiccbmcjdheaaGreatmAO
/- plain: put of a cell. -/
namespace Go.Proofs.YtcoiccbmcjdheaaGreat
open Go.RowKit Go.ChangeMaps Go.MapKept
variable {w : World} {p : Nat} {M : WM} {F : Nat → Prop}

theorem execOp_ldVp7 (ρ : Operand → Value) (ty : TypeId) (pos : String) (af : Array Edge) (g : Option (Nat × Bool)) :
    execOp ρ { dst := some 7, op := .load 34 (.tmp 3), type := ty, pos := pos, after := af, guard := g } = ldV (ρ (.tmp 3)) := rfl
theorem execOp_stVp11 (ρ : Operand → Value) (ty : TypeId) (pos : String) (af : Array Edge) (g : Option (Nat × Bool)) :
    execOp ρ { dst := none, op := .store 34 (.tmp 11) (.tmp 7), type := ty, pos := pos, after := af, guard := g } = stV (ρ (.tmp 11)) (ρ (.tmp 7)) := rfl
theorem held_cell {h : Int} {v : Val} {raw : Value} (h2 : ∀ r ∈ refsV v, (Lit.int .i64 r).wf = true ∧ (M.at r).isSome = true) : ∀ r ∈ heldL (cellT h v raw), (Lit.int .i64 r).wf = true ∧ (M.at r).isSome = true := by
  intro r hr
  have e : heldL (cellT h v raw) = refsV v := by simp [heldL]
  rw [e] at hr
  exact h2 r hr
attribute [local go_sem ↓] execOp_ldVp7 execOp_stVp11 in
set_option maxHeartbeats 4000000 in
set_option maxRecDepth 20000 in
theorem cPut_W (hW : IsW w p M F) {r : Int} (hr : (Lit.int .i64 r).wf = true) {h : Int} {x : Val} {raw0 rawC : Value} (ht : M.at r = some (cellT h x raw0)) {b : Nat} (hb : w.heap[b]? = some (.cells (baseC p r (cellT h x rawC)) 129 (0, 0))) (hbF : ¬ F b)
    (hh : sideB M h = true) {FB : Nat → Prop} {v : Val} {raw : Value} (hv : SlAt w FB raw v.l) (hFB : ∀ y, FB y → y ≠ b) (hm : mayV v = true) (hkn : ∀ r ∈ refsV v, (Lit.int .i64 r).wf = true ∧ (M.at r).isSome = true) :
    Calls Tryz.prog 134 #[.pointer (some ⟨b, 0, none⟩), .agg (vcs v raw)] w fun e w' => e = .returned (.tuple #[.agg zV, .int .i64 0]) ∧ ∃ raw', LaidX w p M F r (cellT h v raw') b w' := by
  obtain ⟨pv, cv, rfl⟩ := hv.form
  have hlt := blk_lt hb
  have HP : Hid (SlAt w FB (.slice pv v.l.length cv) v.l ∧ (∀ y, FB y → y ≠ b) ∧ mayV v = true ∧ (∀ r ∈ refsV v, (Lit.int .i64 r).wf = true ∧ (M.at r).isSome = true) ∧ IsW w p M F ∧ M.at r = some (cellT h x raw0) ∧ sideB M h = true) := ⟨hv, hFB, hm, hkn, hW, ht, hh⟩
  have HbF : Hid (∀ y, F y → y < w.heap.size) := hW.lt
  clear hv hFB hm hkn hW ht hh
  obtain ⟨vk, vn, vstr, vl, vr⟩ := v
  simp only [vcs] at HP ⊢
  generalize hnv : vl.length = nv at *
  have HX : Hid (Below w.heap.size w ((w.alloc (.cells #[.int .u8 vk, .int .i64 vn, .string vstr, .slice pv nv cv, .int .i64 vr] 34)).alloc (.cells #[.int .u8 0, .int .i64 0, .string ⟨#[]⟩, .slice none 0 0, .int .i64 0] 34)) ∧
      ((w.alloc (.cells #[.int .u8 vk, .int .i64 vn, .string vstr, .slice pv nv cv, .int .i64 vr] 34)).alloc (.cells #[.int .u8 0, .int .i64 0, .string ⟨#[]⟩, .slice none 0 0, .int .i64 0] 34)).heap[w.heap.size]? = some (.cells #[.int .u8 vk, .int .i64 vn, .string vstr, .slice pv nv cv, .int .i64 vr] 34 (0, 0)) ∧
      ((w.alloc (.cells #[.int .u8 vk, .int .i64 vn, .string vstr, .slice pv nv cv, .int .i64 vr] 34)).alloc (.cells #[.int .u8 0, .int .i64 0, .string ⟨#[]⟩, .slice none 0 0, .int .i64 0] 34)).heap[w.heap.size + 1]? = some (.cells zV 34 (0, 0))) :=
    ⟨((Below.refl _ _).alloc (Nat.le_refl _) _).alloc (by simp) _, blk2_old _ _ _, blk2_new _ _ _⟩
  go_enter Tryz.func134, Tryz.ntmps134
  go_upto_region 1 with fail
  revert HX
  generalize (w.alloc _).alloc _ = w2
  intro HX
  have hb2 := (HX.out.1.block b hlt).trans hb
  have hld := loadV_blk HX.out.2.1 rfl
  have hst := stV_any (i := 4) (vs := #[.int .u8 vk, .int .i64 vn, .string vstr, .slice pv nv cv, .int .i64 vr]) hb2 rfl (by show 4 + 5 ≤ 18; decide) (by simp [go_sem])
  have he : ((baseC p r (cellT h x rawC)).toList.take 4 ++ (#[.int .u8 vk, .int .i64 vn, .string vstr, .slice pv nv cv, .int .i64 vr] : Array Value).toList ++ (baseC p r (cellT h x rawC)).toList.drop (4 + 5)).toArray = baseC p r (cellT h ⟨vk, vn, vstr, vl, vr⟩ (.slice pv nv cv)) := rfl
  rw [he] at hst
  have HB2 := (show Hid _ from hb2)
  clear he hb2
  go_upto_region 2 with fail
  have HS3 : Hid ((w2.setRow b (baseC p r (cellT h ⟨vk, vn, vstr, vl, vr⟩ (.slice pv nv cv)))).heap[b]? = some (.cells (baseC p r (cellT h ⟨vk, vn, vstr, vl, vr⟩ (.slice pv nv cv))) 129 (0, 0)) ∧ Keeps (fun y => y = b) w (w2.setRow b (baseC p r (cellT h ⟨vk, vn, vstr, vl, vr⟩ (.slice pv nv cv)))) ∧ (w2.setRow b (baseC p r (cellT h ⟨vk, vn, vstr, vl, vr⟩ (.slice pv nv cv)))).heap[w.heap.size + 1]? = some (.cells zV 34 (0, 0))) := by
    refine ⟨heap_setRow_at HB2.out, Below.keeps HX.out.1 ⟨rfl, rfl, rfl, by simp [World.setRow], fun k _ hk => heap_setRow_other _ _ _ _ hk⟩, ?_⟩
    rw [heap_setRow_other _ _ _ _ (by omega)]
    exact HX.out.2.2
  clear hst hld HB2 HX
  revert HS3
  generalize World.setRow _ _ _ = w3
  intro HS3
  have c0 : w3.drew.cell? ⟨b, 0, none⟩ = some (.pointer (some ⟨p, 0, none⟩)) := by rw [cell_blk (blk_drew HS3.out.1)]; rfl
  have c1 : w3.drew.cell? ⟨b, 1, none⟩ = some (.int .i64 r) := by rw [cell_blk (blk_drew HS3.out.1)]; rfl
  have ldx : (ldW (.pointer (some ⟨b, 2, none⟩))).run Tryz.prog w3.drew = .ok (.value (.agg #[.int .u8 1, .int .i64 h, .int .u8 vk, .int .i64 vn, .string vstr, .slice pv nv cv, .int .i64 vr, .slice none 0 0, .int .i64 0, .int .i64 0, .int .i64 0, .int .i64 0, .int .u8 0, .bool false, .slice none 0 0, .slice none 0 0])) w3.drew := ldW_mid (blk_drew HS3.out.1) (cs := #[.int .u8 1, .int .i64 h, .int .u8 vk, .int .i64 vn, .string vstr, .slice pv nv cv, .int .i64 vr, .slice none 0 0, .int .i64 0, .int .i64 0, .int .i64 0, .int .i64 0, .int .u8 0, .bool false, .slice none 0 0, .slice none 0 0].toList) (by intro j x hj; exact baseC_at (t := cellT h ⟨vk, vn, vstr, vl, vr⟩ (.slice pv nv cv)) hj) rfl
  obtain ⟨hv, hFB, hm, hkn, hW, ht, hh⟩ := HP.out
  have hW3 : IsW w3.drew p M F := hW.keeps HS3.out.2.1.drew (fun y hy e => hbF (e ▸ hy))
  have hv3 : SlAt w3.drew FB (.slice pv nv cv) vl := hv.keeps HS3.out.2.1.drew (fun y e hy => hFB y hy e)
  have hhm := held_cell (h := h) (raw := .slice pv nv cv) hkn
  have HL : Hid (Calls Tryz.prog 137 #[.pointer (some ⟨p, 0, none⟩), .int .i64 r, .agg #[.int .u8 1, .int .i64 h, .int .u8 vk, .int .i64 vn, .string vstr, .slice pv nv cv, .int .i64 vr, .slice none 0 0, .int .i64 0, .int .i64 0, .int .i64 0, .int .i64 0, .int .u8 0, .bool false, .slice none 0 0, .slice none 0 0]] w3.drew fun e w' => e = .returned (.int .i64 0) ∧ LaidS w3.drew p M F r (cellT h ⟨vk, vn, vstr, vl, vr⟩ (.slice pv nv cv)) w') := by
    refine Lay_GS hW3 hr ht rfl (x := cellT h ⟨vk, vn, vstr, vl, vr⟩ (.slice pv nv cv)) ⟨hv3, SlAt.nil _ _ _ _, rfl, rfl⟩ ⟨hm, fun x hx => (by cases hx), Nat.zero_le _⟩ rfl rfl rfl rfl rfl (fun r hr => (hhm r hr).1) (by unfold namesB; rw [List.all_eq_true]; exact fun r hr => (hhm r hr).2) ?_
    intro w' hb'
    have hV : VYes w' (vcs ⟨vk, vn, vstr, vl, vr⟩ (.slice pv nv cv)) := vYes (hv3.on hb') hm
    exact formV_1 (hW3.below hb') hh hV ofYes0
  have HK := (show Hid _ from And.intro HS3.out.2.1 (And.intro HS3.out.2.2 hlt))
  clear hv hFB hm hkn hW ht hh hW3 hv3 hhm HP
  refine wp_region_turnK (z := _) 16 [0] (fun i => match i with | 0 => .agg zV | 1 => .pointer (some ⟨b, 0, none⟩) | 2 => .pointer (some ⟨b, 0, none⟩) | 3 => .pointer (some ⟨b, 0, none⟩) | 4 => .pointer (some ⟨b, 0, none⟩) | 5 => .pointer (some ⟨p, 0, none⟩) | 6 => .pointer (some ⟨b, 0, none⟩) | 7 => .pointer (some ⟨b, 0, none⟩) | 8 => .pointer (some ⟨b, 0, none⟩) | 9 => .pointer (some ⟨b, 1, none⟩) | 10 => .int .i64 r | 11 => .pointer (some ⟨b, 0, none⟩) | 12 => .pointer (some ⟨b, 0, none⟩) | 13 => .pointer (some ⟨b, 0, none⟩) | 14 => .pointer (some ⟨b, 2, none⟩) | 15 => .agg #[.int .u8 1, .int .i64 h, .int .u8 vk, .int .i64 vn, .string vstr, .slice pv nv cv, .int .i64 vr, .slice none 0 0, .int .i64 0, .int .i64 0, .int .i64 0, .int .i64 0, .int .u8 0, .bool false, .slice none 0 0, .slice none 0 0] | _ => undef) (fun v w' => v = .int .i64 0 ∧ LaidS w3.drew p M F r (cellT h ⟨vk, vn, vstr, vl, vr⟩ (.slice pv nv cv)) w') (by kernel_rfl) rfl (by kernel_rfl) rfl (by kernel_rfl) (by kernel_rfl) ?_ ?_ ?_
  · intro i q a w7 hq hw hdep hfr
    have hj : i < 16 := (List.getElem?_eq_some_iff.1 hq).1
    match i, hj with
    | 0, _ =>
      cases hq
      clear hw hdep hfr
      simp [go_sem, zV]
    | 1, _ =>
      cases hq
      have hw : w7 = w3.drew := by simpa using hw
      subst hw
      have h0 : a.tmps.getD 0 undef = .pointer (some ⟨b, 0, none⟩) := hfr 0 (by simp)
      have h0' : a.tmps[0]?.getD undef = .pointer (some ⟨b, 0, none⟩) := by rw [← h0]; simp [Array.getD_eq_getD_getElem?]
      clear hdep hfr
      simp [go_sem, Act.eval, h0']
    | 2, _ =>
      cases hq
      have hw : w7 = w3.drew := by simpa using hw
      subst hw
      have h0 : a.tmps.getD 13 undef = .pointer (some ⟨b, 0, none⟩) := hdep ⟨1, .data⟩ (by simp) rfl _ rfl
      have h0' : a.tmps[13]?.getD undef = .pointer (some ⟨b, 0, none⟩) := by rw [← h0]; simp [Array.getD_eq_getD_getElem?]
      clear hdep hfr
      simp [go_sem, Act.eval, h0']
    | 3, _ =>
      cases hq
      have hw : w7 = w3.drew := by simpa using hw
      subst hw
      have h0 : a.tmps.getD 14 undef = .pointer (some ⟨b, 0, none⟩) := hdep ⟨2, .data⟩ (by simp) rfl _ rfl
      have h0' : a.tmps[14]?.getD undef = .pointer (some ⟨b, 0, none⟩) := by rw [← h0]; simp [Array.getD_eq_getD_getElem?]
      clear hdep hfr
      simp [go_sem, Act.eval, h0']
    | 4, _ =>
      cases hq
      have hw : w7 = w3.drew := by simpa using hw
      subst hw
      have h0 : a.tmps.getD 15 undef = .pointer (some ⟨b, 0, none⟩) := hdep ⟨3, .data⟩ (by simp) rfl _ rfl
      have h0' : a.tmps[15]?.getD undef = .pointer (some ⟨b, 0, none⟩) := by rw [← h0]; simp [Array.getD_eq_getD_getElem?]
      clear hdep hfr
      simp [go_sem, Act.eval, h0']
    | 5, _ =>
      cases hq
      have hw : w7 = w3.drew := by simpa using hw
      subst hw
      have h0 : a.tmps.getD 16 undef = .pointer (some ⟨b, 0, none⟩) := hdep ⟨4, .data⟩ (by simp) rfl _ rfl
      have h0' : a.tmps[16]?.getD undef = .pointer (some ⟨b, 0, none⟩) := by rw [← h0]; simp [Array.getD_eq_getD_getElem?]
      clear hdep hfr
      simp [go_sem, Act.eval, h0', c0]
    | 6, _ =>
      cases hq
      have hw : w7 = w3.drew := by simpa using hw
      subst hw
      have h0 : a.tmps.getD 0 undef = .pointer (some ⟨b, 0, none⟩) := hfr 0 (by simp)
      have h0' : a.tmps[0]?.getD undef = .pointer (some ⟨b, 0, none⟩) := by rw [← h0]; simp [Array.getD_eq_getD_getElem?]
      clear hdep hfr
      simp [go_sem, Act.eval, h0']
    | 7, _ =>
      cases hq
      have hw : w7 = w3.drew := by simpa using hw
      subst hw
      have h0 : a.tmps.getD 18 undef = .pointer (some ⟨b, 0, none⟩) := hdep ⟨6, .data⟩ (by simp) rfl _ rfl
      have h0' : a.tmps[18]?.getD undef = .pointer (some ⟨b, 0, none⟩) := by rw [← h0]; simp [Array.getD_eq_getD_getElem?]
      clear hdep hfr
      simp [go_sem, Act.eval, h0']
    | 8, _ =>
      cases hq
      have hw : w7 = w3.drew := by simpa using hw
      subst hw
      have h0 : a.tmps.getD 19 undef = .pointer (some ⟨b, 0, none⟩) := hdep ⟨7, .data⟩ (by simp) rfl _ rfl
      have h0' : a.tmps[19]?.getD undef = .pointer (some ⟨b, 0, none⟩) := by rw [← h0]; simp [Array.getD_eq_getD_getElem?]
      clear hdep hfr
      simp [go_sem, Act.eval, h0']
    | 9, _ =>
      cases hq
      have hw : w7 = w3.drew := by simpa using hw
      subst hw
      have h0 : a.tmps.getD 20 undef = .pointer (some ⟨b, 0, none⟩) := hdep ⟨8, .data⟩ (by simp) rfl _ rfl
      have h0' : a.tmps[20]?.getD undef = .pointer (some ⟨b, 0, none⟩) := by rw [← h0]; simp [Array.getD_eq_getD_getElem?]
      clear hdep hfr
      simp [go_sem, Act.eval, h0']
    | 10, _ =>
      cases hq
      have hw : w7 = w3.drew := by simpa using hw
      subst hw
      have h0 : a.tmps.getD 21 undef = .pointer (some ⟨b, 1, none⟩) := hdep ⟨9, .data⟩ (by simp) rfl _ rfl
      have h0' : a.tmps[21]?.getD undef = .pointer (some ⟨b, 1, none⟩) := by rw [← h0]; simp [Array.getD_eq_getD_getElem?]
      clear hdep hfr
      simp [go_sem, Act.eval, h0', c1]
    | 11, _ =>
      cases hq
      have hw : w7 = w3.drew := by simpa using hw
      subst hw
      have h0 : a.tmps.getD 0 undef = .pointer (some ⟨b, 0, none⟩) := hfr 0 (by simp)
      have h0' : a.tmps[0]?.getD undef = .pointer (some ⟨b, 0, none⟩) := by rw [← h0]; simp [Array.getD_eq_getD_getElem?]
      clear hdep hfr
      simp [go_sem, Act.eval, h0']
    | 12, _ =>
      cases hq
      have hw : w7 = w3.drew := by simpa using hw
      subst hw
      have h0 : a.tmps.getD 23 undef = .pointer (some ⟨b, 0, none⟩) := hdep ⟨11, .data⟩ (by simp) rfl _ rfl
      have h0' : a.tmps[23]?.getD undef = .pointer (some ⟨b, 0, none⟩) := by rw [← h0]; simp [Array.getD_eq_getD_getElem?]
      clear hdep hfr
      simp [go_sem, Act.eval, h0']
    | 13, _ =>
      cases hq
      have hw : w7 = w3.drew := by simpa using hw
      subst hw
      have h0 : a.tmps.getD 24 undef = .pointer (some ⟨b, 0, none⟩) := hdep ⟨12, .data⟩ (by simp) rfl _ rfl
      have h0' : a.tmps[24]?.getD undef = .pointer (some ⟨b, 0, none⟩) := by rw [← h0]; simp [Array.getD_eq_getD_getElem?]
      clear hdep hfr
      simp [go_sem, Act.eval, h0']
    | 14, _ =>
      cases hq
      have hw : w7 = w3.drew := by simpa using hw
      subst hw
      have h0 : a.tmps.getD 25 undef = .pointer (some ⟨b, 0, none⟩) := hdep ⟨13, .data⟩ (by simp) rfl _ rfl
      have h0' : a.tmps[25]?.getD undef = .pointer (some ⟨b, 0, none⟩) := by rw [← h0]; simp [Array.getD_eq_getD_getElem?]
      clear hdep hfr
      simp [go_sem, Act.eval, h0']
    | 15, _ =>
      cases hq
      have hw : w7 = w3.drew := by simpa using hw
      subst hw
      have h0 : a.tmps.getD 26 undef = .pointer (some ⟨b, 2, none⟩) := hdep ⟨14, .data⟩ (by simp) rfl _ rfl
      have h0' : a.tmps[26]?.getD undef = .pointer (some ⟨b, 2, none⟩) := by rw [← h0]; simp [Array.getD_eq_getD_getElem?]
      clear hdep hfr
      rw [execOp_ldW]
      show (ldW (a.tmps.getD 26 undef)).run _ _ = _
      rw [h0]
      exact ldx
  · intro a hdep hfr
    have g0 : a.tmps.getD 17 undef = .pointer (some ⟨p, 0, none⟩) := hdep ⟨5, .data⟩ (by simp) rfl _ rfl
    have g0' : a.tmps[17]?.getD undef = .pointer (some ⟨p, 0, none⟩) := by rw [← g0]; simp [Array.getD_eq_getD_getElem?]
    have g1 : a.tmps.getD 22 undef = .int .i64 r := hdep ⟨10, .data⟩ (by simp) rfl _ rfl
    have g1' : a.tmps[22]?.getD undef = .int .i64 r := by rw [← g1]; simp [Array.getD_eq_getD_getElem?]
    have g2 : a.tmps.getD 27 undef = .agg #[.int .u8 1, .int .i64 h, .int .u8 vk, .int .i64 vn, .string vstr, .slice pv nv cv, .int .i64 vr, .slice none 0 0, .int .i64 0, .int .i64 0, .int .i64 0, .int .i64 0, .int .u8 0, .bool false, .slice none 0 0, .slice none 0 0] := hdep ⟨15, .data⟩ (by simp) rfl _ rfl
    have g2' : a.tmps[27]?.getD undef = .agg #[.int .u8 1, .int .i64 h, .int .u8 vk, .int .i64 vn, .string vstr, .slice pv nv cv, .int .i64 vr, .slice none 0 0, .int .i64 0, .int .i64 0, .int .i64 0, .int .i64 0, .int .u8 0, .bool false, .slice none 0 0, .slice none 0 0] := by rw [← g2]; simp [Array.getD_eq_getD_getElem?]
    clear hdep hfr
    unfold Oper.wp
    simp [go_sem, callFunc, Act.eval, Tryz.func137, g0', g1', g2']
    refine Calls.mono HL.out ?_
    rintro e w5 ⟨rfl, hl⟩
    exact ⟨_, rfl, rfl, hl⟩
  · intro a w5 v hP hdf hsz hfr hval hv
    obtain ⟨rfl, hl⟩ := hP
    have e0 : a.tmps.getD 12 undef = .agg zV := hval 0 _ rfl
    have e1 : a.tmps.getD 13 undef = .pointer (some ⟨b, 0, none⟩) := hval 1 _ rfl
    have e2 : a.tmps.getD 14 undef = .pointer (some ⟨b, 0, none⟩) := hval 2 _ rfl
    have e3 : a.tmps.getD 15 undef = .pointer (some ⟨b, 0, none⟩) := hval 3 _ rfl
    have e4 : a.tmps.getD 16 undef = .pointer (some ⟨b, 0, none⟩) := hval 4 _ rfl
    have e5 : a.tmps.getD 17 undef = .pointer (some ⟨p, 0, none⟩) := hval 5 _ rfl
    have e6 : a.tmps.getD 18 undef = .pointer (some ⟨b, 0, none⟩) := hval 6 _ rfl
    have e7 : a.tmps.getD 19 undef = .pointer (some ⟨b, 0, none⟩) := hval 7 _ rfl
    have e8 : a.tmps.getD 20 undef = .pointer (some ⟨b, 0, none⟩) := hval 8 _ rfl
    have e9 : a.tmps.getD 21 undef = .pointer (some ⟨b, 1, none⟩) := hval 9 _ rfl
    have e10 : a.tmps.getD 22 undef = .int .i64 r := hval 10 _ rfl
    have e11 : a.tmps.getD 23 undef = .pointer (some ⟨b, 0, none⟩) := hval 11 _ rfl
    have e12 : a.tmps.getD 24 undef = .pointer (some ⟨b, 0, none⟩) := hval 12 _ rfl
    have e13 : a.tmps.getD 25 undef = .pointer (some ⟨b, 0, none⟩) := hval 13 _ rfl
    have e14 : a.tmps.getD 26 undef = .pointer (some ⟨b, 2, none⟩) := hval 14 _ rfl
    have e15 : a.tmps.getD 27 undef = .agg #[.int .u8 1, .int .i64 h, .int .u8 vk, .int .i64 vn, .string vstr, .slice pv nv cv, .int .i64 vr, .slice none 0 0, .int .i64 0, .int .i64 0, .int .i64 0, .int .i64 0, .int .u8 0, .bool false, .slice none 0 0, .slice none 0 0] := hval 15 _ rfl
    have ha := act_of hdf hsz hfr
    simp only [List.take_succ_cons, List.take_zero, List.cons_append, List.nil_append, List.filterMap_cons, List.filterMap_nil, List.foldl_cons, List.foldl_nil, List.setIfInBounds_toArray, List.set_cons_zero, List.set_cons_succ, e0, e1, e2, e3, e4, e5, e6, e7, e8, e9, e10, e11, e12, e13, e14, e15, hv] at ha
    clear hdf hsz hfr hval hv e0 e1 e2 e3 e4 e5 e6 e7 e8 e9 e10 e11 e12 e13 e14 e15
    subst ha
    have hr5 : w5.heap[w.heap.size + 1]? = some (.cells zV 34 (0, 0)) := by
      obtain ⟨vl', vals', F', l0, l1, l2, l3⟩ := hl
      exact (l2.block _ (blk_lt (blk_drew HK.out.2.1)) (fun e => by have := HbF.out _ e; omega)).trans (blk_drew HK.out.2.1)
    have hst : (stV (.pointer (some ⟨w.heap.size + 1, 0, none⟩)) (.agg zV)).run Tryz.prog w5 = .ok .skip w5 := stV_same hr5 rfl (by simp [zV]) (by simp [zV, go_sem]) (by simp [zV])
    have HE : Hid (∃ raw', LaidX w p M F r (cellT h ⟨vk, vn, vstr, vl, vr⟩ raw') b w5) := by
      obtain ⟨vl', vals', F', ⟨-, l0⟩, l1, l2, l3⟩ := hl
      rw [l0 rfl] at l1
      exact ⟨vl', F', l1, (HK.out.1.drew).trans l2 (fun _ _ h => .inr h) (fun _ _ h => .inl h), fun y hy => (l3 y hy).imp id fun h => Nat.le_trans HK.out.1.drew.size h⟩
    obtain ⟨⟨r0, r1, r2, r3, r4⟩, -⟩ := cells5 hr5
    clear hl hr5 c0 c1 ldx HL HK HS3
    unfold wpTail Oper.wp
    rw [execOp_stV]
    simp [go_sem, Act.eval, hst]
    unfold wpTail Oper.wp
    simp [execOp, go_sem, Act.eval, wpTail]
    refine ‹∀ (a : Act) (w : World), Code.wp Tryz.prog _ _ a w → _› _ _ ?_
    go_wp2_with fail
    refine bodyPost_ret (v := .tuple #[.agg zV, .int .i64 0]) (by simp [results, Tryz.results134, go_sem, r0, r1, r2, r3, r4, zV]) rfl ⟨rfl, HE.out⟩
end Go.Proofs.YtcoiccbmcjdheaaGreat
/- plain: give of a promise's keeper. -/
namespace Go.Proofs.YtcoiccbmcjdheaaGreat
open Go.RowKit Go.ChangeMaps Go.MapKept
variable {w : World} {p : Nat} {M : WM} {F : Nat → Prop}

/-- A keeper. -/
abbrev kpT (h tg : Int) : Th := lt 11 h 0 0 0 0 tg 0 0 false
theorem execOp_stVz29 (ρ : Operand → Value) (ty : TypeId) (pos : String) (af : Array Edge) (g : Option (Nat × Bool)) :
    execOp ρ { dst := none, op := .store 34 (.tmp 4) (.tmp 29), type := ty, pos := pos, after := af, guard := g } = stV (ρ (.tmp 4)) (ρ (.tmp 29)) := rfl
/-- The cells of a promise. -/
abbrev prC (h xk xn xr : Int) (xs : ByteArray) (vl : Value) (fu : Bool) : Array Value := #[.int .u8 10, .int .i64 h, .int .u8 xk, .int .i64 xn, .string xs, vl, .int .i64 xr, .slice none 0 0, .int .i64 0, .int .i64 0, .int .i64 0, .int .i64 0, .int .u8 0, .bool fu, .slice none 0 0, .slice none 0 0]
abbrev whZ : Array Value := #[.int .u8 0, .int .i64 0, .int .u8 0, .int .i64 0, .string ⟨#[]⟩, .slice none 0 0, .int .i64 0, .slice none 0 0, .int .i64 0, .int .i64 0, .int .i64 0, .int .i64 0, .int .u8 0, .bool false, .slice none 0 0, .slice none 0 0]
def VlOk (xl : List Val) (vl : Value) : Prop := (xl = [] → vl = .slice none 0 0) ∧ ∃ a n c, vl = .slice a n c
/-- What a keeper leaves when it is given a value. -/
def KpGiveQ (w : World) (p : Nat) (M : WM) (F : Nat → Prop) (tg h : Int) (v : Val) (fu : Bool) (b : Nat) (e : Ending) (w' : World) : Prop :=
  (fu = true ∧ e = .returned (.tuple #[.agg zV, .int .i64 83]) ∧ Below w.heap.size w w') ∨ (fu = false ∧ e = .returned (.tuple #[.agg zV, .int .i64 0]) ∧ ∃ raw', LaidX w p M F tg (prT h v raw' true) b w')
theorem pr_set {h xk xn xr vk vn vr : Int} {xs vstr : ByteArray} {vl raw : Value} {w : World} {g : Nat} (hg : w.heap[g]? = some (.cells (prC h xk xn xr xs vl false) 42 (0, 0))) :
    ((((((w.setCell ⟨g, 13, none⟩ (.bool true)).setCell ⟨g, 2, none⟩ (.int .u8 vk)).setCell ⟨g, 3, none⟩ (.int .i64 vn)).setCell ⟨g, 4, none⟩ (.string vstr)).setCell ⟨g, 5, none⟩ raw).setCell ⟨g, 6, none⟩ (.int .i64 vr)).heap[g]? = some (.cells (prC h vk vn vr vstr raw true) 42 (0, 0)) :=
  blk_setCell (blk_setCell (blk_setCell (blk_setCell (blk_setCell (blk_setCell hg 13 (.bool true)) 2 (.int .u8 vk)) 3 (.int .i64 vn)) 4 (.string vstr)) 5 raw) 6 (.int .i64 vr)
theorem keeps_pr {w : World} {g : Nat} {a0 a1 a2 a3 a4 a5 : Value} : Keeps (fun y => y = g) w ((((((w.setCell ⟨g, 13, none⟩ a0).setCell ⟨g, 2, none⟩ a1).setCell ⟨g, 3, none⟩ a2).setCell ⟨g, 4, none⟩ a3).setCell ⟨g, 5, none⟩ a4).setCell ⟨g, 6, none⟩ a5) := by
  have h := fun (w : World) (j : Nat) (a : Value) => Keeps.setCell (S := fun y => y = g) w ⟨g, j, none⟩ a rfl
  exact (((((h _ 13 a0).trans (h _ 2 a1) (fun _ _ h => h) (fun _ _ h => h)).trans (h _ 3 a2) (fun _ _ h => h) (fun _ _ h => h)).trans (h _ 4 a3) (fun _ _ h => h) (fun _ _ h => h)).trans (h _ 5 a4) (fun _ _ h => h) (fun _ _ h => h)).trans (h _ 6 a5) (fun _ _ h => h) (fun _ _ h => h)
theorem held_pr {h : Int} {v : Val} {raw : Value} {fu : Bool} (h2 : ∀ r ∈ refsV v, (Lit.int .i64 r).wf = true ∧ (M.at r).isSome = true) : ∀ r ∈ heldL (prT h v raw fu), (Lit.int .i64 r).wf = true ∧ (M.at r).isSome = true := by
  intro r hr
  have e : heldL (prT h v raw fu) = refsV v := by simp [heldL]
  rw [e] at hr
  exact h2 r hr
def KpPhi (b B0 p : Nat) (tg h xk xn xr : Int) (xs : ByteArray) (xl : List Val) (fu : Bool) (j : Nat) (v : Value) (wx : World) : Prop :=
  match j with
  | 0 => v = .pointer (some ⟨b, 0, none⟩)
  | 1 => v = .pointer (some ⟨b, 0, none⟩)
  | 2 => v = .pointer (some ⟨b, 0, none⟩)
  | 3 => v = .pointer (some ⟨b, 0, none⟩)
  | 4 => v = .pointer (some ⟨p, 0, none⟩)
  | 5 => v = .pointer (some ⟨b, 0, none⟩)
  | 6 => v = .pointer (some ⟨b, 0, none⟩)
  | 7 => v = .pointer (some ⟨b, 0, none⟩)
  | 8 => v = .pointer (some ⟨b, 2, none⟩)
  | 9 => v = .pointer (some ⟨b, 12, none⟩)
  | 10 => v = .int .i64 tg
  | 11 => ∃ vl, VlOk xl vl ∧ v = .tuple #[.agg (prC h xk xn xr xs vl fu), .int .i64 0]
  | 12 => ∃ vl, VlOk xl vl ∧ v = .tuple #[.agg (prC h xk xn xr xs vl fu), .int .i64 0]
  | 13 => ∃ vl, VlOk xl vl ∧ v = .agg (prC h xk xn xr xs vl fu)
  | 14 => v = .int .i64 0
  | 15 => ∃ g, v = .pointer (some ⟨g, 0, none⟩) ∧ B0 ≤ g ∧ wx.heap[g]? = some (.cells whZ 42 (0, 0))
  | _ => True
theorem KpPhi.stab {b B0 p : Nat} {tg h xk xn xr : Int} {xs : ByteArray} {xl : List Val} {fu : Bool} : ∀ (j : Nat) (v : Value) (w w' : World), Below w.heap.size w w' → KpPhi b B0 p tg h xk xn xr xs xl fu j v w → KpPhi b B0 p tg h xk xn xr xs xl fu j v w' := by
  intro j v w w' hR h
  unfold KpPhi at h ⊢
  split at h
  · exact h
  · exact h
  · exact h
  · exact h
  · exact h
  · exact h
  · exact h
  · exact h
  · exact h
  · exact h
  · exact h
  · exact h
  · exact h
  · exact h
  · exact h
  · obtain ⟨g, h1, h0, h2⟩ := h
    exact ⟨g, h1, h0, below_blk hR h2⟩
  · trivial
attribute [local go_sem ↓] execOp_stVz29 in
set_option maxHeartbeats 4000000 in
set_option maxRecDepth 20000 in
theorem kpGive_W (hW : IsW w p M F) {r tg h h' : Int} (hr : (Lit.int .i64 tg).wf = true) {x : Val} {raw0 : Value} {fu : Bool} (hm : mayV x = true) (ht : M.at tg = some (prT h x raw0 fu)) {b : Nat} (hb : w.heap[b]? = some (.cells (baseC p r (kpT h' tg)) 133 (0, 0)))
    (hbF : ¬ F b) (hh : sideB M h = true) {FB : Nat → Prop} {v : Val} {pv : Option Addr} {cv : Nat} (hv : SlAt w FB (.slice pv v.l.length cv) v.l) (hmv : mayV v = true) (hkn : ∀ r ∈ refsV v, (Lit.int .i64 r).wf = true ∧ (M.at r).isSome = true) :
    Calls Tryz.prog 148 #[.pointer (some ⟨b, 0, none⟩), .agg (vcs v (.slice pv v.l.length cv))] w (KpGiveQ w p M F tg h v fu b) := by
  have hlt := blk_lt hb
  have HP : Hid (SlAt w FB (.slice pv v.l.length cv) v.l ∧ mayV v = true ∧ (∀ r ∈ refsV v, (Lit.int .i64 r).wf = true ∧ (M.at r).isSome = true) ∧ IsW w p M F ∧ M.at tg = some (prT h x raw0 fu) ∧ sideB M h = true) := ⟨hv, hmv, hkn, hW, ht, hh⟩
  have HbF2 : Hid (¬ F b) := hbF
  clear hv hmv hkn hh hbF
  obtain ⟨xk, xn, xs, xl, xr⟩ := x
  have HWh : Hid (∀ w', Below w.heap.size w w' → Calls Tryz.prog 15 #[.pointer (some ⟨p, 0, none⟩), .int .i64 tg] w' fun e w'' => (∃ vl, VlOk xl vl ∧ e = .returned (.tuple #[.agg (prC h xk xn xr xs vl fu), .int .i64 0])) ∧ Below w'.heap.size w' w'') := fun w' hb' => by
    refine (What_G (hW.below hb') hr ht ⟨hm, fun x hx => (by cases hx), Nat.zero_le _⟩).mono ?_
    rintro e w'' ⟨vl', vals', rfl, hb2, hd, h5, h6, -⟩
    rw [h6 rfl]
    obtain ⟨pa, ca, hf⟩ := hd.v.form
    exact ⟨⟨vl', ⟨h5, _, _, _, hf⟩, rfl⟩, hb2⟩
  have HbF : Hid (∀ y, F y → y < w.heap.size) := hW.lt
  clear hm ht hW
  obtain ⟨vk, vn, vstr, vl, vr⟩ := v
  simp only [vcs] at HP ⊢
  generalize hnv : vl.length = nv at *
  have HX : Hid (Below w.heap.size w ((w.alloc (.cells #[.int .u8 vk, .int .i64 vn, .string vstr, .slice pv nv cv, .int .i64 vr] 34)).alloc (.cells #[.int .u8 0, .int .i64 0, .string ⟨#[]⟩, .slice none 0 0, .int .i64 0] 34)) ∧
      ((w.alloc (.cells #[.int .u8 vk, .int .i64 vn, .string vstr, .slice pv nv cv, .int .i64 vr] 34)).alloc (.cells #[.int .u8 0, .int .i64 0, .string ⟨#[]⟩, .slice none 0 0, .int .i64 0] 34)).heap[w.heap.size]? = some (.cells #[.int .u8 vk, .int .i64 vn, .string vstr, .slice pv nv cv, .int .i64 vr] 34 (0, 0)) ∧
      ((w.alloc (.cells #[.int .u8 vk, .int .i64 vn, .string vstr, .slice pv nv cv, .int .i64 vr] 34)).alloc (.cells #[.int .u8 0, .int .i64 0, .string ⟨#[]⟩, .slice none 0 0, .int .i64 0] 34)).heap[w.heap.size + 1]? = some (.cells zV 34 (0, 0))) :=
    ⟨((Below.refl _ _).alloc (Nat.le_refl _) _).alloc (by simp) _, blk2_old _ _ _, blk2_new _ _ _⟩
  go_enter Tryz.func148, Tryz.ntmps148
  go_upto_region 1 with fail
  revert HX
  generalize (w.alloc _).alloc _ = wa
  intro HX
  have Hb : Hid (wa.heap[b]? = some (.cells (baseC p r (kpT h' tg)) 133 (0, 0))) := (HX.out.1.block b hlt).trans hb
  refine wp_region_growKL 16 14 22 6 21 42 (.int .i64 0) (by kernel_rfl) rfl (by kernel_rfl) rfl rfl rfl (by decide) (by decide) (by kernel_rfl) (fun a b => Below a.heap.size a b) (KpPhi b wa.heap.size p tg h xk xn xr xs xl fu) (fun w' => Below wa.heap.size wa w') (fun j v w w' => KpPhi.stab j v w w') (fun w => Below.refl _ _) below_drew (fun a b h hR => h.trans (hR.mono h.size)) (fun w => rfl) ?_ ?_ ?_
  · intro a w w' hdep
    obtain ⟨vl, hq1, h8⟩ := hdep ⟨12, .data⟩ (by simp) rfl _ rfl
    have h8 : a.tmps.getD 8 undef = .tuple #[.agg (prC h xk xn xr xs vl fu), .int .i64 0] := h8
    have h8' : a.tmps[8]?.getD undef = .tuple #[.agg (prC h xk xn xr xs vl fu), .int .i64 0] := by rw [← h8]; simp [Array.getD_eq_getD_getElem?]
    clear hdep
    simp [go_sem, h8']
  · intro j q a w7 hne hq hC hG
    have hj : j < 16 := (List.getElem?_eq_some_iff.1 hq).1
    match j, hj with
    | 0, _ =>
      cases hq
      have h0 : a.tmps.getD 0 undef = .pointer (some ⟨b, 0, none⟩) := hG.fr 0 (by simp)
      have h0' : a.tmps[0]?.getD undef = .pointer (some ⟨b, 0, none⟩) := by rw [← h0]; simp [Array.getD_eq_getD_getElem?]
      unfold Oper.wp
      simp [go_sem, Act.eval, h0']
      exact ⟨_, rfl, Below.refl _ _, rfl⟩
    | 1, _ =>
      cases hq
      have h9 : a.tmps.getD 9 undef = .pointer (some ⟨b, 0, none⟩) := hG.dep ⟨0, .data⟩ (by simp) rfl _ rfl
      have h9' : a.tmps[9]?.getD undef = .pointer (some ⟨b, 0, none⟩) := by rw [← h9]; simp [Array.getD_eq_getD_getElem?]
      unfold Oper.wp
      simp [go_sem, Act.eval, h9']
      exact ⟨_, rfl, Below.refl _ _, rfl⟩
    | 2, _ =>
      cases hq
      have h10 : a.tmps.getD 10 undef = .pointer (some ⟨b, 0, none⟩) := hG.dep ⟨1, .data⟩ (by simp) rfl _ rfl
      have h10' : a.tmps[10]?.getD undef = .pointer (some ⟨b, 0, none⟩) := by rw [← h10]; simp [Array.getD_eq_getD_getElem?]
      unfold Oper.wp
      simp [go_sem, Act.eval, h10']
      exact ⟨_, rfl, Below.refl _ _, rfl⟩
    | 3, _ =>
      cases hq
      have h11 : a.tmps.getD 11 undef = .pointer (some ⟨b, 0, none⟩) := hG.dep ⟨2, .data⟩ (by simp) rfl _ rfl
      have h11' : a.tmps[11]?.getD undef = .pointer (some ⟨b, 0, none⟩) := by rw [← h11]; simp [Array.getD_eq_getD_getElem?]
      unfold Oper.wp
      simp [go_sem, Act.eval, h11']
      exact ⟨_, rfl, Below.refl _ _, rfl⟩
    | 4, _ =>
      cases hq
      have h12 : a.tmps.getD 12 undef = .pointer (some ⟨b, 0, none⟩) := hG.dep ⟨3, .data⟩ (by simp) rfl _ rfl
      have h12' : a.tmps[12]?.getD undef = .pointer (some ⟨b, 0, none⟩) := by rw [← h12]; simp [Array.getD_eq_getD_getElem?]
      have c3 : w7.cell? ⟨b, 0, none⟩ = some (.pointer (some ⟨p, 0, none⟩)) := by rw [cell_blk (below_blk hC Hb.out)]; rfl
      unfold Oper.wp
      simp [go_sem, Act.eval, h12', c3]
      exact ⟨_, rfl, Below.refl _ _, rfl⟩
    | 5, _ =>
      cases hq
      have h0 : a.tmps.getD 0 undef = .pointer (some ⟨b, 0, none⟩) := hG.fr 0 (by simp)
      have h0' : a.tmps[0]?.getD undef = .pointer (some ⟨b, 0, none⟩) := by rw [← h0]; simp [Array.getD_eq_getD_getElem?]
      unfold Oper.wp
      simp [go_sem, Act.eval, h0']
      exact ⟨_, rfl, Below.refl _ _, rfl⟩
    | 6, _ =>
      cases hq
      have h14 : a.tmps.getD 14 undef = .pointer (some ⟨b, 0, none⟩) := hG.dep ⟨5, .data⟩ (by simp) rfl _ rfl
      have h14' : a.tmps[14]?.getD undef = .pointer (some ⟨b, 0, none⟩) := by rw [← h14]; simp [Array.getD_eq_getD_getElem?]
      unfold Oper.wp
      simp [go_sem, Act.eval, h14']
      exact ⟨_, rfl, Below.refl _ _, rfl⟩
    | 7, _ =>
      cases hq
      have h15 : a.tmps.getD 15 undef = .pointer (some ⟨b, 0, none⟩) := hG.dep ⟨6, .data⟩ (by simp) rfl _ rfl
      have h15' : a.tmps[15]?.getD undef = .pointer (some ⟨b, 0, none⟩) := by rw [← h15]; simp [Array.getD_eq_getD_getElem?]
      unfold Oper.wp
      simp [go_sem, Act.eval, h15']
      exact ⟨_, rfl, Below.refl _ _, rfl⟩
    | 8, _ =>
      cases hq
      have h16 : a.tmps.getD 16 undef = .pointer (some ⟨b, 0, none⟩) := hG.dep ⟨7, .data⟩ (by simp) rfl _ rfl
      have h16' : a.tmps[16]?.getD undef = .pointer (some ⟨b, 0, none⟩) := by rw [← h16]; simp [Array.getD_eq_getD_getElem?]
      unfold Oper.wp
      simp [go_sem, Act.eval, h16']
      exact ⟨_, rfl, Below.refl _ _, rfl⟩
    | 9, _ =>
      cases hq
      have h17 : a.tmps.getD 17 undef = .pointer (some ⟨b, 2, none⟩) := hG.dep ⟨8, .data⟩ (by simp) rfl _ rfl
      have h17' : a.tmps[17]?.getD undef = .pointer (some ⟨b, 2, none⟩) := by rw [← h17]; simp [Array.getD_eq_getD_getElem?]
      unfold Oper.wp
      simp [go_sem, Act.eval, h17']
      exact ⟨_, rfl, Below.refl _ _, rfl⟩
    | 10, _ =>
      cases hq
      have h18 : a.tmps.getD 18 undef = .pointer (some ⟨b, 12, none⟩) := hG.dep ⟨9, .data⟩ (by simp) rfl _ rfl
      have h18' : a.tmps[18]?.getD undef = .pointer (some ⟨b, 12, none⟩) := by rw [← h18]; simp [Array.getD_eq_getD_getElem?]
      have c3 : w7.cell? ⟨b, 12, none⟩ = some (.int .i64 tg) := by rw [cell_blk (below_blk hC Hb.out)]; rfl
      unfold Oper.wp
      simp [go_sem, Act.eval, h18', c3]
      exact ⟨_, rfl, Below.refl _ _, rfl⟩
    | 11, _ =>
      cases hq
      have h13 : a.tmps.getD 13 undef = .pointer (some ⟨p, 0, none⟩) := hG.dep ⟨4, .data⟩ (by simp) rfl _ rfl
      have h13' : a.tmps[13]?.getD undef = .pointer (some ⟨p, 0, none⟩) := by rw [← h13]; simp [Array.getD_eq_getD_getElem?]
      have h19 : a.tmps.getD 19 undef = .int .i64 tg := hG.dep ⟨10, .data⟩ (by simp) rfl _ rfl
      have h19' : a.tmps[19]?.getD undef = .int .i64 tg := by rw [← h19]; simp [Array.getD_eq_getD_getElem?]
      unfold Oper.wp
      simp [go_sem, callFunc, Act.eval, Tryz.func15, h13', h19']
      refine Calls.mono (HWh.out _ (HX.out.1.trans (hC.mono HX.out.1.size))) ?_
      rintro e w8 ⟨⟨vl, hq1, rfl⟩, hb8⟩
      exact ⟨_, rfl, hb8, vl, hq1, rfl⟩
    | 12, _ =>
      cases hq
      obtain ⟨vl, hq1, h20⟩ := hG.dep ⟨11, .data⟩ (by simp) rfl _ rfl
      have h20 : a.tmps.getD 20 undef = .tuple #[.agg (prC h xk xn xr xs vl fu), .int .i64 0] := h20
      have h20' : a.tmps[20]?.getD undef = .tuple #[.agg (prC h xk xn xr xs vl fu), .int .i64 0] := by rw [← h20]; simp [Array.getD_eq_getD_getElem?]
      unfold Oper.wp
      simp [go_sem, Act.eval, h20']
      exact ⟨_, rfl, Below.refl _ _, vl, hq1, rfl⟩
    | 13, _ =>
      cases hq
      obtain ⟨vl, hq1, h8⟩ := hG.dep ⟨12, .data⟩ (by simp) rfl _ rfl
      have h8 : a.tmps.getD 8 undef = .tuple #[.agg (prC h xk xn xr xs vl fu), .int .i64 0] := h8
      have h8' : a.tmps[8]?.getD undef = .tuple #[.agg (prC h xk xn xr xs vl fu), .int .i64 0] := by rw [← h8]; simp [Array.getD_eq_getD_getElem?]
      unfold Oper.wp
      simp [go_sem, Act.eval, h8']
      exact ⟨_, rfl, Below.refl _ _, vl, hq1, rfl⟩
    | 14, _ =>
      exact absurd rfl hne
    | 15, _ =>
      cases hq
      unfold Oper.wp
      simp [go_sem]
      exact ⟨_, rfl, (Below.refl _ _).alloc (Nat.le_refl _) _, w7.heap.size, rfl, hC.size, blk_new _ _⟩
  intro a w7 hC hdf hsz hfr hphi
  have e0 : a.tmps.getD 9 undef = .pointer (some ⟨b, 0, none⟩) := hphi 0 _ rfl
  have e1 : a.tmps.getD 10 undef = .pointer (some ⟨b, 0, none⟩) := hphi 1 _ rfl
  have e2 : a.tmps.getD 11 undef = .pointer (some ⟨b, 0, none⟩) := hphi 2 _ rfl
  have e3 : a.tmps.getD 12 undef = .pointer (some ⟨b, 0, none⟩) := hphi 3 _ rfl
  have e4 : a.tmps.getD 13 undef = .pointer (some ⟨p, 0, none⟩) := hphi 4 _ rfl
  have e5 : a.tmps.getD 14 undef = .pointer (some ⟨b, 0, none⟩) := hphi 5 _ rfl
  have e6 : a.tmps.getD 15 undef = .pointer (some ⟨b, 0, none⟩) := hphi 6 _ rfl
  have e7 : a.tmps.getD 16 undef = .pointer (some ⟨b, 0, none⟩) := hphi 7 _ rfl
  have e8 : a.tmps.getD 17 undef = .pointer (some ⟨b, 2, none⟩) := hphi 8 _ rfl
  have e9 : a.tmps.getD 18 undef = .pointer (some ⟨b, 12, none⟩) := hphi 9 _ rfl
  have e10 : a.tmps.getD 19 undef = .int .i64 tg := hphi 10 _ rfl
  have p11 : ∃ vl, VlOk xl vl ∧ (a.tmps.getD 20 undef) = .tuple #[.agg (prC h xk xn xr xs vl fu), .int .i64 0] := hphi 11 _ rfl
  obtain ⟨u11, e11⟩ : ∃ u, a.tmps.getD 20 undef = u := ⟨_, rfl⟩
  rw [e11] at p11
  have p12 : ∃ vl, VlOk xl vl ∧ (a.tmps.getD 8 undef) = .tuple #[.agg (prC h xk xn xr xs vl fu), .int .i64 0] := hphi 12 _ rfl
  obtain ⟨u12, e12⟩ : ∃ u, a.tmps.getD 8 undef = u := ⟨_, rfl⟩
  rw [e12] at p12
  have p13 : ∃ vl, VlOk xl vl ∧ (a.tmps.getD 21 undef) = .agg (prC h xk xn xr xs vl fu) := hphi 13 _ rfl
  obtain ⟨u13, e13⟩ : ∃ u, a.tmps.getD 21 undef = u := ⟨_, rfl⟩
  rw [e13] at p13
  have e14 : a.tmps.getD 22 undef = .int .i64 0 := hphi 14 _ rfl
  obtain ⟨g, e15, hg0, hg⟩ := hphi 15 _ rfl
  have e15 : a.tmps.getD 6 undef = .pointer (some ⟨g, 0, none⟩) := e15
  have ha := act_of hdf hsz hfr
  simp only [List.take_succ_cons, List.take_zero, List.filterMap_cons, List.filterMap_nil, List.foldl_cons, List.foldl_nil, List.setIfInBounds_toArray, List.set_cons_zero, List.set_cons_succ, e0, e1, e2, e3, e4, e5, e6, e7, e8, e9, e10, e11, e12, e13, e14, e15] at ha
  clear hdf hsz hfr hphi e0 e1 e2 e3 e4 e5 e6 e7 e8 e9 e10 e11 e12 e13 e14 e15
  subst ha
  obtain ⟨vl1, ⟨-, pa1, n1, c1, hvl1⟩, rfl⟩ := p13
  clear p11 p12
  have hst := storeWhat_blk (c' := prC h xk xn xr xs vl1 fu) hg rfl rfl (by rw [hvl1]; simp [go_sem])
  refine ⟨w7.setRow g (prC h xk xn xr xs vl1 fu), ?_, ?_⟩
  · rw [execOp_stW]
    simp [Act.eval, hst]
  have HY : Hid (Below w.heap.size w (w7.setRow g (prC h xk xn xr xs vl1 fu)) ∧ (w7.setRow g (prC h xk xn xr xs vl1 fu)).heap[g]? = some (.cells (prC h xk xn xr xs vl1 fu) 42 (0, 0)) ∧ (w7.setRow g (prC h xk xn xr xs vl1 fu)).heap[b]? = some (.cells (baseC p r (kpT h' tg)) 133 (0, 0)) ∧
      (w7.setRow g (prC h xk xn xr xs vl1 fu)).heap[w.heap.size + 1]? = some (.cells zV 34 (0, 0)) ∧ (w7.setRow g (prC h xk xn xr xs vl1 fu)).heap[w.heap.size]? = some (.cells #[.int .u8 vk, .int .i64 vn, .string vstr, .slice pv nv cv, .int .i64 vr] 34 (0, 0)) ∧ w.heap.size + 1 < g) := by
    have h1 := blk_lt HX.out.2.2
    refine ⟨Below.setRow (HX.out.1.trans (hC.mono HX.out.1.size)) (by omega) _, heap_setRow_at hg, ?_, ?_, ?_, by omega⟩
    · rw [heap_setRow_other _ _ _ _ (by omega)]
      exact below_blk hC Hb.out
    · rw [heap_setRow_other _ _ _ _ (by omega)]
      exact below_blk hC HX.out.2.2
    · rw [heap_setRow_other _ _ _ _ (by omega)]
      exact below_blk hC HX.out.2.1
  clear hst hg hg0 hC HX Hb
  refine ⟨rfl, ?_⟩
  unfold Oper.wp
  simp [execOp, go_sem, Act.eval, wpTailG]
  revert HY
  generalize World.setRow _ _ _ = w8
  intro HY
  refine ‹∀ (a : Act) (w : World), Code.wp Tryz.prog _ _ a w → _› _ _ ?_
  have c13 : w8.cell? ⟨g, 13, none⟩ = some (.bool fu) := by rw [cell_blk HY.out.2.1]; rfl
  cases fu with
  | true =>
    have hst : (stV (.pointer (some ⟨w.heap.size + 1, 0, none⟩)) (.agg #[.int .u8 0, .int .i64 0, .string ⟨#[]⟩, .slice none 0 0, .int .i64 0])).run Tryz.prog w8 = .ok .skip w8 := stV_same HY.out.2.2.2.1 rfl (by simp [zV]) (by simp [go_sem]) (by simp [zV])
    obtain ⟨⟨r0, r1, r2, r3, r4⟩, -⟩ := cells5 HY.out.2.2.2.1
    go_wp2_with fail
    exact bodyPost_ret (v := .tuple #[.agg zV, .int .i64 83]) (by simp [results, Tryz.results148, go_sem, r0, r1, r2, r3, r4, zV]) rfl (.inl ⟨rfl, rfl, HY.out.1⟩)
  | false =>
    go_upto_region 6 with fail
    obtain ⟨⟨d0, d1, d2, d3, d4⟩, -⟩ := cells5 HY.out.2.2.2.2.1
    have f13 := frozen_blk HY.out.2.1 13
    have f2 := frozen_blk HY.out.2.1 2
    have f3 := frozen_blk HY.out.2.1 3
    have f4 := frozen_blk HY.out.2.1 4
    have f5 := frozen_blk HY.out.2.1 5
    have f6 := frozen_blk HY.out.2.1 6
    have q2 : w8.cell? ⟨g, 2, none⟩ = some (.int .u8 xk) := by rw [cell_blk HY.out.2.1]; rfl
    have q3 : w8.cell? ⟨g, 3, none⟩ = some (.int .i64 xn) := by rw [cell_blk HY.out.2.1]; rfl
    have q4 : w8.cell? ⟨g, 4, none⟩ = some (.string xs) := by rw [cell_blk HY.out.2.1]; rfl
    have q5 : w8.cell? ⟨g, 5, none⟩ = some vl1 := by rw [cell_blk HY.out.2.1]; rfl
    have q6 : w8.cell? ⟨g, 6, none⟩ = some (.int .i64 xr) := by rw [cell_blk HY.out.2.1]; rfl
    have hgw : w.heap.size ≠ g := by have := HY.out.2.2.2.2.2; omega
    go_region
    go_upto_region 7 with fail
    have HZ : Hid (Below w.heap.size w ((((((w8.setCell ⟨g, 13, none⟩ (.bool true)).setCell ⟨g, 2, none⟩ (.int .u8 vk)).setCell ⟨g, 3, none⟩ (.int .i64 vn)).setCell ⟨g, 4, none⟩ (.string vstr)).setCell ⟨g, 5, none⟩ (.slice pv nv cv)).setCell ⟨g, 6, none⟩ (.int .i64 vr)).drew ∧ ((((((w8.setCell ⟨g, 13, none⟩ (.bool true)).setCell ⟨g, 2, none⟩ (.int .u8 vk)).setCell ⟨g, 3, none⟩ (.int .i64 vn)).setCell ⟨g, 4, none⟩ (.string vstr)).setCell ⟨g, 5, none⟩ (.slice pv nv cv)).setCell ⟨g, 6, none⟩ (.int .i64 vr)).drew.heap[g]? = some (.cells #[.int .u8 10, .int .i64 h, .int .u8 vk, .int .i64 vn, .string vstr, .slice pv nv cv, .int .i64 vr, .slice none 0 0, .int .i64 0, .int .i64 0, .int .i64 0, .int .i64 0, .int .u8 0, .bool true, .slice none 0 0, .slice none 0 0] 42 (0, 0)) ∧ ((((((w8.setCell ⟨g, 13, none⟩ (.bool true)).setCell ⟨g, 2, none⟩ (.int .u8 vk)).setCell ⟨g, 3, none⟩ (.int .i64 vn)).setCell ⟨g, 4, none⟩ (.string vstr)).setCell ⟨g, 5, none⟩ (.slice pv nv cv)).setCell ⟨g, 6, none⟩ (.int .i64 vr)).drew.heap[b]? = some (.cells (baseC p r (kpT h' tg)) 133 (0, 0)) ∧ ((((((w8.setCell ⟨g, 13, none⟩ (.bool true)).setCell ⟨g, 2, none⟩ (.int .u8 vk)).setCell ⟨g, 3, none⟩ (.int .i64 vn)).setCell ⟨g, 4, none⟩ (.string vstr)).setCell ⟨g, 5, none⟩ (.slice pv nv cv)).setCell ⟨g, 6, none⟩ (.int .i64 vr)).drew.heap[w.heap.size + 1]? = some (.cells zV 34 (0, 0))) := by
      have hk := (keeps_pr (w := w8) (g := g) (a0 := .bool true) (a1 := .int .u8 vk) (a2 := .int .i64 vn) (a3 := .string vstr) (a4 := .slice pv nv cv) (a5 := .int .i64 vr)).drew
      have hlg := HY.out.2.2.2.2.2
      have hl1 := blk_lt HY.out.2.2.2.1
      have hlb := blk_lt HY.out.2.2.1
      refine ⟨HY.out.1.trans (hk.below HY.out.1.size (fun y hy => by have : y = g := hy; omega)), blk_drew (pr_set HY.out.2.1), (hk.block b hlb (fun e => ?_)).trans HY.out.2.2.1, (hk.block _ hl1 (fun e => ?_)).trans HY.out.2.2.2.1⟩
      · have : b = g := e
        omega
      · have : w.heap.size + 1 = g := e
        omega
    clear d0 d1 d2 d3 d4 f13 f2 f3 f4 f5 f6 q2 q3 q4 q5 q6 hgw c13 HY
    revert HZ
    generalize World.drew _ = w9
    intro HZ
    have c0 : w9.drew.cell? ⟨b, 0, none⟩ = some (.pointer (some ⟨p, 0, none⟩)) := by rw [cell_blk (blk_drew HZ.out.2.2.1)]; rfl
    have c12 : w9.drew.cell? ⟨b, 12, none⟩ = some (.int .i64 tg) := by rw [cell_blk (blk_drew HZ.out.2.2.1)]; rfl
    have ldx : (ldW (.pointer (some ⟨g, 0, none⟩))).run Tryz.prog w9.drew = .ok (.value (.agg #[.int .u8 10, .int .i64 h, .int .u8 vk, .int .i64 vn, .string vstr, .slice pv nv cv, .int .i64 vr, .slice none 0 0, .int .i64 0, .int .i64 0, .int .i64 0, .int .i64 0, .int .u8 0, .bool true, .slice none 0 0, .slice none 0 0])) w9.drew := loadWhat_blk (blk_drew HZ.out.2.1) rfl
    obtain ⟨hv, hmv, hkn, hW, ht, hh⟩ := HP.out
    have hb9 : Below w.heap.size w w9.drew := HZ.out.1.drew
    have hW9 : IsW w9.drew p M F := hW.below hb9
    have hv9 : SlAt w9.drew FB (.slice pv nv cv) vl := hv.on hb9
    have hhm := held_pr (h := h) (raw := .slice pv nv cv) (fu := true) hkn
    have HL : Hid (Calls Tryz.prog 137 #[.pointer (some ⟨p, 0, none⟩), .int .i64 tg, .agg #[.int .u8 10, .int .i64 h, .int .u8 vk, .int .i64 vn, .string vstr, .slice pv nv cv, .int .i64 vr, .slice none 0 0, .int .i64 0, .int .i64 0, .int .i64 0, .int .i64 0, .int .u8 0, .bool true, .slice none 0 0, .slice none 0 0]] w9.drew fun e w' => e = .returned (.int .i64 0) ∧ LaidS w9.drew p M F tg (prT h ⟨vk, vn, vstr, vl, vr⟩ (.slice pv nv cv) true) w') := by
      have hP : thc (prT h ⟨vk, vn, vstr, vl, vr⟩ (.slice pv nv cv) true) = #[.int .u8 10, .int .i64 h, .int .u8 vk, .int .i64 vn, .string vstr, .slice pv nv cv, .int .i64 vr, .slice none 0 0, .int .i64 0, .int .i64 0, .int .i64 0, .int .i64 0, .int .u8 0, .bool true, .slice none 0 0, .slice none 0 0] := rfl
      rw [← hP]
      refine Lay_GS hW9 hr ht rfl (x := prT h ⟨vk, vn, vstr, vl, vr⟩ (.slice pv nv cv) true) ⟨hv9, SlAt.nil _ _ _ _, rfl, rfl⟩ ⟨hmv, fun x hx => (by cases hx), Nat.zero_le _⟩ rfl rfl rfl rfl rfl (fun r hr => (hhm r hr).1) (by unfold namesB; rw [List.all_eq_true]; exact fun r hr => (hhm r hr).2) ?_
      intro w' hb'
      have hV : VYes w' (vcs ⟨vk, vn, vstr, vl, vr⟩ (.slice pv nv cv)) := vYes (hv9.on hb') hmv
      exact formV_10 (hW9.below hb') hh hV ofYes0
    have HK := (show Hid _ from hb9)
    clear hv hmv hkn hW ht hh hW9 hv9 hhm HP hb9
    refine wp_region_turnK (z := _) 13 [0] (fun i => match i with | 0 => .agg zV | 1 => .pointer (some ⟨b, 0, none⟩) | 2 => .pointer (some ⟨b, 0, none⟩) | 3 => .pointer (some ⟨b, 0, none⟩) | 4 => .pointer (some ⟨b, 0, none⟩) | 5 => .pointer (some ⟨p, 0, none⟩) | 6 => .pointer (some ⟨b, 0, none⟩) | 7 => .pointer (some ⟨b, 0, none⟩) | 8 => .pointer (some ⟨b, 0, none⟩) | 9 => .pointer (some ⟨b, 2, none⟩) | 10 => .pointer (some ⟨b, 12, none⟩) | 11 => .int .i64 tg | 12 => .agg #[.int .u8 10, .int .i64 h, .int .u8 vk, .int .i64 vn, .string vstr, .slice pv nv cv, .int .i64 vr, .slice none 0 0, .int .i64 0, .int .i64 0, .int .i64 0, .int .i64 0, .int .u8 0, .bool true, .slice none 0 0, .slice none 0 0] | _ => undef) (fun v w' => v = .int .i64 0 ∧ LaidS w9.drew p M F tg (prT h ⟨vk, vn, vstr, vl, vr⟩ (.slice pv nv cv) true) w') (by kernel_rfl) rfl (by kernel_rfl) rfl (by kernel_rfl) (by kernel_rfl) ?_ ?_ ?_
    · intro i q a w7 hq hw hdep hfr
      have hj : i < 13 := (List.getElem?_eq_some_iff.1 hq).1
      match i, hj with
      | 0, _ =>
        cases hq
        clear hw hdep hfr
        simp [go_sem, zV]
      | 1, _ =>
        cases hq
        have hw : w7 = w9.drew := by simpa using hw
        subst hw
        have h0 : a.tmps.getD 0 undef = .pointer (some ⟨b, 0, none⟩) := hfr 0 (by simp)
        have h0' : a.tmps[0]?.getD undef = .pointer (some ⟨b, 0, none⟩) := by rw [← h0]; simp [Array.getD_eq_getD_getElem?]
        clear hdep hfr
        simp [go_sem, Act.eval, h0']
      | 2, _ =>
        cases hq
        have hw : w7 = w9.drew := by simpa using hw
        subst hw
        have h34 : a.tmps.getD 34 undef = .pointer (some ⟨b, 0, none⟩) := hdep ⟨1, .data⟩ (by simp) rfl _ rfl
        have h34' : a.tmps[34]?.getD undef = .pointer (some ⟨b, 0, none⟩) := by rw [← h34]; simp [Array.getD_eq_getD_getElem?]
        clear hdep hfr
        simp [go_sem, Act.eval, h34']
      | 3, _ =>
        cases hq
        have hw : w7 = w9.drew := by simpa using hw
        subst hw
        have h35 : a.tmps.getD 35 undef = .pointer (some ⟨b, 0, none⟩) := hdep ⟨2, .data⟩ (by simp) rfl _ rfl
        have h35' : a.tmps[35]?.getD undef = .pointer (some ⟨b, 0, none⟩) := by rw [← h35]; simp [Array.getD_eq_getD_getElem?]
        clear hdep hfr
        simp [go_sem, Act.eval, h35']
      | 4, _ =>
        cases hq
        have hw : w7 = w9.drew := by simpa using hw
        subst hw
        have h36 : a.tmps.getD 36 undef = .pointer (some ⟨b, 0, none⟩) := hdep ⟨3, .data⟩ (by simp) rfl _ rfl
        have h36' : a.tmps[36]?.getD undef = .pointer (some ⟨b, 0, none⟩) := by rw [← h36]; simp [Array.getD_eq_getD_getElem?]
        clear hdep hfr
        simp [go_sem, Act.eval, h36']
      | 5, _ =>
        cases hq
        have hw : w7 = w9.drew := by simpa using hw
        subst hw
        have h37 : a.tmps.getD 37 undef = .pointer (some ⟨b, 0, none⟩) := hdep ⟨4, .data⟩ (by simp) rfl _ rfl
        have h37' : a.tmps[37]?.getD undef = .pointer (some ⟨b, 0, none⟩) := by rw [← h37]; simp [Array.getD_eq_getD_getElem?]
        clear hdep hfr
        simp [go_sem, Act.eval, h37', c0]
      | 6, _ =>
        cases hq
        have hw : w7 = w9.drew := by simpa using hw
        subst hw
        have h0 : a.tmps.getD 0 undef = .pointer (some ⟨b, 0, none⟩) := hfr 0 (by simp)
        have h0' : a.tmps[0]?.getD undef = .pointer (some ⟨b, 0, none⟩) := by rw [← h0]; simp [Array.getD_eq_getD_getElem?]
        clear hdep hfr
        simp [go_sem, Act.eval, h0']
      | 7, _ =>
        cases hq
        have hw : w7 = w9.drew := by simpa using hw
        subst hw
        have h39 : a.tmps.getD 39 undef = .pointer (some ⟨b, 0, none⟩) := hdep ⟨6, .data⟩ (by simp) rfl _ rfl
        have h39' : a.tmps[39]?.getD undef = .pointer (some ⟨b, 0, none⟩) := by rw [← h39]; simp [Array.getD_eq_getD_getElem?]
        clear hdep hfr
        simp [go_sem, Act.eval, h39']
      | 8, _ =>
        cases hq
        have hw : w7 = w9.drew := by simpa using hw
        subst hw
        have h40 : a.tmps.getD 40 undef = .pointer (some ⟨b, 0, none⟩) := hdep ⟨7, .data⟩ (by simp) rfl _ rfl
        have h40' : a.tmps[40]?.getD undef = .pointer (some ⟨b, 0, none⟩) := by rw [← h40]; simp [Array.getD_eq_getD_getElem?]
        clear hdep hfr
        simp [go_sem, Act.eval, h40']
      | 9, _ =>
        cases hq
        have hw : w7 = w9.drew := by simpa using hw
        subst hw
        have h41 : a.tmps.getD 41 undef = .pointer (some ⟨b, 0, none⟩) := hdep ⟨8, .data⟩ (by simp) rfl _ rfl
        have h41' : a.tmps[41]?.getD undef = .pointer (some ⟨b, 0, none⟩) := by rw [← h41]; simp [Array.getD_eq_getD_getElem?]
        clear hdep hfr
        simp [go_sem, Act.eval, h41']
      | 10, _ =>
        cases hq
        have hw : w7 = w9.drew := by simpa using hw
        subst hw
        have h42 : a.tmps.getD 42 undef = .pointer (some ⟨b, 2, none⟩) := hdep ⟨9, .data⟩ (by simp) rfl _ rfl
        have h42' : a.tmps[42]?.getD undef = .pointer (some ⟨b, 2, none⟩) := by rw [← h42]; simp [Array.getD_eq_getD_getElem?]
        clear hdep hfr
        simp [go_sem, Act.eval, h42']
      | 11, _ =>
        cases hq
        have hw : w7 = w9.drew := by simpa using hw
        subst hw
        have h43 : a.tmps.getD 43 undef = .pointer (some ⟨b, 12, none⟩) := hdep ⟨10, .data⟩ (by simp) rfl _ rfl
        have h43' : a.tmps[43]?.getD undef = .pointer (some ⟨b, 12, none⟩) := by rw [← h43]; simp [Array.getD_eq_getD_getElem?]
        clear hdep hfr
        simp [go_sem, Act.eval, h43', c12]
      | 12, _ =>
        cases hq
        have hw : w7 = w9.drew := by simpa using hw
        subst hw
        have h6 : a.tmps.getD 6 undef = .pointer (some ⟨g, 0, none⟩) := hfr 6 (by simp)
        have h6' : a.tmps[6]?.getD undef = .pointer (some ⟨g, 0, none⟩) := by rw [← h6]; simp [Array.getD_eq_getD_getElem?]
        clear hdep hfr
        rw [execOp_ldW]
        show (ldW (a.tmps.getD 6 undef)).run _ _ = _
        rw [h6]
        exact ldx
    · intro a hdep hfr
      have h38 : a.tmps.getD 38 undef = .pointer (some ⟨p, 0, none⟩) := hdep ⟨5, .data⟩ (by simp) rfl _ rfl
      have h38' : a.tmps[38]?.getD undef = .pointer (some ⟨p, 0, none⟩) := by rw [← h38]; simp [Array.getD_eq_getD_getElem?]
      have h44 : a.tmps.getD 44 undef = .int .i64 tg := hdep ⟨11, .data⟩ (by simp) rfl _ rfl
      have h44' : a.tmps[44]?.getD undef = .int .i64 tg := by rw [← h44]; simp [Array.getD_eq_getD_getElem?]
      have h45 : a.tmps.getD 45 undef = .agg #[.int .u8 10, .int .i64 h, .int .u8 vk, .int .i64 vn, .string vstr, .slice pv nv cv, .int .i64 vr, .slice none 0 0, .int .i64 0, .int .i64 0, .int .i64 0, .int .i64 0, .int .u8 0, .bool true, .slice none 0 0, .slice none 0 0] := hdep ⟨12, .data⟩ (by simp) rfl _ rfl
      have h45' : a.tmps[45]?.getD undef = .agg #[.int .u8 10, .int .i64 h, .int .u8 vk, .int .i64 vn, .string vstr, .slice pv nv cv, .int .i64 vr, .slice none 0 0, .int .i64 0, .int .i64 0, .int .i64 0, .int .i64 0, .int .u8 0, .bool true, .slice none 0 0, .slice none 0 0] := by rw [← h45]; simp [Array.getD_eq_getD_getElem?]
      clear hdep hfr
      unfold Oper.wp
      simp [go_sem, callFunc, Act.eval, Tryz.func137, h38', h44', h45']
      refine Calls.mono HL.out ?_
      rintro e w5 ⟨rfl, hl⟩
      exact ⟨_, rfl, rfl, hl⟩
    · intro a w5 v hP hdf hsz hfr hval hv
      obtain ⟨rfl, hl⟩ := hP
      have e0 : a.tmps.getD 33 undef = .agg zV := hval 0 _ rfl
      have e1 : a.tmps.getD 34 undef = .pointer (some ⟨b, 0, none⟩) := hval 1 _ rfl
      have e2 : a.tmps.getD 35 undef = .pointer (some ⟨b, 0, none⟩) := hval 2 _ rfl
      have e3 : a.tmps.getD 36 undef = .pointer (some ⟨b, 0, none⟩) := hval 3 _ rfl
      have e4 : a.tmps.getD 37 undef = .pointer (some ⟨b, 0, none⟩) := hval 4 _ rfl
      have e5 : a.tmps.getD 38 undef = .pointer (some ⟨p, 0, none⟩) := hval 5 _ rfl
      have e6 : a.tmps.getD 39 undef = .pointer (some ⟨b, 0, none⟩) := hval 6 _ rfl
      have e7 : a.tmps.getD 40 undef = .pointer (some ⟨b, 0, none⟩) := hval 7 _ rfl
      have e8 : a.tmps.getD 41 undef = .pointer (some ⟨b, 0, none⟩) := hval 8 _ rfl
      have e9 : a.tmps.getD 42 undef = .pointer (some ⟨b, 2, none⟩) := hval 9 _ rfl
      have e10 : a.tmps.getD 43 undef = .pointer (some ⟨b, 12, none⟩) := hval 10 _ rfl
      have e11 : a.tmps.getD 44 undef = .int .i64 tg := hval 11 _ rfl
      have e12 : a.tmps.getD 45 undef = .agg #[.int .u8 10, .int .i64 h, .int .u8 vk, .int .i64 vn, .string vstr, .slice pv nv cv, .int .i64 vr, .slice none 0 0, .int .i64 0, .int .i64 0, .int .i64 0, .int .i64 0, .int .u8 0, .bool true, .slice none 0 0, .slice none 0 0] := hval 12 _ rfl
      have ha := act_of hdf hsz hfr
      simp only [List.take_succ_cons, List.take_zero, List.cons_append, List.nil_append, List.filterMap_cons, List.filterMap_nil, List.foldl_cons, List.foldl_nil, List.setIfInBounds_toArray, List.set_cons_zero, List.set_cons_succ, e0, e1, e2, e3, e4, e5, e6, e7, e8, e9, e10, e11, e12, hv] at ha
      clear hdf hsz hfr hval hv e0 e1 e2 e3 e4 e5 e6 e7 e8 e9 e10 e11 e12
      subst ha
      have hr5 : w5.heap[w.heap.size + 1]? = some (.cells zV 34 (0, 0)) := by
        obtain ⟨vl', vals', F', l0, l1, l2, l3⟩ := hl
        exact (l2.block _ (blk_lt (blk_drew HZ.out.2.2.2)) (fun e => by have := HbF.out _ e; omega)).trans (blk_drew HZ.out.2.2.2)
      have hst : (stV (.pointer (some ⟨w.heap.size + 1, 0, none⟩)) (.agg zV)).run Tryz.prog w5 = .ok .skip w5 := stV_same hr5 rfl (by simp [zV]) (by simp [zV, go_sem]) (by simp [zV])
      have HE : Hid (∃ raw', LaidX w p M F tg (prT h ⟨vk, vn, vstr, vl, vr⟩ raw' true) b w5) := by
        obtain ⟨vl', vals', F', ⟨-, l0⟩, l1, l2, l3⟩ := hl
        rw [l0 rfl] at l1
        exact ⟨vl', F', l1, (Below.keeps HK.out l2).mono (fun _ _ h => .inl h), fun y hy => (l3 y hy).imp id fun h => Nat.le_trans HK.out.size h⟩
      obtain ⟨⟨r0, r1, r2, r3, r4⟩, -⟩ := cells5 hr5
      clear hl hr5 c0 c12 ldx HL HK HZ
      unfold wpTail Oper.wp
      rw [execOp_stV]
      simp [go_sem, Act.eval, hst]
      unfold wpTail Oper.wp
      simp [execOp, go_sem, Act.eval, wpTail]
      refine ‹∀ (a : Act) (w : World), Code.wp Tryz.prog _ _ a w → _› _ _ ?_
      go_wp2_with fail
      refine bodyPost_ret (v := .tuple #[.agg zV, .int .i64 0]) (by simp [results, Tryz.results148, go_sem, r0, r1, r2, r3, r4, zV]) rfl (.inr ⟨rfl, rfl, HE.out⟩)
end Go.Proofs.YtcoiccbmcjdheaaGreat
/- plain: what acts on cells, promises, keepers come to. -/
namespace Go.Proofs.YtcoiccbmcjdheaaGreat
open Go.RowKit Go.ChangeMaps Go.MapKept
variable {w : World} {p : Nat} {M : WM} {F : Nat → Prop}

theorem act_1_2 (hW : IsW w p M F) {r : Int} (hr : (Lit.int .i64 r).wf = true) {h : Int} {x : Val} {raw0 : Value} (ht : M.at r = some (cellT h x raw0)) (hx : mayV x = true) (hh : sideB M h = true)
    {FB : Nat → Prop} {v : Val} {raw : Value} (hv : SlAt w FB raw v.l) (hm : mayV v = true) (hkn : ∀ r ∈ refsV v, (Lit.int .i64 r).wf = true ∧ (M.at r).isSome = true) :
    Calls Tryz.prog 38 #[.pointer (some ⟨p, 0, none⟩), .int .i64 r, .int .u8 2, .agg (vcs v raw)] w (ActPost w p F (fun v' c N => v' = nilV ∧ c = 0 ∧ ∃ raw', N = M.set r (cellT h v raw'))) := by
  refine (Do_1_2 hW hr ht ⟨hx, fun x hx => (by cases hx), Nat.zero_le _⟩ rfl hv hm hkn (Post := MethX p F (fun v' c N => v' = nilV ∧ c = 0 ∧ ∃ raw', N = M.set r (cellT h v raw'))) (Post' := fun v' raw n' w2 => MethX p F _ w v' raw n' w2)
    (methX_stab hW.lt) ?_).mono fun _ _ h => doAct h
  intro w0 w' b hb0 hfd
  obtain ⟨vl', vals', hb, hbw, hbel, -, -, h6, -⟩ := hfd
  have e6 : vals' = .slice none 0 0 := h6 rfl
  subst e6
  have hbb := hb0.trans (hbel.mono hb0.size)
  have hW' : IsW w' p M F := hW.below hbb
  exact (cPut_W hW' hr ht (rawC := vl') hb (fun e => by have := hW.lt b e; have := hb0.size; omega) hh (hv.lt.on hbb) (fun y hy e => by have := hy.2; have := hb0.size; omega) hm hkn).mono fun e w'' ⟨he, raw', F', l1, l2, l3⟩ =>
    ⟨nilV, none, 0, 0, he, l2, _, F', ⟨rfl, rfl, raw', rfl⟩, l1, fun y hy => (l3 y hy).imp id fun h => Nat.le_trans hbel.size h, SlT.nil _ _ _ _⟩
theorem act_10_1 (hW : IsW w p M F) {r : Int} (hr : (Lit.int .i64 r).wf = true) {h : Int} {x : Val} {raw0 : Value} (ht : M.at r = some (prT h x raw0 true)) (hx : mayV x = true) :
    Calls Tryz.prog 38 #[.pointer (some ⟨p, 0, none⟩), .int .i64 r, .int .u8 1, .agg (vcs nilV (.slice none 0 0))] w (ActPost w p F (fun v c N => v = x ∧ c = 0 ∧ N = M)) := by
  have hv := refsV0 0 0 (.inl ⟨rfl, rfl⟩)
  refine (Do_10_1 hW hr ht ⟨hx, fun x hx => (by cases hx), Nat.zero_le _⟩ rfl (v := nilV) (SlAt.nil w F none 0) hv.2 (fun r hr => by rw [hv.1] at hr; cases hr) (Post := MethX p F (fun v c N => v = x ∧ c = 0 ∧ N = M)) (Post' := fun v' raw n' w2 => MethX p F _ w v' raw n' w2)
    (methX_stab hW.lt) ?_).mono fun _ _ h => doAct h
  intro w0 w' b hb0 hfd
  obtain ⟨vl', vals', hb, hbw, hbel, hdeep, -, h6, -⟩ := hfd
  have e6 : vals' = .slice none 0 0 := h6 rfl
  subst e6
  have hW' : IsW w' p M F := hW.below (hb0.trans (hbel.mono hb0.size))
  obtain ⟨pv, cv, e⟩ := hdeep.v.form
  have e' : vl' = .slice pv x.l.length cv := e
  subst e'
  refine (prGet_W (x := x) (fu := true) hb).mono ?_
  rintro e w'' ⟨⟨-, he⟩ | ⟨he, -⟩, hb''⟩
  · exact ⟨x, pv, cv, 0, he, Keeps.of_below hb'', M, F, ⟨rfl, rfl, rfl⟩, hW'.below hb'', fun _ h => .inl h, (hdeep.v.on hb'').mono fun y hy => ⟨hy, fun e => by have := hW.lt y e; have := hb0.size; have : w0.heap.size ≤ y := hy; omega⟩⟩
  · cases he
theorem act_10_1n (hW : IsW w p M F) {r : Int} (hr : (Lit.int .i64 r).wf = true) {h : Int} (ht : M.at r = some (prT h nilV (.slice none 0 0) false)) :
    Calls Tryz.prog 38 #[.pointer (some ⟨p, 0, none⟩), .int .i64 r, .int .u8 1, .agg (vcs nilV (.slice none 0 0))] w (ActPost w p F (fun v c N => v = nilV ∧ c = 82 ∧ N = M)) := by
  have hv := refsV0 0 0 (.inl ⟨rfl, rfl⟩)
  refine (Do_10_1 hW hr ht ⟨hv.2, fun x hx => (by cases hx), Nat.zero_le _⟩ rfl (v := nilV) (SlAt.nil w F none 0) hv.2 (fun r hr => by rw [hv.1] at hr; cases hr) (Post := MethX p F (fun v c N => v = nilV ∧ c = 82 ∧ N = M)) (Post' := fun v' raw n' w2 => MethX p F _ w v' raw n' w2)
    (methX_stab hW.lt) ?_).mono fun _ _ h => doAct h
  intro w0 w' b hb0 hfd
  obtain ⟨vl', vals', hb, hbw, hbel, hdeep, h5, h6, -⟩ := hfd
  have e5 : vl' = .slice none 0 0 := h5 rfl
  have e6 : vals' = .slice none 0 0 := h6 rfl
  subst e5 e6
  have hW' : IsW w' p M F := hW.below (hb0.trans (hbel.mono hb0.size))
  refine (prGet_W (x := nilV) (fu := false) hb).mono ?_
  rintro e w'' ⟨⟨he, -⟩ | ⟨-, he⟩, hb''⟩
  · cases he
  · exact ⟨nilV, none, 0, 82, he, Keeps.of_below hb'', M, F, ⟨rfl, rfl, rfl⟩, hW'.below hb'', fun _ h => .inl h, SlT.nil _ _ _ _⟩
/-- What a keeper answers to a value. -/
def KeepX (M : WM) (tg h : Int) (v : Val) (fu : Bool) (v' : Val) (c : Int) (N : WM) : Prop :=
  v' = nilV ∧ ((fu = true ∧ c = 83 ∧ N = M) ∨ (fu = false ∧ c = 0 ∧ ∃ raw', N = M.set tg (prT h v raw' true)))
theorem act_11_8 (hW : IsW w p M F) {r tg : Int} (hr : (Lit.int .i64 r).wf = true) (hq : (Lit.int .i64 tg).wf = true) {h h' : Int} {x : Val} {raw0 : Value} {fu : Bool} (hk : M.at r = some (kpT h' tg)) (ht : M.at tg = some (prT h x raw0 fu)) (hx : mayV x = true) (hh : sideB M h = true)
    {FB : Nat → Prop} {v : Val} {raw : Value} (hv : SlAt w FB raw v.l) (hm : mayV v = true) (hkn : ∀ r ∈ refsV v, (Lit.int .i64 r).wf = true ∧ (M.at r).isSome = true) :
    Calls Tryz.prog 38 #[.pointer (some ⟨p, 0, none⟩), .int .i64 r, .int .u8 8, .agg (vcs v raw)] w (ActPost w p F (KeepX M tg h v fu)) := by
  obtain ⟨pv, cv, rfl⟩ := hv.form
  refine (Do_11_8 hW hr hk ⟨(refsV0 0 0 (.inl ⟨rfl, rfl⟩)).2, fun x hx => (by cases hx), Nat.zero_le _⟩ rfl hv hm hkn (Post := MethX p F (KeepX M tg h v fu)) (Post' := fun v' raw n' w2 => MethX p F _ w v' raw n' w2)
    (methX_stab hW.lt) ?_).mono fun _ _ h => doAct h
  intro w0 w' b hb0 hfd
  obtain ⟨vl', vals', hb, hbw, hbel, -, h5, h6, -⟩ := hfd
  have e5 : vl' = .slice none 0 0 := h5 rfl
  have e6 : vals' = .slice none 0 0 := h6 rfl
  subst e5 e6
  have hbb := hb0.trans (hbel.mono hb0.size)
  have hW' : IsW w' p M F := hW.below hbb
  refine (kpGive_W hW' hq hx ht hb (fun e => by have := hW.lt b e; have := hb0.size; omega) hh (hv.on hbb) hm hkn).mono ?_
  rintro e w'' (⟨hf, he, hb''⟩ | ⟨hf, he, raw', F', l1, l2, l3⟩)
  · exact ⟨nilV, none, 0, 83, he, Keeps.of_below hb'', M, F, ⟨rfl, .inl ⟨hf, rfl, rfl⟩⟩, hW'.below hb'', fun _ h => .inl h, SlT.nil _ _ _ _⟩
  · exact ⟨nilV, none, 0, 0, he, l2, _, F', ⟨rfl, .inr ⟨hf, rfl, raw', rfl⟩⟩, l1, fun y hy => (l3 y hy).imp id fun h => Nat.le_trans hbel.size h, SlT.nil _ _ _ _⟩
end Go.Proofs.YtcoiccbmcjdheaaGreat
/- other: where no other thing of a kind leans so, it says no. -/
namespace Go.Proofs.YtcoiccbmcjdheaaGreat
open Go.RowKit Go.ChangeMaps Go.MapKept
variable {w : World} {p : Nat} {M : WM} {F : Nat → Prop}

set_option maxHeartbeats 2000000 in
set_option maxRecDepth 20000 in
theorem other_no (hW : IsW w p M F) {r k tg : Int} (hno : ∀ q t, M.at q = some t → q ≠ r → t.kind = k → t.tgt ≠ tg) :
    Calls Tryz.prog 101 #[.pointer (some ⟨p, 0, none⟩), .int .i64 r, .int .u8 k, .int .i64 tg] w fun e w' => e = .returned (.bool false) ∧ Below w.heap.size w w' := by
  obtain ⟨pa, pc, cg, cc, mg, mc, tb, fb, fn, bl, hV⟩ := hW
  have HV := (show Hid _ from hV)
  have Hno : Hid (∀ q t, M.at q = some t → q ≠ r → t.kind = k → t.tgt ≠ tg) := hno
  have c2 := hV.c2
  have HT1 := (show Hid _ from hV.things)
  clear hV hno
  go_enter Tryz.func101, Tryz.ntmps101
  go_wp2_with (first | (at_range; refine range_H rfl _ 72 79 rfl Tryz.underlying72 tb _ (thf M bl) rfl HT1.out ?_; intro w3 L cnt hrg hL hb3))
  have HG3 := (show Hid (Rg w3 tb w.heap.size (thf M bl) L cnt) from hrg)
  have HB3 := (show Hid (Below w.heap.size w w3) from hb3)
  clear hrg hL hb3 c2 HT1
  obtain ⟨r0, hr0⟩ : ∃ r0, r0 = w.heap.size := ⟨_, rfl⟩
  have Hr0 := (show Hid _ from hr0)
  rw [← hr0] at HG3
  rw [← hr0]
  clear hr0
  simp only [Go.Act.put, List.setIfInBounds_toArray, List.set_cons_succ, List.set_cons_zero]
  go_loopw [] (fun wr => ∃ L cnt, Hid (Rg wr tb r0 (thf M bl) L cnt) ∧ Hid (Below w.heap.size w wr)) (fun wr => wr.rangeLeft tb r0)
  case atStart => exact ⟨L, cnt, HG3, HB3⟩
  case round =>
    clear HG3 HB3
    obtain ⟨L, cnt, HG, HB⟩ := hrel
    go_wp2_with (first | (at_next; refine next_H rfl _ rfl tb r0 (thf M bl) L cnt rfl HG.out ?_ ?_))
    · intro _
      clear HG
      go_wp2_with fail
      go_ret
      exact ⟨rfl, HB.out⟩
    · intro x v w4 cnt' hx hLx hf hrg' hlt hk hsz hen
      obtain ⟨t, ht, rfl⟩ := thf_some hf
      have hne := Hno.out x t ht
      have hB4 : Below w.heap.size w w4 := HB.out.trans (hk.below HB.out.size (fun y hy => by have : y = r0 := hy; rw [this, Hr0.out]; exact Nat.le_refl _))
      have HB4 := (show Hid _ from hB4)
      have hbl := (HV.out.below hB4).blk x _ ht
      have HG4 := (show Hid (Rg w4 tb r0 (thf M bl) (fun z => L z && !decide (z = x)) cnt') from hrg')
      have Hlt := (show Hid (cnt' < cnt) from hlt)
      have Hcnt := (show Hid (wr.rangeLeft tb r0 = cnt) from HG.out.left_eq)
      obtain ⟨q0, q1, -, -, q10, q11, q12, q13⟩ := thc_cell hbl.1
      clear hLx hf hrg' hlt hk hsz ht HG hB4 hbl q1 q11 q12 q13
      have fin : (∃ L cnt, Hid (Rg w4 tb r0 (thf M bl) L cnt) ∧ Hid (Below w.heap.size w w4)) ∧ w4.rangeLeft tb r0 < wr.rangeLeft tb r0 := ⟨⟨_, _, HG4, HB4⟩, by rw [Hcnt.out, HG4.out.left_eq]; exact Hlt.out⟩
      have HF := (show Hid _ from fin)
      clear fin HG4 HB4 Hlt Hcnt
      by_cases e1 : x = r
      · clear hne
        go_wp2_with fail
        exact HF.out
      · by_cases e2 : t.kind = k
        · have e3 : (t.tgt == tg) = false := by simpa using hne e1 e2
          have e4 : (x != r && t.tgt == tg) = false := by rw [e3]; exact Bool.and_false _
          clear hne
          go_wp2_with fail
          exact HF.out
        · clear hne
          go_wp2_with fail
          exact HF.out
end Go.Proofs.YtcoiccbmcjdheaaGreat
