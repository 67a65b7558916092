/- A part of the proof, several texts in one: PlG. -/
import Derived.Test.YthaliljaglldjaaGreatmAX
/- plain: get of a tally, a cell, a log; put where there is none. Printed by gen_get.py. -/
namespace Go.Proofs.YthaliljaglldjaaGreat
open Go.RowKit Go.ChangeMaps Go.MapKept
variable {w : World} {p : Nat} {M : WM} {F : Nat → Prop}
theorem execOp_ldVg6 (ρ : Operand → Value) (ty : TypeId) (pos : String) (af : Array Edge) (g : Option (Nat × Bool)) :
    execOp ρ { dst := some 6, op := .load 27 (.tmp 3), type := ty, pos := pos, after := af, guard := g } = ldV (ρ (.tmp 3)) := rfl
theorem execOp_ldVg12 (ρ : Operand → Value) (ty : TypeId) (pos : String) (af : Array Edge) (g : Option (Nat × Bool)) :
    execOp ρ { dst := some 12, op := .load 27 (.tmp 11), type := ty, pos := pos, after := af, guard := g } = ldV (ρ (.tmp 11)) := rfl
theorem ldV_mid {w : World} {b o : Nat} {c : Array Value} {e : TypeId} {fr : Nat × Nat} (hb : w.heap[b]? = some (.cells c e fr)) {cs : List Value} (hc : ∀ j x, cs[j]? = some x → c[o + j]? = some x) (hs : cs.length = 5) : (ldV (.pointer (some ⟨b, o, none⟩))).run Tryz.prog w = .ok (.value (.agg cs.toArray)) w :=
  loadV_mid (fun j x hj => by rw [cell_blk hb]; exact hc j x hj) hs
theorem baseC_at4 {p : Nat} {r : Int} {t : Th} {pv : Option Addr} {nl cv : Nat} (hvl : t.vl = .slice pv nl cv) {j : Nat} {x : Value} (h : (#[.int .u8 t.v.kind, .int .i64 t.v.n, .string t.v.s, .slice pv nl cv, .int .i64 t.v.r] : Array Value).toList[j]? = some x) : (baseC p r t)[4 + j]? = some x := by
  rw [← hvl] at h
  have hj : j < 5 := (List.getElem?_eq_some_iff.1 h).1
  match j, hj, h with
  | 0, _, h => exact h
  | 1, _, h => exact h
  | 2, _, h => exact h
  | 3, _, h => exact h
  | 4, _, h => exact h
def cGetPhi (b : Nat) (vk vn vr : Int) (vstr : ByteArray) (pv : Option Addr) (nl cv : Nat) (j : Nat) (v : Value) (_ : World) : Prop :=
  match j with
  | 0 => v = .agg zV
  | 1 => v = .pointer (some ⟨b, 0, none⟩)
  | 2 => v = .pointer (some ⟨b, 0, none⟩)
  | 3 => v = .pointer (some ⟨b, 0, none⟩)
  | 4 => v = .pointer (some ⟨b, 2, none⟩)
  | 5 => v = .pointer (some ⟨b, 4, none⟩)
  | 6 => v = .agg #[.int .u8 vk, .int .i64 vn, .string vstr, .slice pv nl cv, .int .i64 vr]
  | 7 => v = .tuple #[.agg #[.int .u8 vk, .int .i64 vn, .string vstr, .slice pv nl cv, .int .i64 vr], .int .i64 0]
  | 8 => v = .agg #[.int .u8 vk, .int .i64 vn, .string vstr, .slice pv nl cv, .int .i64 vr]
  | 9 => v = .int .i64 0
  | _ => True
attribute [local go_sem ↓] execOp_ldVg6 in
set_option maxHeartbeats 4000000 in
set_option maxRecDepth 20000 in
theorem cGet_W {b : Nat} {r : Int} {t : Th} (hb : w.heap[b]? = some (.cells (baseC p r t) 247 (0, 0))) {pv : Option Addr} {nl cv : Nat} (hvl : t.vl = .slice pv nl cv) :
    Calls Tryz.prog 321 #[.pointer (some ⟨b, 0, none⟩), .agg zV] w fun e w' => e = .returned (.tuple #[.agg #[.int .u8 t.v.kind, .int .i64 t.v.n, .string t.v.s, .slice pv nl cv, .int .i64 t.v.r], .int .i64 0]) ∧ Below w.heap.size w w' := by
  have hlt := blk_lt hb
  have HX : Hid (Below w.heap.size w ((w.alloc (.cells #[.int .u8 0, .int .i64 0, .string ⟨#[]⟩, .slice none 0 0, .int .i64 0] 27)).alloc (.cells #[.int .u8 0, .int .i64 0, .string ⟨#[]⟩, .slice none 0 0, .int .i64 0] 27)) ∧
      ((w.alloc (.cells #[.int .u8 0, .int .i64 0, .string ⟨#[]⟩, .slice none 0 0, .int .i64 0] 27)).alloc (.cells #[.int .u8 0, .int .i64 0, .string ⟨#[]⟩, .slice none 0 0, .int .i64 0] 27)).heap[w.heap.size]? = some (.cells zV 27 (0, 0)) ∧
      ((w.alloc (.cells #[.int .u8 0, .int .i64 0, .string ⟨#[]⟩, .slice none 0 0, .int .i64 0] 27)).alloc (.cells #[.int .u8 0, .int .i64 0, .string ⟨#[]⟩, .slice none 0 0, .int .i64 0] 27)).heap[w.heap.size + 1]? = some (.cells zV 27 (0, 0))) :=
    ⟨((Below.refl _ _).alloc (Nat.le_refl _) _).alloc (by simp) _, blk2_old _ _ _, blk2_new _ _ _⟩
  simp only [zV]
  go_enter Tryz.func321, Tryz.ntmps321
  go_upto_region 1 with fail
  revert HX
  generalize (w.alloc _).alloc _ = wa
  intro HX
  have Hb : Hid (wa.heap[b]? = some (.cells (baseC p r t) 247 (0, 0))) := (HX.out.1.block b hlt).trans hb
  refine wp_region_growK 10 (by kernel_rfl) rfl (by kernel_rfl) (by kernel_rfl) (fun a b => Below a.heap.size a b) (cGetPhi b t.v.kind t.v.n t.v.r t.v.s pv nl cv) (fun w' => Below wa.heap.size wa w') (fun j v w w' _ h => h) below_drew (fun a b h hR => h.trans (hR.mono h.size)) ?_ ?_ ?_
  · exact fun _ _ _ _ h1 h2 => noGuard (by kernel_rfl) h1 h2
  · intro j q a w7 hq hC hG
    have hj : j < 10 := (List.getElem?_eq_some_iff.1 hq).1
    match j, hj with
    | 0, _ =>
      cases hq
      have h3 : a.tmps.getD 3 undef = .pointer (some ⟨w.heap.size, 0, none⟩) := hG.fr 3 (by simp)
      refine step_g (.agg zV) ?_ (Below.refl _ _) rfl
      rw [execOp_ldVg6]
      show (ldV (a.tmps.getD 3 undef)).run _ _ = _
      rw [h3]
      exact loadV_blk (below_blk hC HX.out.2.1) rfl
    | 1, _ =>
      cases hq
      have h0 : a.tmps.getD 0 undef = .pointer (some ⟨b, 0, none⟩) := hG.fr 0 (by simp)
      exact step_g (.pointer (some ⟨b, 0, none⟩)) (by rw [← h0]; rfl) (Below.refl _ _) rfl
    | 2, _ => cases hq; have h7' : a.tmps[7]?.getD undef = .pointer (some ⟨b, 0, none⟩) := gq (hG.dep ⟨1, .data⟩ (by simp) rfl _ rfl); unfold Oper.wp; simp [go_sem, Act.eval, h7']; exact ⟨_, rfl, Below.refl _ _, rfl⟩
    | 3, _ => cases hq; have h8' : a.tmps[8]?.getD undef = .pointer (some ⟨b, 0, none⟩) := gq (hG.dep ⟨2, .data⟩ (by simp) rfl _ rfl); unfold Oper.wp; simp [go_sem, Act.eval, h8']; exact ⟨_, rfl, Below.refl _ _, rfl⟩
    | 4, _ => cases hq; have h9' : a.tmps[9]?.getD undef = .pointer (some ⟨b, 0, none⟩) := gq (hG.dep ⟨3, .data⟩ (by simp) rfl _ rfl); unfold Oper.wp; simp [go_sem, Act.eval, h9']; exact ⟨_, rfl, Below.refl _ _, rfl⟩
    | 5, _ => cases hq; have h10' : a.tmps[10]?.getD undef = .pointer (some ⟨b, 2, none⟩) := gq (hG.dep ⟨4, .data⟩ (by simp) rfl _ rfl); unfold Oper.wp; simp [go_sem, Act.eval, h10']; exact ⟨_, rfl, Below.refl _ _, rfl⟩
    | 6, _ =>
      cases hq
      have h11 : a.tmps.getD 11 undef = .pointer (some ⟨b, 4, none⟩) := hG.dep ⟨5, .data⟩ (by simp) rfl _ rfl
      have h11' : a.tmps[11]?.getD undef = .pointer (some ⟨b, 4, none⟩) := gq h11
      refine step_g (.agg #[.int .u8 t.v.kind, .int .i64 t.v.n, .string t.v.s, .slice pv nl cv, .int .i64 t.v.r]) ?_ (Below.refl _ _) rfl
      rw [execOp_ldVg12]
      show (ldV (a.tmps.getD 11 undef)).run _ _ = _
      rw [h11]
      exact ldV_mid (below_blk hC Hb.out) (cs := #[.int .u8 t.v.kind, .int .i64 t.v.n, .string t.v.s, .slice pv nl cv, .int .i64 t.v.r].toList) (by intro j x hj; exact baseC_at4 hvl hj) rfl
    | 7, _ =>
      cases hq
      have h6' : a.tmps[6]?.getD undef = .agg zV := gq (hG.dep ⟨0, .data⟩ (by simp) rfl _ rfl)
      have h12' : a.tmps[12]?.getD undef = .agg #[.int .u8 t.v.kind, .int .i64 t.v.n, .string t.v.s, .slice pv nl cv, .int .i64 t.v.r] := gq (hG.dep ⟨6, .data⟩ (by simp) rfl _ rfl)
      unfold Oper.wp
      simp [go_sem, callFunc, Act.eval, Tryz.func325, h6', h12', zV]
      refine (told_W _ _ _ _ _ _ _ _).mono ?_
      rintro e w8 ⟨rfl, hb8⟩
      exact ⟨_, rfl, hb8, rfl⟩
    | 8, _ => cases hq; have h13' : a.tmps[13]?.getD undef = .tuple #[.agg #[.int .u8 t.v.kind, .int .i64 t.v.n, .string t.v.s, .slice pv nl cv, .int .i64 t.v.r], .int .i64 0] := gq (hG.dep ⟨7, .data⟩ (by simp) rfl _ rfl); unfold Oper.wp; simp [go_sem, Act.eval, h13']; exact ⟨_, rfl, Below.refl _ _, rfl⟩
    | 9, _ => cases hq; have h13' : a.tmps[13]?.getD undef = .tuple #[.agg #[.int .u8 t.v.kind, .int .i64 t.v.n, .string t.v.s, .slice pv nl cv, .int .i64 t.v.r], .int .i64 0] := gq (hG.dep ⟨7, .data⟩ (by simp) rfl _ rfl); unfold Oper.wp; simp [go_sem, Act.eval, h13']; exact ⟨_, rfl, Below.refl _ _, rfl⟩
  · intro a w7 hC hdf hsz hfr hphi
    have e0 : a.tmps.getD 6 undef = .agg zV := hphi 0 _ rfl
    have e1 : a.tmps.getD 7 undef = .pointer (some ⟨b, 0, none⟩) := hphi 1 _ rfl
    have e2 : a.tmps.getD 8 undef = .pointer (some ⟨b, 0, none⟩) := hphi 2 _ rfl
    have e3 : a.tmps.getD 9 undef = .pointer (some ⟨b, 0, none⟩) := hphi 3 _ rfl
    have e4 : a.tmps.getD 10 undef = .pointer (some ⟨b, 2, none⟩) := hphi 4 _ rfl
    have e5 : a.tmps.getD 11 undef = .pointer (some ⟨b, 4, none⟩) := hphi 5 _ rfl
    have e6 : a.tmps.getD 12 undef = .agg #[.int .u8 t.v.kind, .int .i64 t.v.n, .string t.v.s, .slice pv nl cv, .int .i64 t.v.r] := hphi 6 _ rfl
    have e7 : a.tmps.getD 13 undef = .tuple #[.agg #[.int .u8 t.v.kind, .int .i64 t.v.n, .string t.v.s, .slice pv nl cv, .int .i64 t.v.r], .int .i64 0] := hphi 7 _ rfl
    have e8 : a.tmps.getD 14 undef = .agg #[.int .u8 t.v.kind, .int .i64 t.v.n, .string t.v.s, .slice pv nl cv, .int .i64 t.v.r] := hphi 8 _ rfl
    have e9 : a.tmps.getD 15 undef = .int .i64 0 := hphi 9 _ rfl
    have ha := act_of hdf hsz hfr
    simp only [List.take_succ_cons, List.take_zero, List.filterMap_cons, List.filterMap_nil, List.foldl_cons, List.foldl_nil, List.setIfInBounds_toArray, List.set_cons_zero, List.set_cons_succ, e0, e1, e2, e3, e4, e5, e6, e7, e8, e9] at ha
    clear hdf hsz hfr hphi e0 e1 e2 e3 e4 e5 e6 e7 e8 e9
    subst ha
    have hg7 := below_blk hC HX.out.2.2
    have hst := storeV_blk (c' := #[.int .u8 t.v.kind, .int .i64 t.v.n, .string t.v.s, .slice pv nl cv, .int .i64 t.v.r]) hg7 rfl rfl (by simp [go_sem])
    have HZ := (show Hid _ from heap_setRow_at (c' := #[.int .u8 t.v.kind, .int .i64 t.v.n, .string t.v.s, .slice pv nl cv, .int .i64 t.v.r]) hg7)
    have HB := (show Hid (Below w.heap.size w (w7.setRow (w.heap.size + 1) #[.int .u8 t.v.kind, .int .i64 t.v.n, .string t.v.s, .slice pv nl cv, .int .i64 t.v.r])) from Below.setRow (HX.out.1.trans (hC.mono HX.out.1.size)) (Nat.le_succ _) _)
    clear hC hg7 HX Hb
    refine ⟨rfl, ?_⟩
    unfold Oper.wp
    rw [execOp_stV]
    simp [go_sem, Act.eval, hst]
    refine ⟨rfl, ?_⟩
    unfold Oper.wp
    simp [execOp, go_sem, Act.eval, wpTailG]
    obtain ⟨⟨r0, r1, r2, r3, r4⟩, -⟩ := cells5 HZ.out
    refine ‹∀ (a : Act) (w : World), Code.wp Tryz.prog _ _ a w → _› _ _ ?_
    go_wp2_with fail
    refine bodyPost_ret (v := .tuple #[.agg #[.int .u8 t.v.kind, .int .i64 t.v.n, .string t.v.s, .slice pv nl cv, .int .i64 t.v.r], .int .i64 0]) (by simp [results, Tryz.results321, go_sem, r0, r1, r2, r3, r4]) rfl ⟨rfl, HB.out⟩
set_option maxRecDepth 8000 in
theorem bPut_W (w : World) (q : Option Addr) (vk vn vr : Int) (vstr : ByteArray) (pv : Option Addr) (nl cv : Nat) : Calls Tryz.prog 328 #[.pointer q, .agg #[.int .u8 vk, .int .i64 vn, .string vstr, .slice pv nl cv, .int .i64 vr]] w fun e w' => e = .returned (.tuple #[.agg zV, .int .i64 6]) ∧ Below w.heap.size w w' := by
  go_enter Tryz.func328, Tryz.ntmps328
  go_wp2
  go_returns
  exact ⟨rfl, by go_grown⟩
end Go.Proofs.YthaliljaglldjaaGreat
