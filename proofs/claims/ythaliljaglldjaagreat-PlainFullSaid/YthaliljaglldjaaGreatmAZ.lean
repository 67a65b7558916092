/- A part of the proof, several texts in one: PlQ. -/
import Derived.Test.YthaliljaglldjaaGreatmAY
import Derived.Test.YthaliljaglldjaaGreatmAJ
/- plain: a value more behind some. Printed by gen_q.py. -/
namespace Go.Proofs.YthaliljaglldjaaGreat
open Go.RowKit Go.ChangeMaps Go.MapKept
variable {w : World} {p : Nat} {M : WM} {F : Nat → Prop}
abbrev qT (k h : Int) (vs : List Val) (vals : Value) : Th := ⟨k, h, ⟨0, 0, ⟨#[]⟩, [], 0⟩, .slice none 0 0, vs, vals, 0, 0, 0, 0, 0, false, .slice none 0 0, .slice none 0 0⟩
theorem execOp_ldVq25 (ρ : Operand → Value) (ty : TypeId) (pos : String) (af : Array Edge) (g : Option (Nat × Bool)) :
    execOp ρ { dst := some 25, op := .load 27 (.tmp 3), type := ty, pos := pos, after := af, guard := g } = ldV (ρ (.tmp 3)) := rfl
def AdPhi (b n cs : Nat) (ps : Option Addr) (vk vn vr : Int) (vstr : ByteArray) (pv : Option Addr) (nv cv : Nat) (FA FB : Nat → Prop) (B : Nat) (l : List Val) (j : Nat) (v : Value) (w : World) : Prop :=
  match j with
  | 0 => v = .pointer (some ⟨b, 0, none⟩)
  | 1 => v = .pointer (some ⟨b, 0, none⟩)
  | 2 => v = .pointer (some ⟨b, 2, none⟩)
  | 3 => v = .pointer (some ⟨b, 9, none⟩)
  | 4 => v = .slice ps n cs
  | 5 => v = .pointer (some ⟨b, 0, none⟩)
  | 6 => v = .pointer (some ⟨b, 0, none⟩)
  | 7 => v = .pointer (some ⟨b, 2, none⟩)
  | 8 => v = .pointer (some ⟨b, 9, none⟩)
  | 9 => v = .slice ps n cs
  | 10 => v = .int .i64 n
  | 11 => v = .pointer (some ⟨b, 0, none⟩)
  | 12 => v = .pointer (some ⟨b, 0, none⟩)
  | 13 => v = .pointer (some ⟨b, 2, none⟩)
  | 14 => v = .pointer (some ⟨b, 9, none⟩)
  | 15 => v = .slice ps n cs
  | 16 => v = .int .i64 n
  | 17 => v = .slice ps n n
  | 18 => v = .agg #[.int .u8 vk, .int .i64 vn, .string vstr, .slice pv nv cv, .int .i64 vr]
  | 19 => ∃ g, v = .slice (some ⟨g, 0, none⟩) 1 1 ∧ w.heap[g]? = some (.cells #[.int .u8 vk, .int .i64 vn, .string vstr, .slice pv nv cv, .int .i64 vr] 27 (0, 0))
  | 20 => SlAt w (fun y => FA y ∨ FB y ∨ B ≤ y) v l ∧ CapOk v
  | _ => True
theorem AdPhi.stab {b n cs : Nat} {ps : Option Addr} {vk vn vr : Int} {vstr : ByteArray} {pv : Option Addr} {nv cv : Nat} {FA FB : Nat → Prop} {B : Nat} {l : List Val} : ∀ (j : Nat) (v : Value) (w w' : World), Below w.heap.size w w' → AdPhi b n cs ps vk vn vr vstr pv nv cv FA FB B l j v w → AdPhi b n cs ps vk vn vr vstr pv nv cv FA FB B l j v w' := by
  intro j v w w' hR h
  unfold AdPhi at h ⊢
  split at h
  · exact h
  · exact h
  · exact h
  · exact h
  · exact h
  · exact h
  · exact h
  · exact h
  · exact h
  · exact h
  · exact h
  · exact h
  · exact h
  · exact h
  · exact h
  · exact h
  · exact h
  · exact h
  · exact h
  · obtain ⟨g, h1, h2⟩ := h
    exact ⟨g, h1, below_blk hR h2⟩
  · exact ⟨h.1.on hR, h.2⟩
  · trivial
theorem held_more {k h : Int} {vs : List Val} {v : Val} {a b : Value} (h1 : ∀ r ∈ heldL (qT k h vs a), (Lit.int .i64 r).wf = true ∧ (M.at r).isSome = true) (h2 : ∀ r ∈ refsV v, (Lit.int .i64 r).wf = true ∧ (M.at r).isSome = true) :
    ∀ r ∈ heldL (qT k h (vs ++ [v]) b), (Lit.int .i64 r).wf = true ∧ (M.at r).isSome = true := by
  intro r hr
  have e : heldL (qT k h (vs ++ [v]) b) = heldL (qT k h vs a) ++ refsV v := by simp [heldL]
  rw [e] at hr
  rcases List.mem_append.1 hr with hr | hr
  · exact h1 r hr
  · exact h2 r hr
theorem may_list_len {l : List Val} (h : mayV (listV l) = true) : l.length ≤ 511 := by
  unfold mayV at h
  by_cases hl : l.length > 511
  · rw [show (512 : Nat) = 511 + 1 from rfl, tk3l (v := listV l) rfl hl] at h
    cases h
  · omega
theorem ofE_may {l : List Val} (h1 : ∀ x ∈ l, mayV x = true) (h2 : mayV (listV l) = true) : ofE l = 0 := by
  unfold ofE
  rw [List.all_eq_true.2 h1, h2]
  rfl
theorem slice_full (w : World) (ps : Option Addr) (n cs : Nat) (h : n ≤ cs) : (Instr.sliceAt 24 (.slice ps n cs) none (some (.int .i64 n)) (some (.int .i64 n))).run Tryz.prog w = .ok (.slice ps n n) w := by
  simp [go_sem, h]
attribute [local go_sem ↓] execOp_ldVq25 in
set_option maxHeartbeats 8000000 in
set_option maxRecDepth 20000 in
theorem bAdded_W (hW : IsW w p M F) {r : Int} (hr : (Lit.int .i64 r).wf = true) {k h : Int} (hk : k = 2 ∨ k = 4) {vs : List Val} {vals0 vals : Value} (ht : M.at r = some (qT k h vs vals0)) {ty : TypeId} {b : Nat} (hb : w.heap[b]? = some (.cells (baseC p r (qT k h vs vals)) ty (0, 0))) (hbF : ¬ F b)
    (hh : sideB M h = true) {FA FB : Nat → Prop} (hS : SlAt w FA vals vs) (hFA : ∀ y, FA y → y ≠ b) (hcap : CapOk vals) (hheld : ∀ r ∈ heldL (qT k h vs vals0), (Lit.int .i64 r).wf = true ∧ (M.at r).isSome = true) (hmay : ∀ x ∈ vs, mayV x = true) (hlen : vs.length ≤ 1024)
    {v : Val} {raw : Value} (hv : SlAt w FB raw v.l) (hFB : ∀ y, FB y → y ≠ b) (hm : mayV v = true) (hkn : ∀ r ∈ refsV v, (Lit.int .i64 r).wf = true ∧ (M.at r).isSome = true) :
    Calls Tryz.prog 320 #[.pointer (some ⟨b, 0, none⟩), .agg (vcs v raw)] w fun e w' =>
      (mayV (listV (vs ++ [v])) = true ∧ e = .returned (.tuple #[.agg zV, .int .i64 0]) ∧ ∃ vals', LaidB w p M F r (qT k h (vs ++ [v]) vals') b w') ∨
      (mayV (listV (vs ++ [v])) = false ∧ e = .returned (.tuple #[.agg zV, .int .i64 8]) ∧ Below w.heap.size w w') := by
  obtain ⟨pv, cv, rfl⟩ := hv.form
  obtain ⟨ps, cs, hvals⟩ := hS.form
  subst hvals
  have hlt := blk_lt hb
  have HS : Hid (SlAt w FA (.slice ps vs.length cs) vs ∧ SlAt w FB (.slice pv v.l.length cv) v.l ∧ vs.length ≤ 1024) := ⟨hS, hv, hlen⟩
  have Hn : Hid (vs.length ≤ cs ∧ (ps = none → vs.length = 0)) := by
    obtain ⟨a, n, c, e, h1, h2⟩ := hcap
    cases e
    exact ⟨h1, fun e => by have := h2 e; omega⟩
  have HP : Hid ((∀ y, FA y → y ≠ b) ∧ (∀ y, FB y → y ≠ b) ∧ (∀ r ∈ heldL (qT k h vs vals0), (Lit.int .i64 r).wf = true ∧ (M.at r).isSome = true) ∧ (∀ x ∈ vs, mayV x = true) ∧ mayV v = true ∧ (∀ r ∈ refsV v, (Lit.int .i64 r).wf = true ∧ (M.at r).isSome = true) ∧ IsW w p M F ∧ M.at r = some (qT k h vs vals0) ∧ sideB M h = true ∧ (k = 2 ∨ k = 4)) := ⟨hFA, hFB, hheld, hmay, hm, hkn, hW, ht, hh, hk⟩
  clear hFA hFB hheld hmay hm hkn hS hv hlen hcap hW ht hh hk
  obtain ⟨vk, vn, vstr, vl, vr⟩ := v
  simp only [vcs] at HS HP ⊢
  generalize hnv : vl.length = nv at *
  generalize hn : vs.length = n at *
  have HX : Hid (Below w.heap.size w ((w.alloc (.cells #[.int .u8 vk, .int .i64 vn, .string vstr, .slice pv nv cv, .int .i64 vr] 27)).alloc (.cells #[.int .u8 0, .int .i64 0, .string ⟨#[]⟩, .slice none 0 0, .int .i64 0] 27)) ∧
      ((w.alloc (.cells #[.int .u8 vk, .int .i64 vn, .string vstr, .slice pv nv cv, .int .i64 vr] 27)).alloc (.cells #[.int .u8 0, .int .i64 0, .string ⟨#[]⟩, .slice none 0 0, .int .i64 0] 27)).heap[w.heap.size]? = some (.cells #[.int .u8 vk, .int .i64 vn, .string vstr, .slice pv nv cv, .int .i64 vr] 27 (0, 0)) ∧
      ((w.alloc (.cells #[.int .u8 vk, .int .i64 vn, .string vstr, .slice pv nv cv, .int .i64 vr] 27)).alloc (.cells #[.int .u8 0, .int .i64 0, .string ⟨#[]⟩, .slice none 0 0, .int .i64 0] 27)).heap[w.heap.size + 1]? = some (.cells zV 27 (0, 0))) :=
    ⟨((Below.refl _ _).alloc (Nat.le_refl _) _).alloc (by simp) _, blk2_old _ _ _, blk2_new _ _ _⟩
  go_enter Tryz.func320, Tryz.ntmps320
  go_upto_region 1 with fail
  revert HX
  generalize (w.alloc _).alloc _ = wa
  intro HX
  have Hb : Hid (wa.heap[b]? = some (.cells (baseC p r (qT k h vs (.slice ps n cs))) ty (0, 0))) := (HX.out.1.block b hlt).trans hb
  have HS : Hid (SlAt wa FA (.slice ps n n) vs ∧ SlAt wa FB (.slice pv nv cv) vl ∧ vs.length ≤ 1024) := by
    refine ⟨?_, HS.out.2.1.on HX.out.1, by have := HS.out.2.2; omega⟩
    have := (HS.out.1.on HX.out.1).front (k := vs.length) (Nat.le_refl _) n
    rwa [List.take_length, hn] at this
  refine wp_region_growK 21 (by kernel_rfl) rfl (by kernel_rfl) (by kernel_rfl) (fun a b => Below a.heap.size a b) (AdPhi b n cs ps vk vn vr vstr pv nv cv FA FB wa.heap.size (vs ++ [⟨vk, vn, vstr, vl, vr⟩])) (fun w' => Below wa.heap.size wa w') (fun j v w w' => AdPhi.stab j v w w') below_drew (fun a b h hR => h.trans (hR.mono h.size)) ?_ ?_ ?_
  · exact fun _ _ _ _ h1 h2 => noGuard (by kernel_rfl) h1 h2
  · intro j q a w7 hq hC hG
    have hj : j < 21 := (List.getElem?_eq_some_iff.1 hq).1
    match j, hj with
    | 0, _ =>
      cases hq
      have h0 : a.tmps.getD 0 undef = .pointer (some ⟨b, 0, none⟩) := hG.fr 0 (by simp)
      exact step_g (.pointer (some ⟨b, 0, none⟩)) (by rw [← h0]; rfl) (Below.refl _ _) rfl
    | 1, _ => cases hq; have h7' : a.tmps[7]?.getD undef = .pointer (some ⟨b, 0, none⟩) := gq (hG.dep ⟨0, .data⟩ (by simp) rfl _ rfl); unfold Oper.wp; simp [go_sem, Act.eval, h7']; exact ⟨_, rfl, Below.refl _ _, rfl⟩
    | 2, _ => cases hq; have h8' : a.tmps[8]?.getD undef = .pointer (some ⟨b, 0, none⟩) := gq (hG.dep ⟨1, .data⟩ (by simp) rfl _ rfl); unfold Oper.wp; simp [go_sem, Act.eval, h8']; exact ⟨_, rfl, Below.refl _ _, rfl⟩
    | 3, _ => cases hq; have h9' : a.tmps[9]?.getD undef = .pointer (some ⟨b, 2, none⟩) := gq (hG.dep ⟨2, .data⟩ (by simp) rfl _ rfl); unfold Oper.wp; simp [go_sem, Act.eval, h9']; exact ⟨_, rfl, Below.refl _ _, rfl⟩
    | 4, _ =>
      cases hq
      have h10' : a.tmps[10]?.getD undef = .pointer (some ⟨b, 9, none⟩) := gq (hG.dep ⟨3, .data⟩ (by simp) rfl _ rfl)
      have c : w7.cell? ⟨b, 9, none⟩ = some (.slice ps n cs) := by rw [cell_blk (below_blk hC Hb.out)]; rfl
      unfold Oper.wp
      simp [go_sem, Act.eval, h10', c]
      exact ⟨_, rfl, Below.refl _ _, rfl⟩
    | 5, _ =>
      cases hq
      have h0 : a.tmps.getD 0 undef = .pointer (some ⟨b, 0, none⟩) := hG.fr 0 (by simp)
      exact step_g (.pointer (some ⟨b, 0, none⟩)) (by rw [← h0]; rfl) (Below.refl _ _) rfl
    | 6, _ => cases hq; have h12' : a.tmps[12]?.getD undef = .pointer (some ⟨b, 0, none⟩) := gq (hG.dep ⟨5, .data⟩ (by simp) rfl _ rfl); unfold Oper.wp; simp [go_sem, Act.eval, h12']; exact ⟨_, rfl, Below.refl _ _, rfl⟩
    | 7, _ => cases hq; have h13' : a.tmps[13]?.getD undef = .pointer (some ⟨b, 0, none⟩) := gq (hG.dep ⟨6, .data⟩ (by simp) rfl _ rfl); unfold Oper.wp; simp [go_sem, Act.eval, h13']; exact ⟨_, rfl, Below.refl _ _, rfl⟩
    | 8, _ => cases hq; have h14' : a.tmps[14]?.getD undef = .pointer (some ⟨b, 2, none⟩) := gq (hG.dep ⟨7, .data⟩ (by simp) rfl _ rfl); unfold Oper.wp; simp [go_sem, Act.eval, h14']; exact ⟨_, rfl, Below.refl _ _, rfl⟩
    | 9, _ =>
      cases hq
      have h15' : a.tmps[15]?.getD undef = .pointer (some ⟨b, 9, none⟩) := gq (hG.dep ⟨8, .data⟩ (by simp) rfl _ rfl)
      have c : w7.cell? ⟨b, 9, none⟩ = some (.slice ps n cs) := by rw [cell_blk (below_blk hC Hb.out)]; rfl
      unfold Oper.wp
      simp [go_sem, Act.eval, h15', c]
      exact ⟨_, rfl, Below.refl _ _, rfl⟩
    | 10, _ => cases hq; have h16' : a.tmps[16]?.getD undef = .slice ps n cs := gq (hG.dep ⟨9, .data⟩ (by simp) rfl _ rfl); unfold Oper.wp; simp [go_sem, Act.eval, h16']; exact ⟨_, rfl, Below.refl _ _, rfl⟩
    | 11, _ =>
      cases hq
      have h0 : a.tmps.getD 0 undef = .pointer (some ⟨b, 0, none⟩) := hG.fr 0 (by simp)
      exact step_g (.pointer (some ⟨b, 0, none⟩)) (by rw [← h0]; rfl) (Below.refl _ _) rfl
    | 12, _ => cases hq; have h18' : a.tmps[18]?.getD undef = .pointer (some ⟨b, 0, none⟩) := gq (hG.dep ⟨11, .data⟩ (by simp) rfl _ rfl); unfold Oper.wp; simp [go_sem, Act.eval, h18']; exact ⟨_, rfl, Below.refl _ _, rfl⟩
    | 13, _ => cases hq; have h19' : a.tmps[19]?.getD undef = .pointer (some ⟨b, 0, none⟩) := gq (hG.dep ⟨12, .data⟩ (by simp) rfl _ rfl); unfold Oper.wp; simp [go_sem, Act.eval, h19']; exact ⟨_, rfl, Below.refl _ _, rfl⟩
    | 14, _ => cases hq; have h20' : a.tmps[20]?.getD undef = .pointer (some ⟨b, 2, none⟩) := gq (hG.dep ⟨13, .data⟩ (by simp) rfl _ rfl); unfold Oper.wp; simp [go_sem, Act.eval, h20']; exact ⟨_, rfl, Below.refl _ _, rfl⟩
    | 15, _ =>
      cases hq
      have h21' : a.tmps[21]?.getD undef = .pointer (some ⟨b, 9, none⟩) := gq (hG.dep ⟨14, .data⟩ (by simp) rfl _ rfl)
      have c : w7.cell? ⟨b, 9, none⟩ = some (.slice ps n cs) := by rw [cell_blk (below_blk hC Hb.out)]; rfl
      unfold Oper.wp
      simp [go_sem, Act.eval, h21', c]
      exact ⟨_, rfl, Below.refl _ _, rfl⟩
    | 16, _ => cases hq; have h22' : a.tmps[22]?.getD undef = .slice ps n cs := gq (hG.dep ⟨15, .data⟩ (by simp) rfl _ rfl); unfold Oper.wp; simp [go_sem, Act.eval, h22']; exact ⟨_, rfl, Below.refl _ _, rfl⟩
    | 17, _ =>
      cases hq
      have h11' : a.tmps[11]?.getD undef = .slice ps n cs := gq (hG.dep ⟨4, .data⟩ (by simp) rfl _ rfl)
      have h17' : a.tmps[17]?.getD undef = .int .i64 n := gq (hG.dep ⟨10, .data⟩ (by simp) rfl _ rfl)
      have h23' : a.tmps[23]?.getD undef = .int .i64 n := gq (hG.dep ⟨16, .data⟩ (by simp) rfl _ rfl)
      have hncs := Hn.out.1
      refine step_g (.slice ps n n) ?_ (Below.refl _ _) rfl
      have hsl := slice_full w7 ps n cs hncs
      simp [execOp, Act.eval, h11', h17', h23', hsl, Result.andThen]
    | 18, _ =>
      cases hq
      have h3 : a.tmps.getD 3 undef = .pointer (some ⟨w.heap.size, 0, none⟩) := hG.fr 3 (by simp)
      refine step_g (.agg #[.int .u8 vk, .int .i64 vn, .string vstr, .slice pv nv cv, .int .i64 vr]) ?_ (Below.refl _ _) rfl
      rw [execOp_ldVq25]
      show (ldV (a.tmps.getD 3 undef)).run _ _ = _
      rw [h3]
      exact loadV_blk (below_blk hC HX.out.2.1) rfl
    | 19, _ =>
      cases hq
      have h25' : a.tmps[25]?.getD undef = .agg #[.int .u8 vk, .int .i64 vn, .string vstr, .slice pv nv cv, .int .i64 vr] := gq (hG.dep ⟨18, .data⟩ (by simp) rfl _ rfl)
      unfold Oper.wp
      simp [go_sem, Act.eval, h25']
      exact ⟨_, rfl, (Below.refl _ _).alloc (Nat.le_refl _) _, w7.heap.size, rfl, blk_new _ _⟩
    | 20, _ =>
      cases hq
      have h24 : a.tmps.getD 24 undef = .slice ps n n := hG.dep ⟨17, .data⟩ (by simp) rfl _ rfl
      obtain ⟨g, h26, hg26⟩ := hG.dep ⟨19, .data⟩ (by simp) rfl _ rfl
      have h26 : a.tmps.getD 26 undef = .slice (some ⟨g, 0, none⟩) 1 1 := h26
      obtain ⟨u, w8, hrun, hs8, hb8, hc8⟩ := run_more (v := ⟨vk, vn, vstr, vl, vr⟩) (rv := .slice pv nv cv) (HS.out.1.on hC) (HS.out.2.1.on hC) HS.out.2.2 hg26 Hn.out.2 24
      refine step_g u ?_ hb8 ⟨hs8.mono fun y hy => by rcases hy with hy | hy | hy; exact .inl hy; exact .inr (.inl hy); exact .inr (.inr (Nat.le_trans hC.size hy)), hc8⟩
      simp [execOp, resolve, invoke, builtin, Act.eval, h24, h26, hrun, Result.andThen]
  · intro a w7 hC hdf hsz hfr hphi
    obtain ⟨u, hu⟩ : ∃ u, a.tmps.getD 27 undef = u := ⟨_, rfl⟩
    obtain ⟨q19, h19, -⟩ := hphi 19 _ rfl
    have e19 : a.tmps.getD 26 undef = .slice (some ⟨q19, 0, none⟩) 1 1 := h19
    have hsu : SlAt w7 (fun y => FA y ∨ FB y ∨ wa.heap.size ≤ y) (a.tmps.getD 27 undef) (vs ++ [⟨vk, vn, vstr, vl, vr⟩]) ∧ CapOk (a.tmps.getD 27 undef) := hphi 20 _ rfl
    rw [hu] at hsu
    have e20 : a.tmps.getD 27 undef = u := hu
    have e0 : a.tmps.getD 7 undef = .pointer (some ⟨b, 0, none⟩) := hphi 0 _ rfl
    have e1 : a.tmps.getD 8 undef = .pointer (some ⟨b, 0, none⟩) := hphi 1 _ rfl
    have e2 : a.tmps.getD 9 undef = .pointer (some ⟨b, 2, none⟩) := hphi 2 _ rfl
    have e3 : a.tmps.getD 10 undef = .pointer (some ⟨b, 9, none⟩) := hphi 3 _ rfl
    have e4 : a.tmps.getD 11 undef = .slice ps n cs := hphi 4 _ rfl
    have e5 : a.tmps.getD 12 undef = .pointer (some ⟨b, 0, none⟩) := hphi 5 _ rfl
    have e6 : a.tmps.getD 13 undef = .pointer (some ⟨b, 0, none⟩) := hphi 6 _ rfl
    have e7 : a.tmps.getD 14 undef = .pointer (some ⟨b, 2, none⟩) := hphi 7 _ rfl
    have e8 : a.tmps.getD 15 undef = .pointer (some ⟨b, 9, none⟩) := hphi 8 _ rfl
    have e9 : a.tmps.getD 16 undef = .slice ps n cs := hphi 9 _ rfl
    have e10 : a.tmps.getD 17 undef = .int .i64 n := hphi 10 _ rfl
    have e11 : a.tmps.getD 18 undef = .pointer (some ⟨b, 0, none⟩) := hphi 11 _ rfl
    have e12 : a.tmps.getD 19 undef = .pointer (some ⟨b, 0, none⟩) := hphi 12 _ rfl
    have e13 : a.tmps.getD 20 undef = .pointer (some ⟨b, 2, none⟩) := hphi 13 _ rfl
    have e14 : a.tmps.getD 21 undef = .pointer (some ⟨b, 9, none⟩) := hphi 14 _ rfl
    have e15 : a.tmps.getD 22 undef = .slice ps n cs := hphi 15 _ rfl
    have e16 : a.tmps.getD 23 undef = .int .i64 n := hphi 16 _ rfl
    have e17 : a.tmps.getD 24 undef = .slice ps n n := hphi 17 _ rfl
    have e18 : a.tmps.getD 25 undef = .agg #[.int .u8 vk, .int .i64 vn, .string vstr, .slice pv nv cv, .int .i64 vr] := hphi 18 _ rfl
    have ha := act_of hdf hsz hfr
    simp only [List.take_succ_cons, List.take_zero, List.filterMap_cons, List.filterMap_nil, List.foldl_cons, List.foldl_nil, List.setIfInBounds_toArray, List.set_cons_zero, List.set_cons_succ, e0, e1, e2, e3, e4, e5, e6, e7, e8, e9, e10, e11, e12, e13, e14, e15, e16, e17, e18, e19, e20] at ha
    clear hdf hsz hfr hphi e0 e1 e2 e3 e4 e5 e6 e7 e8 e9 e10 e11 e12 e13 e14 e15 e16 e17 e18 e19 e20 h19 hu
    subst ha
    refine ⟨rfl, ?_⟩
    unfold Oper.wp
    simp [execOp, go_sem, Act.eval, wpTailG]
    obtain ⟨pu, cu, hform⟩ := hsu.1.form
    have Hnu : Hid ((vs ++ [⟨vk, vn, vstr, vl, vr⟩] : List Val).length = n + 1) := by show _ = _; simp [hn]
    rw [Hnu.out] at hform
    subst hform
    have HU : Hid (Below w.heap.size w w7 ∧ SlAt w7 (fun y => FA y ∨ FB y ∨ wa.heap.size ≤ y) (.slice pu (n + 1) cu) (vs ++ [⟨vk, vn, vstr, vl, vr⟩]) ∧ w7.heap[b]? = some (.cells (baseC p r (qT k h vs (.slice ps n cs))) ty (0, 0)) ∧ w7.heap[w.heap.size + 1]? = some (.cells zV 27 (0, 0)) ∧ w.heap.size ≤ wa.heap.size) :=
      ⟨HX.out.1.trans (hC.mono HX.out.1.size), hsu.1, below_blk hC Hb.out, below_blk hC HX.out.2.2, HX.out.1.size⟩
    clear hsu hC Hb HX HS
    refine ‹∀ (a : Act) (w : World), Code.wp Tryz.prog _ _ a w → _› _ _ ?_
    go_wp2_with fail
    refine (list_W _ _ _ _).mono ?_
    rintro e w8 ⟨rfl, hb8⟩
    have HU8 : Hid (Below w.heap.size w w8 ∧ SlAt w8 (fun y => FA y ∨ FB y ∨ wa.heap.size ≤ y) (.slice pu (n + 1) cu) (vs ++ [⟨vk, vn, vstr, vl, vr⟩]) ∧ w8.heap[b]? = some (.cells (baseC p r (qT k h vs (.slice ps n cs))) ty (0, 0)) ∧ w8.heap[w.heap.size + 1]? = some (.cells zV 27 (0, 0))) :=
      ⟨HU.out.1.trans (hb8.mono HU.out.1.size), HU.out.2.1.on hb8, below_blk hb8 HU.out.2.2.1, below_blk hb8 HU.out.2.2.2.1⟩
    clear hb8
    go_wp2_with fail
    have hml := vMay_G (v := listV (vs ++ [⟨vk, vn, vstr, vl, vr⟩])) (raw := .slice pu (n + 1) cu) HU8.out.2.1
    have HML : Hid (Calls Tryz.prog 161 #[.agg #[.int .u8 3, .int .i64 0, .string ⟨#[]⟩, .slice pu (n + 1) cu, .int .i64 0]] w8 fun e w' => e = .returned (.bool (mayV (listV (vs ++ [⟨vk, vn, vstr, vl, vr⟩])))) ∧ Below w8.heap.size w8 w') := hml
    clear hml
    cases hmay : mayV (listV (vs ++ [⟨vk, vn, vstr, vl, vr⟩])) with
    | false =>
      rw [hmay] at HML
      have Hmay := (show Hid _ from hmay)
      refine Calls.mono HML.out ?_
      rintro e w9 ⟨rfl, hb9⟩
      have HB9 := (show Hid (Below w.heap.size w w9) from HU8.out.1.trans (hb9.mono HU8.out.1.size))
      have hr9 := below_blk hb9 HU8.out.2.2.2
      have HR9 := (show Hid _ from hr9)
      obtain ⟨⟨r0, r1, r2, r3, r4⟩, q0, q1, q2, q3, q4⟩ := cells5 hr9
      have s0 : w9.setCell ⟨w.heap.size + 1, 0, none⟩ (.int .u8 0) = w9 := setCell_same hr9 rfl
      have s1 : w9.setCell ⟨w.heap.size + 1, 1, none⟩ (.int .i64 0) = w9 := setCell_same hr9 rfl
      have s2 : w9.setCell ⟨w.heap.size + 1, 2, none⟩ (.string ⟨#[]⟩) = w9 := setCell_same hr9 rfl
      have s3 : w9.setCell ⟨w.heap.size + 1, 3, none⟩ (.slice none 0 0) = w9 := setCell_same hr9 rfl
      have s4 : w9.setCell ⟨w.heap.size + 1, 4, none⟩ (.int .i64 0) = w9 := setCell_same hr9 rfl
      clear hb9 HU8 HU hr9 HML
      go_wp2_with fail
      refine bodyPost_ret (v := .tuple #[.agg zV, .int .i64 8]) (by simp [results, Tryz.results320, go_sem, r0, r1, r2, r3, r4, zV]) rfl (.inr ⟨Hmay.out, rfl, HB9.out⟩)
    | true =>
      rw [hmay] at HML
      have Hmay := (show Hid _ from hmay)
      refine Calls.mono HML.out ?_
      rintro e w9 ⟨rfl, hb9⟩
      have HU9 : Hid (Below w.heap.size w w9 ∧ SlAt w9 (fun y => FA y ∨ FB y ∨ wa.heap.size ≤ y) (.slice pu (n + 1) cu) (vs ++ [⟨vk, vn, vstr, vl, vr⟩]) ∧ w9.heap[b]? = some (.cells (baseC p r (qT k h vs (.slice ps n cs))) ty (0, 0)) ∧ w9.heap[w.heap.size + 1]? = some (.cells zV 27 (0, 0))) :=
        ⟨HU8.out.1.trans (hb9.mono HU8.out.1.size), HU8.out.2.1.on hb9, below_blk hb9 HU8.out.2.2.1, below_blk hb9 HU8.out.2.2.2⟩
      have f9 := frozen_blk HU9.out.2.2.1 9
      have c9 : w9.cell? ⟨b, 9, none⟩ = some (.slice ps n cs) := by rw [cell_blk HU9.out.2.2.1]; rfl
      have hb3 : (w9.setCell ⟨b, 9, none⟩ (.slice pu (n + 1) cu)).heap[b]? = some (.cells (baseC p r (qT k h (vs ++ [⟨vk, vn, vstr, vl, vr⟩]) (.slice pu (n + 1) cu))) ty (0, 0)) := blk_setCell HU9.out.2.2.1 9 (.slice pu (n + 1) cu)
      have hk3 : Keeps (fun y => y = b) w (w9.setCell ⟨b, 9, none⟩ (.slice pu (n + 1) cu)) := Below.keeps HU9.out.1 (Keeps.setCell (S := fun y => y = b) w9 ⟨b, 9, none⟩ _ rfl)
      have hr3 : (w9.setCell ⟨b, 9, none⟩ (.slice pu (n + 1) cu)).heap[w.heap.size + 1]? = some (.cells zV 27 (0, 0)) := blk_other HU9.out.2.2.2 ⟨b, 9, none⟩ _ (by simp; omega)
      have hs3 : SlAt (w9.setCell ⟨b, 9, none⟩ (.slice pu (n + 1) cu)) (fun y => FA y ∨ FB y ∨ wa.heap.size ≤ y) (.slice pu (n + 1) cu) (vs ++ [⟨vk, vn, vstr, vl, vr⟩]) := HU9.out.2.1.of_blocks (fun y hy => Below.heap_setCell w9 ⟨b, 9, none⟩ _ y (fun e => by
        rcases hy with hy | hy | hy
        · exact HP.out.1 y hy e
        · exact HP.out.2.1 y hy e
        · have : y = b := e
          have := HU.out.2.2.2.2
          omega)) (fun _ h => h)
      have HS3 := (show Hid _ from And.intro hb3 (And.intro hk3 (And.intro hr3 hs3)))
      clear hb9 HU8 HML hb3 hk3 hr3 hs3
      go_wp2_with fail
      revert HS3
      generalize World.setCell _ _ _ = w3
      intro HS3
      have hb3 := HS3.out.1
      have c0 : w3.drew.cell? ⟨b, 0, none⟩ = some (.pointer (some ⟨p, 0, none⟩)) := by rw [cell_blk (blk_drew hb3)]; rfl
      have c1 : w3.drew.cell? ⟨b, 1, none⟩ = some (.int .i64 r) := by rw [cell_blk (blk_drew hb3)]; rfl
      have ldx : (ldW (.pointer (some ⟨b, 2, none⟩))).run Tryz.prog w3.drew = .ok (.value (.agg #[.int .u8 k, .int .i64 h, .int .u8 0, .int .i64 0, .string ⟨#[]⟩, .slice none 0 0, .int .i64 0, .slice pu (n + 1) cu, .int .i64 0, .int .i64 0, .int .i64 0, .int .i64 0, .int .u8 0, .bool false, .slice none 0 0, .slice none 0 0])) w3.drew := ldW_mid (blk_drew hb3) (cs := #[.int .u8 k, .int .i64 h, .int .u8 0, .int .i64 0, .string ⟨#[]⟩, .slice none 0 0, .int .i64 0, .slice pu (n + 1) cu, .int .i64 0, .int .i64 0, .int .i64 0, .int .i64 0, .int .u8 0, .bool false, .slice none 0 0, .slice none 0 0].toList) (by intro j x hj; exact baseC_at (t := qT k h (vs ++ [⟨vk, vn, vstr, vl, vr⟩]) (.slice pu (n + 1) cu)) hj) rfl
      obtain ⟨-, -, hheld, hmayl, hm, hkn, hW, ht, hh, hk⟩ := HP.out
      have hW3 : IsW w3.drew p M F := hW.keeps HS3.out.2.1.drew (fun y hy e => hbF (e ▸ hy))
      have hs3 : SlAt w3.drew (fun y => FA y ∨ FB y ∨ wa.heap.size ≤ y) (.slice pu (n + 1) cu) (vs ++ [⟨vk, vn, vstr, vl, vr⟩]) := HS3.out.2.2.2.of_blocks (fun _ _ => rfl) fun _ h => h
      have hall : ∀ x ∈ vs ++ [⟨vk, vn, vstr, vl, vr⟩], mayV x = true := fun x hx => by
        rcases List.mem_append.1 hx with hx | hx
        · exact hmayl x hx
        · simp at hx
          subst hx
          exact hm
      have hl3 := may_list_len Hmay.out
      have hhm := held_more (b := .slice pu (n + 1) cu) hheld hkn
      have HL : Hid (Calls Tryz.prog 107 #[.pointer (some ⟨p, 0, none⟩), .int .i64 r, .agg #[.int .u8 k, .int .i64 h, .int .u8 0, .int .i64 0, .string ⟨#[]⟩, .slice none 0 0, .int .i64 0, .slice pu (n + 1) cu, .int .i64 0, .int .i64 0, .int .i64 0, .int .i64 0, .int .u8 0, .bool false, .slice none 0 0, .slice none 0 0]] w3.drew fun e w' => e = .returned (.int .i64 0) ∧ LaidG w3.drew p M F r (qT k h (vs ++ [⟨vk, vn, vstr, vl, vr⟩]) (.slice pu (n + 1) cu)) w') := by
        refine Lay_G hW3 hr ht rfl (x := qT k h (vs ++ [⟨vk, vn, vstr, vl, vr⟩]) (.slice pu (n + 1) cu)) ⟨SlAt.nil _ _ _ _, hs3, rfl, rfl⟩ ⟨(refsV0 0 0 (.inl ⟨rfl, rfl⟩)).2, hall, by show (vs ++ [_]).length ≤ _; omega⟩ rfl rfl rfl rfl rfl (fun r hr => (hhm r hr).1) (by unfold namesB; rw [List.all_eq_true]; exact fun r hr => (hhm r hr).2) ?_
        intro w' hb'
        have hO : OfYes w' (.slice pu (n + 1) cu) := ofYes (hs3.on hb') (by omega) (ofE_may hall Hmay.out)
        rcases hk with rfl | rfl
        · exact formV_2 (hW3.below hb') hh vYes0 hO
        · exact formV_4 (hW3.below hb') hh vYes0 hO
      have HK := (show Hid _ from And.intro HS3.out.2.1 (And.intro HS3.out.2.2.1 hlt))
      have HbF : Hid (∀ y, F y → y < w.heap.size) := hW.lt
      clear hheld hmayl hm hkn hW ht hh hk hW3 hs3 hall hl3 hhm
      refine wp_region_turnK (z := _) 13 [0] (fun i => match i with | 0 => .agg zV | 1 => .pointer (some ⟨b, 0, none⟩) | 2 => .pointer (some ⟨b, 0, none⟩) | 3 => .pointer (some ⟨b, 0, none⟩) | 4 => .pointer (some ⟨p, 0, none⟩) | 5 => .pointer (some ⟨b, 0, none⟩) | 6 => .pointer (some ⟨b, 0, none⟩) | 7 => .pointer (some ⟨b, 1, none⟩) | 8 => .int .i64 r | 9 => .pointer (some ⟨b, 0, none⟩) | 10 => .pointer (some ⟨b, 0, none⟩) | 11 => .pointer (some ⟨b, 2, none⟩) | 12 => .agg #[.int .u8 k, .int .i64 h, .int .u8 0, .int .i64 0, .string ⟨#[]⟩, .slice none 0 0, .int .i64 0, .slice pu (n + 1) cu, .int .i64 0, .int .i64 0, .int .i64 0, .int .i64 0, .int .u8 0, .bool false, .slice none 0 0, .slice none 0 0] | _ => undef) (fun v w' => v = .int .i64 0 ∧ LaidG w3.drew p M F r (qT k h (vs ++ [⟨vk, vn, vstr, vl, vr⟩]) (.slice pu (n + 1) cu)) w') (by kernel_rfl) rfl (by kernel_rfl) rfl (by kernel_rfl) (by kernel_rfl) ?_ ?_ ?_
      · intro i q a w7 hq hw hdep hfr
        have hj : i < 13 := (List.getElem?_eq_some_iff.1 hq).1
        match i, hj with
        | 0, _ =>
          cases hq
          clear hw hdep hfr
          simp [go_sem, zV]
        | 1, _ =>
          cases hq
          have hw : w7 = w3.drew := by simpa using hw
          subst hw
          have h0' : a.tmps[0]?.getD undef = .pointer (some ⟨b, 0, none⟩) := gq (hfr 0 (by simp))
          clear hdep hfr
          simp [go_sem, Act.eval, h0']
        | 2, _ =>
          cases hq
          have hw : w7 = w3.drew := by simpa using hw
          subst hw
          have h0 : a.tmps.getD 39 undef = .pointer (some ⟨b, 0, none⟩) := hdep ⟨1, .data⟩ (by simp) rfl _ rfl
          have h0' : a.tmps[39]?.getD undef = .pointer (some ⟨b, 0, none⟩) := by rw [← h0]; simp [Array.getD_eq_getD_getElem?]
          clear hdep hfr
          simp [go_sem, Act.eval, h0']
        | 3, _ =>
          cases hq
          have hw : w7 = w3.drew := by simpa using hw
          subst hw
          have h0 : a.tmps.getD 40 undef = .pointer (some ⟨b, 0, none⟩) := hdep ⟨2, .data⟩ (by simp) rfl _ rfl
          have h0' : a.tmps[40]?.getD undef = .pointer (some ⟨b, 0, none⟩) := by rw [← h0]; simp [Array.getD_eq_getD_getElem?]
          clear hdep hfr
          simp [go_sem, Act.eval, h0']
        | 4, _ =>
          cases hq
          have hw : w7 = w3.drew := by simpa using hw
          subst hw
          have h0 : a.tmps.getD 41 undef = .pointer (some ⟨b, 0, none⟩) := hdep ⟨3, .data⟩ (by simp) rfl _ rfl
          have h0' : a.tmps[41]?.getD undef = .pointer (some ⟨b, 0, none⟩) := by rw [← h0]; simp [Array.getD_eq_getD_getElem?]
          clear hdep hfr
          simp [go_sem, Act.eval, h0', c0]
        | 5, _ =>
          cases hq
          have hw : w7 = w3.drew := by simpa using hw
          subst hw
          have h0' : a.tmps[0]?.getD undef = .pointer (some ⟨b, 0, none⟩) := gq (hfr 0 (by simp))
          clear hdep hfr
          simp [go_sem, Act.eval, h0']
        | 6, _ =>
          cases hq
          have hw : w7 = w3.drew := by simpa using hw
          subst hw
          have h0 : a.tmps.getD 43 undef = .pointer (some ⟨b, 0, none⟩) := hdep ⟨5, .data⟩ (by simp) rfl _ rfl
          have h0' : a.tmps[43]?.getD undef = .pointer (some ⟨b, 0, none⟩) := by rw [← h0]; simp [Array.getD_eq_getD_getElem?]
          clear hdep hfr
          simp [go_sem, Act.eval, h0']
        | 7, _ =>
          cases hq
          have hw : w7 = w3.drew := by simpa using hw
          subst hw
          have h0 : a.tmps.getD 44 undef = .pointer (some ⟨b, 0, none⟩) := hdep ⟨6, .data⟩ (by simp) rfl _ rfl
          have h0' : a.tmps[44]?.getD undef = .pointer (some ⟨b, 0, none⟩) := by rw [← h0]; simp [Array.getD_eq_getD_getElem?]
          clear hdep hfr
          simp [go_sem, Act.eval, h0']
        | 8, _ =>
          cases hq
          have hw : w7 = w3.drew := by simpa using hw
          subst hw
          have h0 : a.tmps.getD 45 undef = .pointer (some ⟨b, 1, none⟩) := hdep ⟨7, .data⟩ (by simp) rfl _ rfl
          have h0' : a.tmps[45]?.getD undef = .pointer (some ⟨b, 1, none⟩) := by rw [← h0]; simp [Array.getD_eq_getD_getElem?]
          clear hdep hfr
          simp [go_sem, Act.eval, h0', c1]
        | 9, _ =>
          cases hq
          have hw : w7 = w3.drew := by simpa using hw
          subst hw
          have h0' : a.tmps[0]?.getD undef = .pointer (some ⟨b, 0, none⟩) := gq (hfr 0 (by simp))
          clear hdep hfr
          simp [go_sem, Act.eval, h0']
        | 10, _ =>
          cases hq
          have hw : w7 = w3.drew := by simpa using hw
          subst hw
          have h0 : a.tmps.getD 47 undef = .pointer (some ⟨b, 0, none⟩) := hdep ⟨9, .data⟩ (by simp) rfl _ rfl
          have h0' : a.tmps[47]?.getD undef = .pointer (some ⟨b, 0, none⟩) := by rw [← h0]; simp [Array.getD_eq_getD_getElem?]
          clear hdep hfr
          simp [go_sem, Act.eval, h0']
        | 11, _ =>
          cases hq
          have hw : w7 = w3.drew := by simpa using hw
          subst hw
          have h0 : a.tmps.getD 48 undef = .pointer (some ⟨b, 0, none⟩) := hdep ⟨10, .data⟩ (by simp) rfl _ rfl
          have h0' : a.tmps[48]?.getD undef = .pointer (some ⟨b, 0, none⟩) := by rw [← h0]; simp [Array.getD_eq_getD_getElem?]
          clear hdep hfr
          simp [go_sem, Act.eval, h0']
        | 12, _ =>
          cases hq
          have hw : w7 = w3.drew := by simpa using hw
          subst hw
          have h0 : a.tmps.getD 49 undef = .pointer (some ⟨b, 2, none⟩) := hdep ⟨11, .data⟩ (by simp) rfl _ rfl
          have h0' : a.tmps[49]?.getD undef = .pointer (some ⟨b, 2, none⟩) := by rw [← h0]; simp [Array.getD_eq_getD_getElem?]
          clear hdep hfr
          rw [execOp_ldW]
          show (ldW (a.tmps.getD 49 undef)).run _ _ = _
          rw [h0]
          exact ldx
      · intro a hdep hfr
        have g0 : a.tmps.getD 42 undef = .pointer (some ⟨p, 0, none⟩) := hdep ⟨4, .data⟩ (by simp) rfl _ rfl
        have g0' : a.tmps[42]?.getD undef = .pointer (some ⟨p, 0, none⟩) := by rw [← g0]; simp [Array.getD_eq_getD_getElem?]
        have g1 : a.tmps.getD 46 undef = .int .i64 r := hdep ⟨8, .data⟩ (by simp) rfl _ rfl
        have g1' : a.tmps[46]?.getD undef = .int .i64 r := by rw [← g1]; simp [Array.getD_eq_getD_getElem?]
        have g2 : a.tmps.getD 50 undef = .agg #[.int .u8 k, .int .i64 h, .int .u8 0, .int .i64 0, .string ⟨#[]⟩, .slice none 0 0, .int .i64 0, .slice pu (n + 1) cu, .int .i64 0, .int .i64 0, .int .i64 0, .int .i64 0, .int .u8 0, .bool false, .slice none 0 0, .slice none 0 0] := hdep ⟨12, .data⟩ (by simp) rfl _ rfl
        have g2' : a.tmps[50]?.getD undef = .agg #[.int .u8 k, .int .i64 h, .int .u8 0, .int .i64 0, .string ⟨#[]⟩, .slice none 0 0, .int .i64 0, .slice pu (n + 1) cu, .int .i64 0, .int .i64 0, .int .i64 0, .int .i64 0, .int .u8 0, .bool false, .slice none 0 0, .slice none 0 0] := by rw [← g2]; simp [Array.getD_eq_getD_getElem?]
        clear hdep hfr
        unfold Oper.wp
        simp [go_sem, callFunc, Act.eval, Tryz.func107, g0', g1', g2']
        refine Calls.mono HL.out ?_
        rintro e w5 ⟨rfl, hl⟩
        exact ⟨_, rfl, rfl, hl⟩
      · intro a w5 v hP hdf hsz hfr hval hv
        obtain ⟨rfl, hl⟩ := hP
        have e0 : a.tmps.getD 38 undef = .agg zV := hval 0 _ rfl
        have e1 : a.tmps.getD 39 undef = .pointer (some ⟨b, 0, none⟩) := hval 1 _ rfl
        have e2 : a.tmps.getD 40 undef = .pointer (some ⟨b, 0, none⟩) := hval 2 _ rfl
        have e3 : a.tmps.getD 41 undef = .pointer (some ⟨b, 0, none⟩) := hval 3 _ rfl
        have e4 : a.tmps.getD 42 undef = .pointer (some ⟨p, 0, none⟩) := hval 4 _ rfl
        have e5 : a.tmps.getD 43 undef = .pointer (some ⟨b, 0, none⟩) := hval 5 _ rfl
        have e6 : a.tmps.getD 44 undef = .pointer (some ⟨b, 0, none⟩) := hval 6 _ rfl
        have e7 : a.tmps.getD 45 undef = .pointer (some ⟨b, 1, none⟩) := hval 7 _ rfl
        have e8 : a.tmps.getD 46 undef = .int .i64 r := hval 8 _ rfl
        have e9 : a.tmps.getD 47 undef = .pointer (some ⟨b, 0, none⟩) := hval 9 _ rfl
        have e10 : a.tmps.getD 48 undef = .pointer (some ⟨b, 0, none⟩) := hval 10 _ rfl
        have e11 : a.tmps.getD 49 undef = .pointer (some ⟨b, 2, none⟩) := hval 11 _ rfl
        have e12 : a.tmps.getD 50 undef = .agg #[.int .u8 k, .int .i64 h, .int .u8 0, .int .i64 0, .string ⟨#[]⟩, .slice none 0 0, .int .i64 0, .slice pu (n + 1) cu, .int .i64 0, .int .i64 0, .int .i64 0, .int .i64 0, .int .u8 0, .bool false, .slice none 0 0, .slice none 0 0] := hval 12 _ rfl
        have ha := act_of hdf hsz hfr
        simp only [List.take_succ_cons, List.take_zero, List.cons_append, List.nil_append, List.filterMap_cons, List.filterMap_nil, List.foldl_cons, List.foldl_nil, List.setIfInBounds_toArray, List.set_cons_zero, List.set_cons_succ, e0, e1, e2, e3, e4, e5, e6, e7, e8, e9, e10, e11, e12, hv] at ha
        clear hdf hsz hfr hval hv e0 e1 e2 e3 e4 e5 e6 e7 e8 e9 e10 e11 e12
        subst ha
        have hr5 : w5.heap[w.heap.size + 1]? = some (.cells zV 27 (0, 0)) := by
          obtain ⟨vl', vals', F', l0, l1, l2, l3⟩ := hl
          exact (l2.block _ (blk_lt (blk_drew HK.out.2.1)) (fun e => by have := HbF.out _ e; omega)).trans (blk_drew HK.out.2.1)
        have hst : (stV (.pointer (some ⟨w.heap.size + 1, 0, none⟩)) (.agg zV)).run Tryz.prog w5 = .ok .skip w5 := stV_same hr5 rfl (by simp [zV]) (by simp [zV, go_sem]) (by simp [zV])
        have HE : Hid (LaidB w p M F r (qT k h (vs ++ [⟨vk, vn, vstr, vl, vr⟩]) (.slice pu (n + 1) cu)) b w5) := by
          obtain ⟨vl', vals', F', l0, l1, l2, l3⟩ := hl
          exact ⟨vl', vals', F', l0, l1, (HK.out.1.drew).trans l2 (fun _ _ h => .inr h) (fun _ _ h => .inl h), fun y hy => (l3 y hy).imp id fun h => Nat.le_trans HK.out.1.drew.size h⟩
        obtain ⟨⟨r0, r1, r2, r3, r4⟩, -⟩ := cells5 hr5
        clear hl hr5 c0 c1 ldx HL HK hb3 HS3 HU9 HU
        unfold wpTail Oper.wp
        rw [execOp_stV]
        simp [go_sem, Act.eval, hst]
        unfold wpTail Oper.wp
        simp [execOp, go_sem, Act.eval, wpTail]
        refine ‹∀ (a : Act) (w : World), Code.wp Tryz.prog _ _ a w → _› _ _ ?_
        go_wp2_with fail
        refine bodyPost_ret (v := .tuple #[.agg zV, .int .i64 0]) (by simp [results, Tryz.results320, go_sem, r0, r1, r2, r3, r4, zV]) rfl (.inl ⟨Hmay.out, rfl, _, HE.out⟩)
end Go.Proofs.YthaliljaglldjaaGreat
