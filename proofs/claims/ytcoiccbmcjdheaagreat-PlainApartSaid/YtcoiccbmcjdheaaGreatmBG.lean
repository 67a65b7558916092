/- A part of the proof, several texts in one: PlV, VSub, PlK, PlS. -/
import Derived.Test.YtcoiccbmcjdheaaGreatmBF
import Derived.Test.YtcoiccbmcjdheaaGreatmBA
import Derived.StillTailTactics
import Derived.Test.YtcoiccbmcjdheaaGreatmBB
import Derived.Test.YtcoiccbmcjdheaaGreatmBC
/- plain: give of a log, a queue. Printed by gen_give.py. -/
namespace Go.Proofs.YtcoiccbmcjdheaaGreat
open Go.RowKit Go.ChangeMaps Go.MapKept
variable {w : World} {p : Nat} {M : WM} {F : Nat → Prop}
theorem LaidB.start {w w1 w' : World} {r : Int} {x : Th} {b : Nat} (h : LaidB w1 p M F r x b w') (hb : Below w.heap.size w w1) : LaidB w p M F r x b w' := by
  obtain ⟨vl', vals', F', l0, l1, l2, l3⟩ := h
  exact ⟨vl', vals', F', l0, l1, Below.keeps hb l2, fun y hy => (l3 y hy).imp id fun h => Nat.le_trans hb.size h⟩
theorem execOp_ldVv9 (ρ : Operand → Value) (ty : TypeId) (pos : String) (af : Array Edge) (g : Option (Nat × Bool)) :
    execOp ρ { dst := some 9, op := .load 34 (.tmp 3), type := ty, pos := pos, after := af, guard := g } = ldV (ρ (.tmp 3)) := rfl
theorem execOp_stVv (ρ : Operand → Value) (ty : TypeId) (pos : String) (af : Array Edge) (g : Option (Nat × Bool)) :
    execOp ρ { dst := none, op := .store 34 (.tmp 4) (.tmp 11), type := ty, pos := pos, after := af, guard := g } = stV (ρ (.tmp 4)) (ρ (.tmp 11)) := rfl
/-- What is left when a value is given. -/
def GivePost (w : World) (p : Nat) (M : WM) (F : Nat → Prop) (r k h : Int) (vs : List Val) (v : Val) (b : Nat) (e : Ending) (w' : World) : Prop :=
  (mayV (listV (vs ++ [v])) = true ∧ e = .returned (.tuple #[.agg zV, .int .i64 0]) ∧ ∃ vals', LaidB w p M F r (qT k h (vs ++ [v]) vals') b w') ∨
  (mayV (listV (vs ++ [v])) = false ∧ e = .returned (.tuple #[.agg zV, .int .i64 8]) ∧ Below w.heap.size w w')

attribute [local go_sem ↓] execOp_ldVv9 execOp_stVv in
set_option maxHeartbeats 4000000 in
set_option maxRecDepth 20000 in
theorem qGive_W (hW : IsW w p M F) {r : Int} (hr : (Lit.int .i64 r).wf = true) {k h : Int} (hk : k = 2 ∨ k = 4) {vs : List Val} {vals0 vals : Value} (ht : M.at r = some (qT k h vs vals0)) {b : Nat} (hb : w.heap[b]? = some (.cells (baseC p r (qT k h vs vals)) 100 (0, 0))) (hbF : ¬ F b)
    (hh : sideB M h = true) {FA FB : Nat → Prop} (hS : SlAt w FA vals vs) (hFA : ∀ y, FA y → y ≠ b) (hcap : CapOk vals) (hheld : ∀ r ∈ heldL (qT k h vs vals0), (Lit.int .i64 r).wf = true ∧ (M.at r).isSome = true) (hmay : ∀ x ∈ vs, mayV x = true) (hlen : vs.length ≤ 1024)
    {v : Val} {raw : Value} (hv : SlAt w FB raw v.l) (hFB : ∀ y, FB y → y ≠ b) (hm : mayV v = true) (hkn : ∀ r ∈ refsV v, (Lit.int .i64 r).wf = true ∧ (M.at r).isSome = true) :
    Calls Tryz.prog 143 #[.pointer (some ⟨b, 0, none⟩), .agg (vcs v raw)] w (GivePost w p M F r k h vs v b) := by
  obtain ⟨pv, cv, rfl⟩ := hv.form
  have hlt := blk_lt hb
  have HbF : Hid (∀ y, F y → y < w.heap.size) := hW.lt
  have HC : Hid (∀ w1, Below w.heap.size w w1 → Calls Tryz.prog 131 #[.pointer (some ⟨b, 0, none⟩), .agg (vcs v (.slice pv v.l.length cv))] w1 (GivePost w1 p M F r k h vs v b)) := fun w1 hb1 =>
    bAdded_W (hW.below hb1) hr hk ht ((hb1.block b hlt).trans hb) hbF hh (hS.on hb1) hFA hcap hheld hmay hlen (hv.on hb1) hFB hm hkn
  clear hW hr hk ht hb hh hS hFA hcap hheld hmay hlen hv hFB hm hkn
  obtain ⟨vk, vn, vstr, vl, vr⟩ := v
  simp only [vcs] at HC ⊢
  generalize hnv : vl.length = nv at *
  have HX : Hid (Below w.heap.size w ((w.alloc (.cells #[.int .u8 vk, .int .i64 vn, .string vstr, .slice pv nv cv, .int .i64 vr] 34)).alloc (.cells #[.int .u8 0, .int .i64 0, .string ⟨#[]⟩, .slice none 0 0, .int .i64 0] 34)).drew ∧
      ((w.alloc (.cells #[.int .u8 vk, .int .i64 vn, .string vstr, .slice pv nv cv, .int .i64 vr] 34)).alloc (.cells #[.int .u8 0, .int .i64 0, .string ⟨#[]⟩, .slice none 0 0, .int .i64 0] 34)).drew.heap[w.heap.size]? = some (.cells #[.int .u8 vk, .int .i64 vn, .string vstr, .slice pv nv cv, .int .i64 vr] 34 (0, 0)) ∧
      ((w.alloc (.cells #[.int .u8 vk, .int .i64 vn, .string vstr, .slice pv nv cv, .int .i64 vr] 34)).alloc (.cells #[.int .u8 0, .int .i64 0, .string ⟨#[]⟩, .slice none 0 0, .int .i64 0] 34)).drew.heap[w.heap.size + 1]? = some (.cells zV 34 (0, 0))) :=
    ⟨(((Below.refl _ _).alloc (Nat.le_refl _) _).alloc (by simp) _).drew, blk2_old _ _ _, blk2_new _ _ _⟩
  go_enter Tryz.func143, Tryz.ntmps143
  go_upto_region 1 with fail
  refine wp_region_pivotS 4 2 (by kernel_rfl) (by kernel_rfl) ?_
  revert HX
  generalize World.drew _ = wa
  intro HX
  have hldv := loadV_blk HX.out.2.1 rfl
  simp only [List.take_succ_cons, List.take_zero, List.drop_succ_cons, List.drop_zero]
  repeat still_step
  refine wpStill_nil ?_
  go_wp2_with fail
  refine Calls.mono (HC.out wa HX.out.1) ?_
  rintro e w9 h9
  have HR : Hid (w9.heap[w.heap.size + 1]? = some (.cells zV 34 (0, 0)) ∧ ∀ e', GivePost wa p M F r k h vs ⟨vk, vn, vstr, vl, vr⟩ b e' w9 → GivePost w p M F r k h vs ⟨vk, vn, vstr, vl, vr⟩ b e' w9) := by
    refine ⟨?_, fun e' h => ?_⟩
    · rcases h9 with ⟨-, -, vals', vl', vals2, F', l0, l1, l2, l3⟩ | ⟨-, -, l2⟩
      · exact (l2.block _ (blk_lt HX.out.2.2) (fun e => by rcases e with e | e; have := HbF.out _ e; omega; omega)).trans HX.out.2.2
      · exact below_blk l2 HX.out.2.2
    · rcases h with ⟨l0, l1, vals', l2⟩ | ⟨l0, l1, l2⟩
      · exact .inl ⟨l0, l1, vals', l2.start HX.out.1⟩
      · exact .inr ⟨l0, l1, HX.out.1.trans (l2.mono HX.out.1.size)⟩
  obtain ⟨⟨r0, r1, r2, r3, r4⟩, -⟩ := cells5 HR.out.1
  have hst : (stV (.pointer (some ⟨w.heap.size + 1, 0, none⟩)) (.agg zV)).run Tryz.prog w9 = .ok .skip w9 := stV_same HR.out.1 rfl (by simp [zV]) (by simp [zV, go_sem]) (by simp [zV])
  have H9 : Hid (GivePost wa p M F r k h vs ⟨vk, vn, vstr, vl, vr⟩ b e w9) := h9
  clear HC HX hldv
  rcases h9 with ⟨-, rfl, -⟩ | ⟨-, rfl, -⟩
  · go_wp2_with fail
    change wpStill _ _ _ _ _ _
    repeat still_step
    refine wpStill_nil ?_
    go_wp2_with fail
    exact bodyPost_ret (v := .tuple #[.agg zV, .int .i64 0]) (by simp [results, Tryz.results143, go_sem, r0, r1, r2, r3, r4, zV]) rfl (HR.out.2 _ H9.out)
  · go_wp2_with fail
    change wpStill _ _ _ _ _ _
    repeat still_step
    refine wpStill_nil ?_
    go_wp2_with fail
    exact bodyPost_ret (v := .tuple #[.agg zV, .int .i64 8]) (by simp [results, Tryz.results143, go_sem, r0, r1, r2, r3, r4, zV]) rfl (HR.out.2 _ H9.out)

attribute [local go_sem ↓] execOp_ldVv9 execOp_stVv in
set_option maxHeartbeats 4000000 in
set_option maxRecDepth 20000 in
theorem lGive_W (hW : IsW w p M F) {r : Int} (hr : (Lit.int .i64 r).wf = true) {k h : Int} (hk : k = 2 ∨ k = 4) {vs : List Val} {vals0 vals : Value} (ht : M.at r = some (qT k h vs vals0)) {b : Nat} (hb : w.heap[b]? = some (.cells (baseC p r (qT k h vs vals)) 98 (0, 0))) (hbF : ¬ F b)
    (hh : sideB M h = true) {FA FB : Nat → Prop} (hS : SlAt w FA vals vs) (hFA : ∀ y, FA y → y ≠ b) (hcap : CapOk vals) (hheld : ∀ r ∈ heldL (qT k h vs vals0), (Lit.int .i64 r).wf = true ∧ (M.at r).isSome = true) (hmay : ∀ x ∈ vs, mayV x = true) (hlen : vs.length ≤ 1024)
    {v : Val} {raw : Value} (hv : SlAt w FB raw v.l) (hFB : ∀ y, FB y → y ≠ b) (hm : mayV v = true) (hkn : ∀ r ∈ refsV v, (Lit.int .i64 r).wf = true ∧ (M.at r).isSome = true) :
    Calls Tryz.prog 139 #[.pointer (some ⟨b, 0, none⟩), .agg (vcs v raw)] w (GivePost w p M F r k h vs v b) := by
  obtain ⟨pv, cv, rfl⟩ := hv.form
  have hlt := blk_lt hb
  have HbF : Hid (∀ y, F y → y < w.heap.size) := hW.lt
  have HC : Hid (∀ w1, Below w.heap.size w w1 → Calls Tryz.prog 131 #[.pointer (some ⟨b, 0, none⟩), .agg (vcs v (.slice pv v.l.length cv))] w1 (GivePost w1 p M F r k h vs v b)) := fun w1 hb1 =>
    bAdded_W (hW.below hb1) hr hk ht ((hb1.block b hlt).trans hb) hbF hh (hS.on hb1) hFA hcap hheld hmay hlen (hv.on hb1) hFB hm hkn
  clear hW hr hk ht hb hh hS hFA hcap hheld hmay hlen hv hFB hm hkn
  obtain ⟨vk, vn, vstr, vl, vr⟩ := v
  simp only [vcs] at HC ⊢
  generalize hnv : vl.length = nv at *
  have HX : Hid (Below w.heap.size w ((w.alloc (.cells #[.int .u8 vk, .int .i64 vn, .string vstr, .slice pv nv cv, .int .i64 vr] 34)).alloc (.cells #[.int .u8 0, .int .i64 0, .string ⟨#[]⟩, .slice none 0 0, .int .i64 0] 34)).drew ∧
      ((w.alloc (.cells #[.int .u8 vk, .int .i64 vn, .string vstr, .slice pv nv cv, .int .i64 vr] 34)).alloc (.cells #[.int .u8 0, .int .i64 0, .string ⟨#[]⟩, .slice none 0 0, .int .i64 0] 34)).drew.heap[w.heap.size]? = some (.cells #[.int .u8 vk, .int .i64 vn, .string vstr, .slice pv nv cv, .int .i64 vr] 34 (0, 0)) ∧
      ((w.alloc (.cells #[.int .u8 vk, .int .i64 vn, .string vstr, .slice pv nv cv, .int .i64 vr] 34)).alloc (.cells #[.int .u8 0, .int .i64 0, .string ⟨#[]⟩, .slice none 0 0, .int .i64 0] 34)).drew.heap[w.heap.size + 1]? = some (.cells zV 34 (0, 0))) :=
    ⟨(((Below.refl _ _).alloc (Nat.le_refl _) _).alloc (by simp) _).drew, blk2_old _ _ _, blk2_new _ _ _⟩
  go_enter Tryz.func139, Tryz.ntmps139
  go_upto_region 1 with fail
  refine wp_region_pivotS 4 2 (by kernel_rfl) (by kernel_rfl) ?_
  revert HX
  generalize World.drew _ = wa
  intro HX
  have hldv := loadV_blk HX.out.2.1 rfl
  simp only [List.take_succ_cons, List.take_zero, List.drop_succ_cons, List.drop_zero]
  repeat still_step
  refine wpStill_nil ?_
  go_wp2_with fail
  refine Calls.mono (HC.out wa HX.out.1) ?_
  rintro e w9 h9
  have HR : Hid (w9.heap[w.heap.size + 1]? = some (.cells zV 34 (0, 0)) ∧ ∀ e', GivePost wa p M F r k h vs ⟨vk, vn, vstr, vl, vr⟩ b e' w9 → GivePost w p M F r k h vs ⟨vk, vn, vstr, vl, vr⟩ b e' w9) := by
    refine ⟨?_, fun e' h => ?_⟩
    · rcases h9 with ⟨-, -, vals', vl', vals2, F', l0, l1, l2, l3⟩ | ⟨-, -, l2⟩
      · exact (l2.block _ (blk_lt HX.out.2.2) (fun e => by rcases e with e | e; have := HbF.out _ e; omega; omega)).trans HX.out.2.2
      · exact below_blk l2 HX.out.2.2
    · rcases h with ⟨l0, l1, vals', l2⟩ | ⟨l0, l1, l2⟩
      · exact .inl ⟨l0, l1, vals', l2.start HX.out.1⟩
      · exact .inr ⟨l0, l1, HX.out.1.trans (l2.mono HX.out.1.size)⟩
  obtain ⟨⟨r0, r1, r2, r3, r4⟩, -⟩ := cells5 HR.out.1
  have hst : (stV (.pointer (some ⟨w.heap.size + 1, 0, none⟩)) (.agg zV)).run Tryz.prog w9 = .ok .skip w9 := stV_same HR.out.1 rfl (by simp [zV]) (by simp [zV, go_sem]) (by simp [zV])
  have H9 : Hid (GivePost wa p M F r k h vs ⟨vk, vn, vstr, vl, vr⟩ b e w9) := h9
  clear HC HX hldv
  rcases h9 with ⟨-, rfl, -⟩ | ⟨-, rfl, -⟩
  · go_wp2_with fail
    change wpStill _ _ _ _ _ _
    repeat still_step
    refine wpStill_nil ?_
    go_wp2_with fail
    exact bodyPost_ret (v := .tuple #[.agg zV, .int .i64 0]) (by simp [results, Tryz.results139, go_sem, r0, r1, r2, r3, r4, zV]) rfl (HR.out.2 _ H9.out)
  · go_wp2_with fail
    change wpStill _ _ _ _ _ _
    repeat still_step
    refine wpStill_nil ?_
    go_wp2_with fail
    exact bodyPost_ret (v := .tuple #[.agg zV, .int .i64 8]) (by simp [results, Tryz.results139, go_sem, r0, r1, r2, r3, r4, zV]) rfl (HR.out.2 _ H9.out)
end Go.Proofs.YtcoiccbmcjdheaaGreat
/- Parts of a list that may be may be. -/
namespace Go.Proofs.YtcoiccbmcjdheaaGreat
open Go.RowKit Go.ChangeMaps Go.MapKept

theorem takeL_app {n : Nat} (l m : List Val) (p : Nat) : takeL n p (l ++ m) = (takeL n p l).bind fun q => takeL n q m := by
  unfold takeL
  rw [List.foldlM_append]
  rfl
theorem takeL_shift {n : Nat} (ih : ∀ p v q d, takeV n p v = some q → takeV n (p + d) v = some (q + d)) : ∀ (l : List Val) (p q d : Nat), takeL n p l = some q → takeL n (p + d) l = some (q + d)
  | [], p, q, d, h => by
    cases h
    rfl
  | x :: l, p, q, d, h => by
    have e : ∀ p, takeL n p (x :: l) = (takeV n p x).bind fun q => takeL n q l := fun p => by
      unfold takeL
      rw [List.foldlM_cons]
      rfl
    rw [e] at h ⊢
    cases hx : takeV n p x with
    | none => rw [hx] at h; cases h
    | some q' =>
      rw [hx] at h
      rw [ih p x q' d hx]
      exact takeL_shift ih l q' q d h
theorem takeV_shift : ∀ (n p : Nat) (v : Val) (q d : Nat), takeV n p v = some q → takeV n (p + d) v = some (q + d) := by
  intro n
  induction n with
  | zero =>
    intro p v q d h
    cases p with
    | zero => cases h
    | succ p =>
      have e : p + 1 + d = (p + d) + 1 := by omega
      rw [e]
      by_cases h0 : v.kind = 0
      · rw [tk0 h0] at h ⊢
        split at h
        · rw [if_pos (by assumption)]; cases h; rfl
        · cases h
      by_cases h1 : v.kind = 1
      · rw [tk1 h1] at h ⊢
        split at h
        · rw [if_pos (by assumption)]; cases h; rfl
        · cases h
      by_cases h2 : v.kind = 2
      · rw [tk2 h2] at h ⊢
        split at h
        · cases h
        · rename_i hs
          rw [if_neg hs]
          split at h
          · rw [if_pos (by assumption)]; cases h; rfl
          · cases h
      by_cases h4 : v.kind = 4
      · rw [tk4 h4] at h ⊢
        split at h
        · cases h
        · rename_i hs
          rw [if_neg hs]
          split at h
          · rw [if_pos (by assumption)]; cases h; rfl
          · cases h
      by_cases h3 : v.kind = 3
      · rw [tk3z h3] at h
        cases h
      · rw [tkx h0 h1 h2 h3 h4] at h
        cases h
  | succ n ih =>
    intro p v q d h
    cases p with
    | zero => cases h
    | succ p =>
      have e : p + 1 + d = (p + d) + 1 := by omega
      rw [e]
      by_cases h0 : v.kind = 0
      · rw [tk0 h0] at h ⊢
        split at h
        · rw [if_pos (by assumption)]; cases h; rfl
        · cases h
      by_cases h1 : v.kind = 1
      · rw [tk1 h1] at h ⊢
        split at h
        · rw [if_pos (by assumption)]; cases h; rfl
        · cases h
      by_cases h2 : v.kind = 2
      · rw [tk2 h2] at h ⊢
        split at h
        · cases h
        · rename_i hs
          rw [if_neg hs]
          split at h
          · rw [if_pos (by assumption)]; cases h; rfl
          · cases h
      by_cases h4 : v.kind = 4
      · rw [tk4 h4] at h ⊢
        split at h
        · cases h
        · rename_i hs
          rw [if_neg hs]
          split at h
          · rw [if_pos (by assumption)]; cases h; rfl
          · cases h
      by_cases h3 : v.kind = 3
      · by_cases hl : v.l.length > p
        · rw [tk3l h3 hl] at h
          cases h
        · rw [tk3 h3 hl] at h
          rw [tk3 h3 (by omega)]
          cases hq : takeL n p v.l with
          | none => rw [hq] at h; cases h
          | some q' =>
            rw [hq] at h
            rw [takeL_shift ih v.l p q' d hq]
            simp only at h ⊢
            split at h
            · rw [if_pos (by assumption)]; cases h; rfl
            · cases h
      · rw [tkx h0 h1 h2 h3 h4] at h
        cases h
theorem mayList_iff (l : List Val) : mayV (listV l) = true ↔ l.length ≤ 511 ∧ ∃ q, takeL 15 511 l = some q := by
  unfold mayV
  by_cases hl : l.length > 511
  · rw [show (512 : Nat) = 511 + 1 from rfl, show (16 : Nat) = 15 + 1 from rfl, tk3l (v := listV l) rfl hl]
    constructor
    · intro h; cases h
    · intro h; omega
  · rw [show (512 : Nat) = 511 + 1 from rfl, show (16 : Nat) = 15 + 1 from rfl, tk3 (v := listV l) rfl hl]
    show (match takeL 15 511 l with | none => none | some q => if chk 0 ⟨#[]⟩ 0 0 then some q else none).isSome = true ↔ _
    cases hq : takeL 15 511 l with
    | none =>
      constructor
      · intro h; cases h
      · intro h
        obtain ⟨_, q, h⟩ := h
        cases h
    | some q => exact ⟨fun _ => ⟨by omega, q, rfl⟩, fun _ => rfl⟩
theorem mayList_take {l : List Val} (h : mayV (listV l) = true) (k : Nat) : mayV (listV (l.take k)) = true := by
  rw [mayList_iff] at h ⊢
  obtain ⟨h1, q, h2⟩ := h
  refine ⟨by simp; omega, ?_⟩
  cases hq : takeL 15 511 (l.take k) with
  | none => rw [takeL_none hq] at h2; cases h2
  | some q' => exact ⟨q', rfl⟩
theorem mayList_drop {l : List Val} (h : mayV (listV l) = true) (k : Nat) : mayV (listV (l.drop k)) = true := by
  rw [mayList_iff] at h ⊢
  obtain ⟨h1, q, h2⟩ := h
  refine ⟨by simp; omega, ?_⟩
  rw [← List.take_append_drop k l, takeL_app] at h2
  cases hq : takeL 15 511 (l.take k) with
  | none => rw [hq] at h2; cases h2
  | some q' =>
    rw [hq] at h2
    have hle : q' ≤ 511 := takeL_le (fun p v q h => Nat.le_of_lt (takeV_lt h)) _ _ _ hq
    have := takeL_shift (takeV_shift 15) (l.drop k) q' q (511 - q') h2
    rw [show q' + (511 - q') = 511 by omega] at this
    exact ⟨_, this⟩
end Go.Proofs.YtcoiccbmcjdheaaGreat
/- plain: take of a queue. Printed by gen_take.py. -/
namespace Go.Proofs.YtcoiccbmcjdheaaGreat
open Go.RowKit Go.ChangeMaps Go.MapKept
variable {w : World} {p : Nat} {M : WM} {F : Nat → Prop}

set_option maxRecDepth 8000 in
theorem qTake_arg (w : World) (b : Nat) (m : Int) (hm : m < 0) : Calls Tryz.prog 144 #[.pointer (some ⟨b, 0, none⟩), .agg #[.int .u8 1, .int .i64 m, .string ⟨#[]⟩, .slice none 0 0, .int .i64 0]] w fun e w' => e = .returned (.tuple #[.agg zV, .int .i64 2]) ∧ Below w.heap.size w w' := by
  go_enter Tryz.func144, Tryz.ntmps144
  go_wp2
  go_returns
  exact ⟨rfl, by go_grown⟩
set_option maxRecDepth 8000 in
theorem qTake_short {b : Nat} {r : Int} {t : Th} {ps : Option Addr} {ns cs : Nat} (hb : w.heap[b]? = some (.cells (baseC p r t) 100 (0, 0))) (hv : t.vals = .slice ps ns cs) (m : Int) (hm : (ns : Int) < m) : Calls Tryz.prog 144 #[.pointer (some ⟨b, 0, none⟩), .agg #[.int .u8 1, .int .i64 m, .string ⟨#[]⟩, .slice none 0 0, .int .i64 0]] w fun e w' => e = .returned (.tuple #[.agg zV, .int .i64 81]) ∧ Below w.heap.size w w' := by
  have c9 : w.cell? ⟨b, 9, none⟩ = some (.slice ps ns cs) := by rw [cell_blk hb, ← hv]; rfl
  have h1 : ¬ m < 0 := by omega
  have h2 : m > (ns : Int) := hm
  have hlt := blk_lt hb
  go_enter Tryz.func144, Tryz.ntmps144
  go_wp2_with fail
  go_region
  go_wp2_with fail
  go_returns
  exact ⟨rfl, by go_grown⟩

theorem slice_front (w : World) (ps : Option Addr) (n cs k : Nat) (h : k ≤ cs) : (Instr.sliceAt 22 (.slice ps n cs) none (some (.int .i64 k)) none).run Tryz.prog w = .ok (.slice ps k cs) w := by
  simp [go_sem, h]
theorem slice_back (w : World) (ps : Option Addr) (n cs k : Nat) (h : k ≤ n) : (Instr.sliceAt 22 (.slice ps n cs) (some (.int .i64 k)) none none).run Tryz.prog w = .ok (.slice (if cs = k then ps else ps.map (·.add (k * 5))) (n - k) (cs - k)) w := by
  simp [go_sem, h]
theorem IsW.of_setRow (h : IsW w p M F) {b : Nat} (hb : ∀ y, F y → y ≠ b) (c : Array Value) : IsW (w.setRow b c) p M F :=
  h.keeps (S := fun y => y = b) ⟨rfl, rfl, rfl, by simp [World.setRow], fun k _ hk => heap_setRow_other _ _ _ _ hk⟩ fun y hy e => hb y hy e
/-- What is left when values are taken. -/
def TakePostQ (w : World) (p : Nat) (M : WM) (F : Nat → Prop) (r h : Int) (vs : List Val) (k b : Nat) (e : Ending) (w' : World) : Prop :=
  ∃ raw' vals' vl' vals2 F', e = .returned (.tuple #[.agg (vcs (listV (vs.take k)) raw'), .int .i64 0]) ∧ SlT w' (fun y => w.heap.size ≤ y ∧ ¬ F' y) raw' (vs.take k) ∧ ((qT 4 h (vs.drop k) vals').v.l = [] → vl' = .slice none 0 0) ∧ IsW w' p (M.set r { qT 4 h (vs.drop k) vals' with vl := vl', vals := vals2 }) F' ∧ Keeps (fun y => F y ∨ y = b) w w' ∧ ∀ y, F' y → F y ∨ w.heap.size ≤ y
theorem execOp_stVk (ρ : Operand → Value) (ty : TypeId) (pos : String) (af : Array Edge) (g : Option (Nat × Bool)) :
    execOp ρ { dst := none, op := .store 34 (.tmp 4) (.tmp 75), type := ty, pos := pos, after := af, guard := g } = stV (ρ (.tmp 4)) (ρ (.tmp 75)) := rfl
attribute [local go_sem ↓] execOp_stVk in
set_option maxHeartbeats 8000000 in
set_option maxRecDepth 20000 in
theorem qTake_W (hW : IsW w p M F) {r : Int} (hr : (Lit.int .i64 r).wf = true) {h : Int} {vs : List Val} {vals0 vals : Value} (ht : M.at r = some (qT 4 h vs vals0)) {b : Nat} (hb : w.heap[b]? = some (.cells (baseC p r (qT 4 h vs vals)) 100 (0, 0))) (hbF : ¬ F b)
    (hh : sideB M h = true) {FA : Nat → Prop} (hS : SlAt w FA vals vs) (hFA : ∀ y, FA y → y ≠ b ∧ ¬ F y) (hcap : CapOk vals) (hheld : ∀ r ∈ heldL (qT 4 h vs vals0), (Lit.int .i64 r).wf = true ∧ (M.at r).isSome = true) (hmay : mayV (listV vs) = true) (hmays : ∀ x ∈ vs, mayV x = true) {k : Nat} (hk : k ≤ vs.length) :
    Calls Tryz.prog 144 #[.pointer (some ⟨b, 0, none⟩), .agg #[.int .u8 1, .int .i64 (k : Int), .string ⟨#[]⟩, .slice none 0 0, .int .i64 0]] w (TakePostQ w p M F r h vs k b) := by
  obtain ⟨ps, cs, hvals⟩ := hS.form
  subst hvals
  have hlt := blk_lt hb
  have hncs : vs.length ≤ cs := by
    obtain ⟨a, n, c, e, h1, h2⟩ := hcap
    cases e
    exact h1
  have hl511 := may_list_len hmay
  have HbF : Hid (∀ y, F y → y < w.heap.size) := hW.lt
  obtain ⟨pd, nd, cd, hd⟩ : ∃ pd nd cd, (Value.slice (if cs = k then ps else ps.map (·.add (k * 5))) (vs.length - k) (cs - k)) = .slice pd nd cd := ⟨_, _, _, rfl⟩
  have hSf : SlAt w FA (.slice ps k cs) (vs.take k) := hS.front hk cs
  have hSd : SlAt w FA (.slice pd nd cd) (vs.drop k) := by
    have := hS.back hk hncs
    rwa [hd] at this
  have hslf := fun w : World => slice_front w ps vs.length cs k (by omega)
  have hslb := fun w : World => slice_back w ps vs.length cs k hk
  rw [hd] at hslb
  have HP : Hid (IsW w p M F ∧ M.at r = some (qT 4 h vs vals0) ∧ sideB M h = true ∧ (∀ y, FA y → y ≠ b ∧ ¬ F y) ∧ (∀ r ∈ heldL (qT 4 h vs vals0), (Lit.int .i64 r).wf = true ∧ (M.at r).isSome = true) ∧ mayV (listV vs) = true ∧ (∀ x ∈ vs, mayV x = true) ∧ SlAt w FA (.slice ps k cs) (vs.take k) ∧ SlAt w FA (.slice pd nd cd) (vs.drop k) ∧ vs.length ≤ 511) := ⟨hW, ht, hh, hFA, hheld, hmay, hmays, hSf, hSd, hl511⟩
  have h1 : ¬ ((k : Int) < 0) := by omega
  have h2 : ¬ ((k : Int) > (vs.length : Int)) := by omega
  have c9' : w.cell? ⟨b, 9, none⟩ = some (.slice ps vs.length cs) := by rw [cell_blk hb]; rfl
  clear hW ht hh hFA hheld hmay hmays hSf hSd hS hcap hncs hd
  have hk0 : (0 : Int) ≤ (k : Int) := by omega
  generalize hn : vs.length = n at *
  go_enter Tryz.func144, Tryz.ntmps144
  go_wp2_with fail
  go_region
  go_wp2_with fail
  have HX : Hid (Below w.heap.size w ((w.alloc (.cells #[.int .u8 1, .int .i64 (k : Int), .string ⟨#[]⟩, .slice none 0 0, .int .i64 0] 34)).alloc (.cells #[.int .u8 0, .int .i64 0, .string ⟨#[]⟩, .slice none 0 0, .int .i64 0] 34)).drew ∧ ((w.alloc (.cells #[.int .u8 1, .int .i64 (k : Int), .string ⟨#[]⟩, .slice none 0 0, .int .i64 0] 34)).alloc (.cells #[.int .u8 0, .int .i64 0, .string ⟨#[]⟩, .slice none 0 0, .int .i64 0] 34)).drew.heap[w.heap.size]? = some (.cells #[.int .u8 1, .int .i64 (k : Int), .string ⟨#[]⟩, .slice none 0 0, .int .i64 0] 34 (0, 0)) ∧ ((w.alloc (.cells #[.int .u8 1, .int .i64 (k : Int), .string ⟨#[]⟩, .slice none 0 0, .int .i64 0] 34)).alloc (.cells #[.int .u8 0, .int .i64 0, .string ⟨#[]⟩, .slice none 0 0, .int .i64 0] 34)).drew.heap[w.heap.size + 1]? = some (.cells zV 34 (0, 0))) :=
    ⟨(((Below.refl _ _).alloc (Nat.le_refl _) _).alloc (by simp) _).drew, blk2_old _ _ _, blk2_new _ _ _⟩
  revert HX
  generalize World.drew _ = w2
  intro HX
  clear c9'
  have hb2 := (HX.out.1.block b hlt).trans hb
  have c9 : w2.cell? ⟨b, 9, none⟩ = some (.slice ps n cs) := by rw [cell_blk hb2]; rfl
  have f9 := frozen_blk hb2 9
  have d1 : w2.cell? ⟨w.heap.size, 1, none⟩ = some (.int .i64 k) := by rw [cell_blk HX.out.2.1]; rfl
  go_still_tail 9, (by kernel_rfl)
  change wpList _ _ _ _ _ w2.drew
  go_wp2_with fail
  have HX3 : Hid (Below w.heap.size w w2.drew ∧ w2.drew.heap[w.heap.size]? = some (.cells #[.int .u8 1, .int .i64 (k : Int), .string ⟨#[]⟩, .slice none 0 0, .int .i64 0] 34 (0, 0)) ∧ w2.drew.heap[w.heap.size + 1]? = some (.cells zV 34 (0, 0))) := ⟨HX.out.1.drew, blk_drew HX.out.2.1, blk_drew HX.out.2.2⟩
  clear hb2 c9 f9 d1 HX
  revert HX3
  generalize w2.drew = w3
  intro HX
  have hb2 := (HX.out.1.block b hlt).trans hb
  have c9 : w3.cell? ⟨b, 9, none⟩ = some (.slice ps n cs) := by rw [cell_blk hb2]; rfl
  have f9 := frozen_blk hb2 9
  have d1 : w3.cell? ⟨w.heap.size, 1, none⟩ = some (.int .i64 k) := by rw [cell_blk HX.out.2.1]; rfl
  go_still_tail 14, (by kernel_rfl)
  change wpList _ _ _ _ _ w3.drew
  go_wp2_with fail
  have hb3 : (w3.setCell ⟨b, 9, none⟩ (.slice pd nd cd)).drew.heap[b]? = some (.cells (baseC p r (qT 4 h (vs.drop k) (.slice pd nd cd))) 100 (0, 0)) := blk_setCell hb2 9 (.slice pd nd cd)
  have hk3 : Keeps (fun y => y = b) w (w3.setCell ⟨b, 9, none⟩ (.slice pd nd cd)).drew := (Below.keeps HX.out.1 (Keeps.setCell (S := fun y => y = b) w3 ⟨b, 9, none⟩ _ rfl)).drew
  have hr3 : (w3.setCell ⟨b, 9, none⟩ (.slice pd nd cd)).drew.heap[w.heap.size + 1]? = some (.cells zV 34 (0, 0)) := blk_other HX.out.2.2 ⟨b, 9, none⟩ _ (by simp; omega)
  have HS3 := (show Hid _ from And.intro hb3 (And.intro hk3 hr3))
  clear hb3 hk3 hr3 hb2 c9 f9 d1 HX
  revert HS3
  generalize World.drew _ = w4
  intro HS3
  have c0 : w4.cell? ⟨b, 0, none⟩ = some (.pointer (some ⟨p, 0, none⟩)) := by rw [cell_blk HS3.out.1]; rfl
  have c1 : w4.cell? ⟨b, 1, none⟩ = some (.int .i64 r) := by rw [cell_blk HS3.out.1]; rfl
  have ldx : (ldW (.pointer (some ⟨b, 2, none⟩))).run Tryz.prog w4.drew = .ok (.value (.agg #[.int .u8 4, .int .i64 h, .int .u8 0, .int .i64 0, .string ⟨#[]⟩, .slice none 0 0, .int .i64 0, .slice pd nd cd, .int .i64 0, .int .i64 0, .int .i64 0, .int .i64 0, .int .u8 0, .bool false, .slice none 0 0, .slice none 0 0])) w4.drew := ldW_mid (blk_drew HS3.out.1) (cs := #[.int .u8 4, .int .i64 h, .int .u8 0, .int .i64 0, .string ⟨#[]⟩, .slice none 0 0, .int .i64 0, .slice pd nd cd, .int .i64 0, .int .i64 0, .int .i64 0, .int .i64 0, .int .u8 0, .bool false, .slice none 0 0, .slice none 0 0].toList) (by intro j x hj; exact baseC_at (t := qT 4 h (vs.drop k) (.slice pd nd cd)) hj) rfl
  obtain ⟨hW, ht, hh, hFA, hheld, hmay, hmays, hSf, hSd, hl511⟩ := HP.out
  have hW4 : IsW w4.drew p M F := hW.keeps HS3.out.2.1.drew (fun y hy e => hbF (e ▸ hy))
  have hSd4 : SlAt w4.drew FA (.slice pd nd cd) (vs.drop k) := hSd.keeps HS3.out.2.1.drew (fun y e hy => (hFA y hy).1 e)
  have hSf4 : SlAt w4.drew FA (.slice ps k cs) (vs.take k) := hSf.keeps HS3.out.2.1.drew (fun y e hy => (hFA y hy).1 e)
  have hsub : ∀ r ∈ heldL (qT 4 h (vs.drop k) (.slice pd nd cd)), (Lit.int .i64 r).wf = true ∧ (M.at r).isSome = true := fun r hr => hheld r (by
    simp only [heldL, List.mem_append, List.mem_flatMap] at hr ⊢
    rcases hr with hr | ⟨x, hx, hr⟩
    · exact .inl hr
    · exact .inr ⟨x, List.mem_of_mem_drop hx, hr⟩)
  have HL : Hid (Calls Tryz.prog 137 #[.pointer (some ⟨p, 0, none⟩), .int .i64 r, .agg #[.int .u8 4, .int .i64 h, .int .u8 0, .int .i64 0, .string ⟨#[]⟩, .slice none 0 0, .int .i64 0, .slice pd nd cd, .int .i64 0, .int .i64 0, .int .i64 0, .int .i64 0, .int .u8 0, .bool false, .slice none 0 0, .slice none 0 0]] w4.drew fun e w' => e = .returned (.int .i64 0) ∧ LaidG w4.drew p M F r (qT 4 h (vs.drop k) (.slice pd nd cd)) w') := by
    refine Lay_G hW4 hr ht rfl (x := qT 4 h (vs.drop k) (.slice pd nd cd)) ⟨SlAt.nil _ _ _ _, hSd4, rfl, rfl⟩ ⟨(refsV0 0 0 (.inl ⟨rfl, rfl⟩)).2, fun x hx => hmays x (List.mem_of_mem_drop hx), by show (vs.drop k).length ≤ _; simp; omega⟩ rfl rfl rfl rfl rfl (fun r hr => (hsub r hr).1) (by unfold namesB; rw [List.all_eq_true]; exact fun r hr => (hsub r hr).2) ?_
    intro w' hb'
    exact formV_4 (hW4.below hb') hh vYes0 (ofYes (hSd4.on hb') (by simp; omega) (ofE_may (fun x hx => hmays x (List.mem_of_mem_drop hx)) (mayList_drop hmay k)))
  have HO : Hid (ofE (vs.take k) = 0 ∧ (vs.take k).length = k ∧ SlAt w4.drew FA (.slice ps k cs) (vs.take k) ∧ ∀ y, FA y → ¬ F y) := ⟨ofE_may (fun x hx => hmays x (List.mem_of_mem_take hx)) (mayList_take hmay k), by simp; omega, hSf4, fun y hy => (hFA y hy).2⟩
  clear hW ht hh hFA hheld hmay hmays hSf hSd hW4 hSd4 hSf4 hsub
  go_still_tail 15, (by kernel_rfl)
  change wpList _ _ _ _ _ w4.drew
  go_wp2_with fail
  refine Calls.mono HL.out ?_
  rintro e w5 ⟨rfl, hl⟩
  have HLG := (show Hid (LaidG w4.drew p M F r (qT 4 h (vs.drop k) (.slice pd nd cd)) w5) from hl)
  have hk5 : Keeps F w4.drew w5 := by obtain ⟨_, _, _, _, _, l2, _⟩ := hl; exact l2
  have hs5 : SlAt w5 FA (.slice ps k cs) (vs.take k) := HO.out.2.2.1.keeps hk5 (fun y hy hf => HO.out.2.2.2 y hf hy)
  have hr5 := (hk5.block _ (blk_lt (blk_drew HS3.out.2.2)) (fun e => by have := HbF.out _ e; omega)).trans (blk_drew HS3.out.2.2)
  have HS5 := (show Hid (SlAt w5 FA (.slice ps k cs) (vs.take k) ∧ w5.heap[w.heap.size + 1]? = some (.cells zV 34 (0, 0)) ∧ w4.drew.heap.size ≤ w5.heap.size) from ⟨hs5, hr5, hk5.size⟩)
  clear hl hk5 hs5 hr5 c0 c1 ldx HL
  go_wp2_with fail
  refine (Of_G (vs.take k) (.slice ps k cs) HS5.out.1 (by have := HO.out.2.1; omega)).mono ?_
  rintro e w6 ⟨hb6, hof⟩
  obtain ⟨raw', rfl, hs6⟩ : ∃ raw', e = .returned (.tuple #[.agg (vcs (listV (vs.take k)) raw'), .int .i64 0]) ∧ SlT w6 (fun b => w5.heap.size ≤ b) raw' (vs.take k) := by
    rcases hof with ⟨-, h⟩ | ⟨h, -⟩
    · exact h
    · exact absurd HO.out.1 h
  obtain ⟨pr, cr, hform⟩ := hs6.form
  rw [HO.out.2.1] at hform
  subst hform
  have hg6 := below_blk hb6 HS5.out.2.1
  have hst := storeV_blk (c' := #[.int .u8 3, .int .i64 0, .string ⟨#[]⟩, .slice pr k cr, .int .i64 0]) hg6 rfl rfl (by simp [go_sem])
  have HZ := (show Hid _ from heap_setRow_at (c' := #[.int .u8 3, .int .i64 0, .string ⟨#[]⟩, .slice pr k cr, .int .i64 0]) hg6)
  have HE : Hid (TakePostQ w p M F r h vs k b (.returned (.tuple #[.agg (vcs (listV (vs.take k)) (.slice pr k cr)), .int .i64 0])) (w6.setRow (w.heap.size + 1) #[.int .u8 3, .int .i64 0, .string ⟨#[]⟩, .slice pr k cr, .int .i64 0])) := by
    have hz4 := blk_lt HS3.out.2.2
    have hz5 : w.heap.size + 1 < w4.drew.heap.size := hz4
    have h45 := HS5.out.2.2
    obtain ⟨vl', vals', F', l0, l1, l2, l3⟩ := HLG.out
    have hF' : ∀ y, F' y → y ≠ w.heap.size + 1 := fun y hy e => by
      rcases l3 y hy with h | h
      · have := HbF.out y h
        omega
      · omega
    refine ⟨.slice pr k cr, .slice pd nd cd, vl', vals', F', rfl, hs6.of_blocks (Lists.of fun y hy => heap_setRow_other _ _ _ _ (by have : w5.heap.size ≤ y := hy; omega)) (fun y hy => ⟨by have : w5.heap.size ≤ y := hy; omega, fun e => by have := l1.lt y e; have : w5.heap.size ≤ y := hy; omega⟩), l0, (l1.below hb6).of_setRow (fun y hy => hF' y hy) _, ?_, fun y hy => (l3 y hy).imp id fun h => by omega⟩
    have k1 : Keeps (fun y => F y ∨ y = b) w w5 := (HS3.out.2.1.drew).trans l2 (fun _ _ h => .inr h) (fun _ _ h => .inl h)
    have k2 : Keeps (fun y => F y ∨ y = b) w w6 := k1.then_below hb6
    exact ⟨k2.os, k2.tape, k2.output, by simpa [World.setRow] using k2.size, fun y hy hn => (heap_setRow_other _ _ _ _ (by omega)).trans (k2.block y hy hn)⟩
  have Hof := (show Hid _ from hof)
  clear hb6 hs6 hg6 HS5 HLG HS3 hof
  simp only [vcs, listV]
  go_wp2_with fail
  obtain ⟨⟨r0, r1, r2, r3, r4⟩, -⟩ := cells5 HZ.out
  refine bodyPost_ret (v := .tuple #[.agg #[.int .u8 3, .int .i64 0, .string ⟨#[]⟩, .slice pr k cr, .int .i64 0], .int .i64 0]) ?_ rfl ?_
  · simp [results, Tryz.results144, go_sem, r0, r1, r2, r3, r4]
  · exact HE.out
end Go.Proofs.YtcoiccbmcjdheaaGreat
/- plain: what an act comes to, of a world as data. -/
namespace Go.Proofs.YtcoiccbmcjdheaaGreat
open Go.RowKit Go.ChangeMaps Go.MapKept
variable {w : World} {p : Nat} {M : WM} {F : Nat → Prop}

/-- The world is N, in its blocks and new ones. -/
def Acts (w : World) (p : Nat) (F : Nat → Prop) (N : WM) (w' : World) : Prop := Keeps F w w' ∧ ∃ F', IsW w' p N F' ∧ ∀ y, F' y → F y ∨ w.heap.size ≤ y
/-- The nothing. -/
abbrev nilV : Val := ⟨0, 0, ⟨#[]⟩, [], 0⟩
abbrev numV (n : Int) : Val := ⟨1, n, ⟨#[]⟩, [], 0⟩
/-- An act's answer. -/
def ActPost (w : World) (p : Nat) (F : Nat → Prop) (X : Val → Int → WM → Prop) (e : Ending) (w' : World) : Prop :=
  ∃ v pv cv n N F', e = .returned (.tuple #[.agg (vcs v (.slice pv v.l.length cv)), .int .i64 n]) ∧ X v n N ∧ Keeps F w w' ∧ IsW w' p N F' ∧ (∀ y, F' y → F y ∨ w.heap.size ≤ y) ∧ SlT w' (fun y => w.heap.size ≤ y ∧ ¬ F' y) (.slice pv v.l.length cv) v.l
/-- What a method is to leave, for the same. -/
def MethX (p : Nat) (F : Nat → Prop) (X : Val → Int → WM → Prop) (w0 : World) (v : Val) (raw : Value) (n : Int) (w1 : World) : Prop :=
  ∃ N F', X v n N ∧ IsW w1 p N F' ∧ (∀ y, F' y → F y ∨ w0.heap.size ≤ y) ∧ SlT w1 (fun y => w0.heap.size ≤ y ∧ ¬ F' y) raw v.l
theorem methX_stab (hF : ∀ y, F y → y < w.heap.size) {X : Val → Int → WM → Prop} : ∀ w0 v raw n w1 w2 y, w.heap.size ≤ y → y < w0.heap.size → Keeps (fun z => z = y) w1 w2 → MethX p F X w0 v raw n w1 → MethX p F X w v raw n w2 := by
  rintro w0 v raw n w1 w2 y h1 h2 hk ⟨N, F', hX, hW, hF', hS⟩
  refine ⟨N, F', hX, hW.keeps hk fun z hz e => ?_, fun z hz => (hF' z hz).imp id fun h => by omega, ?_⟩
  · subst e
    rcases hF' _ hz with h | h
    · have := hF _ h
      omega
    · omega
  · have key : SlT w2 (fun y => w0.heap.size ≤ y ∧ ¬ F' y) raw v.l := (hS.monoLt (F' := fun z => (w0.heap.size ≤ z ∧ ¬ F' z) ∧ z < w1.heap.size) fun b h h' => ⟨h, h'⟩).of_blocks (Lists.of fun b hb => hk.block b hb.2 (by have := hb.1.1; omega)) (fun b hb => hb.1)
    exact key.mono fun b hb => ⟨by have := hb.1; omega, hb.2⟩
theorem doAct {X : Val → Int → WM → Prop} {e : Ending} {w' : World} (h : ∃ v' pv cv n, e = .returned (.tuple #[.agg (vcs v' (.slice pv v'.l.length cv)), .int .i64 n]) ∧ Keeps F w w' ∧ MethX p F X w v' (.slice pv v'.l.length cv) n w') : ActPost w p F X e w' := by
  obtain ⟨v', pv, cv, n, he, hk, N, F', hX, hW, hF, hS⟩ := h
  exact ⟨v', pv, cv, n, N, F', he, hX, hk, hW, hF, hS⟩
theorem ActPost.acts {X : Val → Int → WM → Prop} {e : Ending} {w' : World} (h : ActPost w p F X e w') : ∃ v pv cv n N, e = .returned (.tuple #[.agg (vcs v (.slice pv v.l.length cv)), .int .i64 n]) ∧ X v n N ∧ Acts w p F N w' := by
  obtain ⟨v', pv, cv, n, N, F', he, hX, hk, hW, hF, -⟩ := h
  exact ⟨v', pv, cv, n, N, he, hX, hk, F', hW, hF⟩

/-! ### tallies -/
/-- What a tally answers to a number. -/
def TallyX (M : WM) (r h n m : Int) (v : Val) (c : Int) (N : WM) : Prop :=
  v = nilV ∧ ((m < 0 ∧ c = 2 ∧ N = M) ∨ (0 ≤ m ∧ 9007199254740992 - n < m ∧ c = 8 ∧ N = M) ∨ (0 ≤ m ∧ n + m ≤ 9007199254740992 ∧ c = 0 ∧ N = M.set r (lt 3 h 0 0 (n + m) 0 0 0 0 false)))
theorem found_light {r k hm n : Int} {ty : TypeId} {b : Nat} {w0 w' : World} (h : FoundB w0 p r (lt k hm 0 0 n 0 0 0 0 false) ty b w') : w'.heap[b]? = some (.cells (baseC p r (lt k hm 0 0 n 0 0 0 0 false)) ty (0, 0)) ∧ w0.heap.size ≤ b ∧ Below w0.heap.size w0 w' := by
  obtain ⟨vl', vals', h1, h2, h3, -, h5, h6, -⟩ := h
  rw [h5 rfl, h6 rfl] at h1
  exact ⟨h1, h2, h3⟩
theorem fair_lt (k h n : Int) : Fair (lt k h 0 0 n 0 0 0 0 false) := ⟨(refsV0 0 0 (.inl ⟨rfl, rfl⟩)).2, fun x hx => (by cases hx), Nat.zero_le _⟩
theorem act_3_8 (hW : IsW w p M F) {r : Int} (hr : (Lit.int .i64 r).wf = true) {h n : Int} (ht : M.at r = some (lt 3 h 0 0 n 0 0 0 0 false)) (hh : sideB M h = true) (hn : 0 ≤ n ∧ n ≤ 9007199254740992) (m : Int) :
    Calls Tryz.prog 38 #[.pointer (some ⟨p, 0, none⟩), .int .i64 r, .int .u8 8, .agg (vcs (numV m) (.slice none 0 0))] w (ActPost w p F (TallyX M r h n m)) := by
  have hv := refsV0 1 m (.inr rfl)
  refine (Do_3_8 hW hr ht (fair_lt 3 h n) rfl (v := numV m) (SlAt.nil w F none 0) hv.2 (fun r hr => by rw [hv.1] at hr; cases hr) (Post := MethX p F (TallyX M r h n m)) (Post' := fun v raw n' w2 => MethX p F _ w v raw n' w2)
    (methX_stab hW.lt) ?_).mono fun _ _ h => doAct h
  intro w0 w' b hb0 hfd
  obtain ⟨hb, hbw, hbel⟩ := found_light hfd
  have hW' : IsW w' p M F := hW.below (hb0.trans (hbel.mono hb0.size))
  have hbF : ¬ F b := fun e => by have := hW.lt b e; have := hb0.size; omega
  by_cases h1 : m < 0
  · exact (tyGive_arg w' b m h1).mono fun e w'' ⟨he, hb''⟩ => ⟨nilV, none, 0, 2, he, Keeps.of_below hb'', M, F, ⟨rfl, .inl ⟨h1, rfl, rfl⟩⟩, hW'.below hb'', fun _ h => .inl h, SlT.nil _ _ _ _⟩
  by_cases h2 : 9007199254740992 - n < m
  · exact (tyGive_lim hb hn h2).mono fun e w'' ⟨he, hb''⟩ => ⟨nilV, none, 0, 8, he, Keeps.of_below hb'', M, F, ⟨rfl, .inr (.inl ⟨by omega, h2, rfl, rfl⟩)⟩, hW'.below hb'', fun _ h => .inl h, SlT.nil _ _ _ _⟩
  · refine (tyGive_W (m := m) hW' hr ht hb hbF hh hn.1 (by omega) (by omega)).mono fun e w'' ⟨he, F', l1, l2, l3⟩ => ⟨nilV, none, 0, 0, he, l2, _, F', ⟨rfl, .inr (.inr ⟨by omega, by omega, rfl, rfl⟩)⟩, l1, fun y hy => (l3 y hy).imp id fun h => Nat.le_trans hbel.size h, SlT.nil _ _ _ _⟩
theorem act_3_1 (hW : IsW w p M F) {r : Int} (hr : (Lit.int .i64 r).wf = true) {h n : Int} (ht : M.at r = some (lt 3 h 0 0 n 0 0 0 0 false)) :
    Calls Tryz.prog 38 #[.pointer (some ⟨p, 0, none⟩), .int .i64 r, .int .u8 1, .agg (vcs nilV (.slice none 0 0))] w (ActPost w p F (fun v c N => v = numV n ∧ c = 0 ∧ N = M)) := by
  have hv := refsV0 0 0 (.inl ⟨rfl, rfl⟩)
  refine (Do_3_1 hW hr ht (fair_lt 3 h n) rfl (v := nilV) (SlAt.nil w F none 0) hv.2 (fun r hr => by rw [hv.1] at hr; cases hr) (Post := MethX p F (fun v c N => v = numV n ∧ c = 0 ∧ N = M)) (Post' := fun v raw n' w2 => MethX p F _ w v raw n' w2)
    (methX_stab hW.lt) ?_).mono fun _ _ h => doAct h
  intro w0 w' b hb0 hfd
  obtain ⟨hb, hbw, hbel⟩ := found_light hfd
  have hW' : IsW w' p M F := hW.below (hb0.trans (hbel.mono hb0.size))
  exact (tyGet_W hb).mono fun e w'' ⟨he, hb''⟩ => ⟨numV n, none, 0, 0, he, Keeps.of_below hb'', M, F, ⟨rfl, rfl, rfl⟩, hW'.below hb'', fun _ h => .inl h, SlT.nil _ _ _ _⟩
end Go.Proofs.YtcoiccbmcjdheaaGreat
