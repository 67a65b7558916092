/- A part of the proof, several texts in one: PlDB, PlV, VSub. -/
import Derived.Test.YthaliljaglldjaaGreatmBJ
import Derived.Test.YthaliljaglldjaaGreatmAZ
/- plain.Do at some kinds and abilities. Printed by gen_do.py. -/
namespace Go.Proofs.YthaliljaglldjaaGreat
open Go.RowKit Go.ChangeMaps Go.MapKept
variable {w : World} {p : Nat} {M : WM} {F : Nat → Prop}
end Go.Proofs.YthaliljaglldjaaGreat
/- plain: give of a log, a queue. Printed by gen_give.py. -/
namespace Go.Proofs.YthaliljaglldjaaGreat
open Go.RowKit Go.ChangeMaps Go.MapKept
variable {w : World} {p : Nat} {M : WM} {F : Nat → Prop}
theorem LaidB.start {w w1 w' : World} {r : Int} {x : Th} {b : Nat} (h : LaidB w1 p M F r x b w') (hb : Below w.heap.size w w1) : LaidB w p M F r x b w' := by
  obtain ⟨vl', vals', F', l0, l1, l2, l3⟩ := h
  exact ⟨vl', vals', F', l0, l1, Below.keeps hb l2, fun y hy => (l3 y hy).imp id fun h => Nat.le_trans hb.size h⟩
theorem execOp_ldVv9 (ρ : Operand → Value) (ty : TypeId) (pos : String) (af : Array Edge) (g : Option (Nat × Bool)) :
    execOp ρ { dst := some 9, op := .load 27 (.tmp 3), type := ty, pos := pos, after := af, guard := g } = ldV (ρ (.tmp 3)) := rfl
theorem execOp_stVv (ρ : Operand → Value) (ty : TypeId) (pos : String) (af : Array Edge) (g : Option (Nat × Bool)) :
    execOp ρ { dst := none, op := .store 27 (.tmp 4) (.tmp 11), type := ty, pos := pos, after := af, guard := g } = stV (ρ (.tmp 4)) (ρ (.tmp 11)) := rfl
def GivePost (w : World) (p : Nat) (M : WM) (F : Nat → Prop) (r k h : Int) (vs : List Val) (v : Val) (b : Nat) (e : Ending) (w' : World) : Prop :=
  (mayV (listV (vs ++ [v])) = true ∧ e = .returned (.tuple #[.agg zV, .int .i64 0]) ∧ ∃ vals', LaidB w p M F r (qT k h (vs ++ [v]) vals') b w') ∨
  (mayV (listV (vs ++ [v])) = false ∧ e = .returned (.tuple #[.agg zV, .int .i64 8]) ∧ Below w.heap.size w w')
attribute [local go_sem ↓] execOp_ldVv9 execOp_stVv in
set_option maxHeartbeats 4000000 in
set_option maxRecDepth 20000 in
theorem qGive_W (hW : IsW w p M F) {r : Int} (hr : (Lit.int .i64 r).wf = true) {k h : Int} (hk : k = 2 ∨ k = 4) {vs : List Val} {vals0 vals : Value} (ht : M.at r = some (qT k h vs vals0)) {b : Nat} (hb : w.heap[b]? = some (.cells (baseC p r (qT k h vs vals)) 167 (0, 0))) (hbF : ¬ F b)
    (hh : sideB M h = true) {FA FB : Nat → Prop} (hS : SlAt w FA vals vs) (hFA : ∀ y, FA y → y ≠ b) (hcap : CapOk vals) (hheld : ∀ r ∈ heldL (qT k h vs vals0), (Lit.int .i64 r).wf = true ∧ (M.at r).isSome = true) (hmay : ∀ x ∈ vs, mayV x = true) (hlen : vs.length ≤ 1024)
    {v : Val} {raw : Value} (hv : SlAt w FB raw v.l) (hFB : ∀ y, FB y → y ≠ b) (hm : mayV v = true) (hkn : ∀ r ∈ refsV v, (Lit.int .i64 r).wf = true ∧ (M.at r).isSome = true) :
    Calls Tryz.prog 331 #[.pointer (some ⟨b, 0, none⟩), .agg (vcs v raw)] w (GivePost w p M F r k h vs v b) := by
  obtain ⟨pv, cv, rfl⟩ := hv.form
  have hlt := blk_lt hb
  have HbF : Hid (∀ y, F y → y < w.heap.size) := hW.lt
  have HC : Hid (∀ w1, Below w.heap.size w w1 → Calls Tryz.prog 320 #[.pointer (some ⟨b, 0, none⟩), .agg (vcs v (.slice pv v.l.length cv))] w1 (GivePost w1 p M F r k h vs v b)) := fun w1 hb1 =>
    bAdded_W (hW.below hb1) hr hk ht ((hb1.block b hlt).trans hb) hbF hh (hS.on hb1) hFA hcap hheld hmay hlen (hv.on hb1) hFB hm hkn
  clear hW hr hk ht hb hh hS hFA hcap hheld hmay hlen hv hFB hm hkn
  obtain ⟨vk, vn, vstr, vl, vr⟩ := v
  simp only [vcs] at HC ⊢
  generalize hnv : vl.length = nv at *
  have HX : Hid (Below w.heap.size w ((w.alloc (.cells #[.int .u8 vk, .int .i64 vn, .string vstr, .slice pv nv cv, .int .i64 vr] 27)).alloc (.cells #[.int .u8 0, .int .i64 0, .string ⟨#[]⟩, .slice none 0 0, .int .i64 0] 27)).drew ∧
      ((w.alloc (.cells #[.int .u8 vk, .int .i64 vn, .string vstr, .slice pv nv cv, .int .i64 vr] 27)).alloc (.cells #[.int .u8 0, .int .i64 0, .string ⟨#[]⟩, .slice none 0 0, .int .i64 0] 27)).drew.heap[w.heap.size]? = some (.cells #[.int .u8 vk, .int .i64 vn, .string vstr, .slice pv nv cv, .int .i64 vr] 27 (0, 0)) ∧
      ((w.alloc (.cells #[.int .u8 vk, .int .i64 vn, .string vstr, .slice pv nv cv, .int .i64 vr] 27)).alloc (.cells #[.int .u8 0, .int .i64 0, .string ⟨#[]⟩, .slice none 0 0, .int .i64 0] 27)).drew.heap[w.heap.size + 1]? = some (.cells zV 27 (0, 0))) :=
    ⟨(((Below.refl _ _).alloc (Nat.le_refl _) _).alloc (by simp) _).drew, blk2_old _ _ _, blk2_new _ _ _⟩
  go_enter Tryz.func331, Tryz.ntmps331
  go_upto_region 1 with fail
  refine wp_region_pivotS 4 2 (by kernel_rfl) (by kernel_rfl) ?_
  revert HX
  generalize World.drew _ = wa
  intro HX
  have hldv := loadV_blk HX.out.2.1 rfl
  simp only [List.take_succ_cons, List.take_zero, List.drop_succ_cons, List.drop_zero]
  repeat still_step
  refine wpStill_nil ?_
  go_wp2_with fail
  refine Calls.mono (HC.out wa HX.out.1) ?_
  rintro e w9 h9
  have HR : Hid (w9.heap[w.heap.size + 1]? = some (.cells zV 27 (0, 0)) ∧ ∀ e', GivePost wa p M F r k h vs ⟨vk, vn, vstr, vl, vr⟩ b e' w9 → GivePost w p M F r k h vs ⟨vk, vn, vstr, vl, vr⟩ b e' w9) := by
    refine ⟨?_, fun e' h => ?_⟩
    · rcases h9 with ⟨-, -, vals', vl', vals2, F', l0, l1, l2, l3⟩ | ⟨-, -, l2⟩
      · exact (l2.block _ (blk_lt HX.out.2.2) (fun e => by rcases e with e | e; have := HbF.out _ e; omega; omega)).trans HX.out.2.2
      · exact below_blk l2 HX.out.2.2
    · rcases h with ⟨l0, l1, vals', l2⟩ | ⟨l0, l1, l2⟩
      · exact .inl ⟨l0, l1, vals', l2.start HX.out.1⟩
      · exact .inr ⟨l0, l1, HX.out.1.trans (l2.mono HX.out.1.size)⟩
  obtain ⟨⟨r0, r1, r2, r3, r4⟩, -⟩ := cells5 HR.out.1
  have hst : (stV (.pointer (some ⟨w.heap.size + 1, 0, none⟩)) (.agg zV)).run Tryz.prog w9 = .ok .skip w9 := stV_same HR.out.1 rfl (by simp [zV]) (by simp [zV, go_sem]) (by simp [zV])
  have H9 : Hid (GivePost wa p M F r k h vs ⟨vk, vn, vstr, vl, vr⟩ b e w9) := h9
  clear HC HX hldv
  rcases h9 with ⟨-, rfl, -⟩ | ⟨-, rfl, -⟩
  · go_wp2_with fail
    change wpStill _ _ _ _ _ _
    repeat still_step
    refine wpStill_nil ?_
    go_wp2_with fail
    exact bodyPost_ret (v := .tuple #[.agg zV, .int .i64 0]) (by simp [results, Tryz.results331, go_sem, r0, r1, r2, r3, r4, zV]) rfl (HR.out.2 _ H9.out)
  · go_wp2_with fail
    change wpStill _ _ _ _ _ _
    repeat still_step
    refine wpStill_nil ?_
    go_wp2_with fail
    exact bodyPost_ret (v := .tuple #[.agg zV, .int .i64 8]) (by simp [results, Tryz.results331, go_sem, r0, r1, r2, r3, r4, zV]) rfl (HR.out.2 _ H9.out)
end Go.Proofs.YthaliljaglldjaaGreat
/- Parts of a list that may be may be. -/
namespace Go.Proofs.YthaliljaglldjaaGreat
open Go.RowKit Go.ChangeMaps Go.MapKept
theorem takeL_app {n : Nat} (l m : List Val) (p : Nat) : takeL n p (l ++ m) = (takeL n p l).bind fun q => takeL n q m := by
  unfold takeL
  rw [List.foldlM_append]
  rfl
theorem takeL_shift {n : Nat} (ih : ∀ p v q d, takeV n p v = some q → takeV n (p + d) v = some (q + d)) : ∀ (l : List Val) (p q d : Nat), takeL n p l = some q → takeL n (p + d) l = some (q + d)
  | [], p, q, d, h => by
    cases h
    rfl
  | x :: l, p, q, d, h => by
    have e : ∀ p, takeL n p (x :: l) = (takeV n p x).bind fun q => takeL n q l := fun p => by
      unfold takeL
      rw [List.foldlM_cons]
      rfl
    rw [e] at h ⊢
    cases hx : takeV n p x with
    | none => rw [hx] at h; cases h
    | some q' =>
      rw [hx] at h
      rw [ih p x q' d hx]
      exact takeL_shift ih l q' q d h
theorem takeV_shift : ∀ (n p : Nat) (v : Val) (q d : Nat), takeV n p v = some q → takeV n (p + d) v = some (q + d) := by
  intro n
  induction n with
  | zero =>
    intro p v q d h
    cases p with
    | zero => cases h
    | succ p =>
      have e : p + 1 + d = (p + d) + 1 := by omega
      rw [e]
      by_cases h0 : v.kind = 0
      · rw [tk0 h0] at h ⊢
        split at h
        · rw [if_pos (by assumption)]; cases h; rfl
        · cases h
      by_cases h1 : v.kind = 1
      · rw [tk1 h1] at h ⊢
        split at h
        · rw [if_pos (by assumption)]; cases h; rfl
        · cases h
      by_cases h2 : v.kind = 2
      · rw [tk2 h2] at h ⊢
        split at h
        · cases h
        · rename_i hs
          rw [if_neg hs]
          split at h
          · rw [if_pos (by assumption)]; cases h; rfl
          · cases h
      by_cases h4 : v.kind = 4
      · rw [tk4 h4] at h ⊢
        split at h
        · cases h
        · rename_i hs
          rw [if_neg hs]
          split at h
          · rw [if_pos (by assumption)]; cases h; rfl
          · cases h
      by_cases h3 : v.kind = 3
      · rw [tk3z h3] at h
        cases h
      · rw [tkx h0 h1 h2 h3 h4] at h
        cases h
  | succ n ih =>
    intro p v q d h
    cases p with
    | zero => cases h
    | succ p =>
      have e : p + 1 + d = (p + d) + 1 := by omega
      rw [e]
      by_cases h0 : v.kind = 0
      · rw [tk0 h0] at h ⊢
        split at h
        · rw [if_pos (by assumption)]; cases h; rfl
        · cases h
      by_cases h1 : v.kind = 1
      · rw [tk1 h1] at h ⊢
        split at h
        · rw [if_pos (by assumption)]; cases h; rfl
        · cases h
      by_cases h2 : v.kind = 2
      · rw [tk2 h2] at h ⊢
        split at h
        · cases h
        · rename_i hs
          rw [if_neg hs]
          split at h
          · rw [if_pos (by assumption)]; cases h; rfl
          · cases h
      by_cases h4 : v.kind = 4
      · rw [tk4 h4] at h ⊢
        split at h
        · cases h
        · rename_i hs
          rw [if_neg hs]
          split at h
          · rw [if_pos (by assumption)]; cases h; rfl
          · cases h
      by_cases h3 : v.kind = 3
      · by_cases hl : v.l.length > p
        · rw [tk3l h3 hl] at h
          cases h
        · rw [tk3 h3 hl] at h
          rw [tk3 h3 (by omega)]
          cases hq : takeL n p v.l with
          | none => rw [hq] at h; cases h
          | some q' =>
            rw [hq] at h
            rw [takeL_shift ih v.l p q' d hq]
            simp only at h ⊢
            split at h
            · rw [if_pos (by assumption)]; cases h; rfl
            · cases h
      · rw [tkx h0 h1 h2 h3 h4] at h
        cases h
theorem mayList_iff (l : List Val) : mayV (listV l) = true ↔ l.length ≤ 511 ∧ ∃ q, takeL 15 511 l = some q := by
  unfold mayV
  by_cases hl : l.length > 511
  · rw [show (512 : Nat) = 511 + 1 from rfl, show (16 : Nat) = 15 + 1 from rfl, tk3l (v := listV l) rfl hl]
    constructor
    · intro h; cases h
    · intro h; omega
  · rw [show (512 : Nat) = 511 + 1 from rfl, show (16 : Nat) = 15 + 1 from rfl, tk3 (v := listV l) rfl hl]
    show (match takeL 15 511 l with | none => none | some q => if chk 0 ⟨#[]⟩ 0 0 then some q else none).isSome = true ↔ _
    cases hq : takeL 15 511 l with
    | none =>
      constructor
      · intro h; cases h
      · intro h
        obtain ⟨_, q, h⟩ := h
        cases h
    | some q => exact ⟨fun _ => ⟨by omega, q, rfl⟩, fun _ => rfl⟩
theorem mayList_take {l : List Val} (h : mayV (listV l) = true) (k : Nat) : mayV (listV (l.take k)) = true := by
  rw [mayList_iff] at h ⊢
  obtain ⟨h1, q, h2⟩ := h
  refine ⟨by simp; omega, ?_⟩
  cases hq : takeL 15 511 (l.take k) with
  | none => rw [takeL_none hq] at h2; cases h2
  | some q' => exact ⟨q', rfl⟩
theorem mayList_drop {l : List Val} (h : mayV (listV l) = true) (k : Nat) : mayV (listV (l.drop k)) = true := by
  rw [mayList_iff] at h ⊢
  obtain ⟨h1, q, h2⟩ := h
  refine ⟨by simp; omega, ?_⟩
  rw [← List.take_append_drop k l, takeL_app] at h2
  cases hq : takeL 15 511 (l.take k) with
  | none => rw [hq] at h2; cases h2
  | some q' =>
    rw [hq] at h2
    have hle : q' ≤ 511 := takeL_le (fun p v q h => Nat.le_of_lt (takeV_lt h)) _ _ _ hq
    have := takeL_shift (takeV_shift 15) (l.drop k) q' q (511 - q') h2
    rw [show q' + (511 - q') = 511 by omega] at this
    exact ⟨_, this⟩
end Go.Proofs.YthaliljaglldjaaGreat
