/- A part of the proof, several texts in one: RLook, PlL, QuA. -/
import Derived.Test.YtcoiccbmcjdheaaGreatmAG
import Derived.Test.YtcoiccbmcjdheaaGreatmBH
import Derived.Test.YtcoiccbmcjdheaaGreatmBM
import Derived.Test.YtcoiccbmcjdheaaGreatmBN
import Derived.Test.YtcoiccbmcjdheaaGreatmBO
/- posternref02's look, Parts, May: at a value that may be. -/
namespace Go.Proofs.YtcoiccbmcjdheaaGreat
open Go.RowKit Go.ChangeMaps Go.MapKept

theorem beq_nil {s : ByteArray} (h : (s == ⟨#[]⟩) = true) : s = ⟨#[]⟩ := by
  rcases s with ⟨⟨l⟩⟩
  cases l with
  | nil => rfl
  | cons x l => exact absurd h (by intro h; cases h)
theorem chk_all {n r : Int} {s : ByteArray} {len : Nat} (h : chk n s r len = true) : n = 0 ∧ s = ⟨#[]⟩ ∧ r = 0 ∧ len = 0 := by
  simp only [chk, Bool.and_eq_true, beq_iff_eq] at h
  exact ⟨h.1, beq_nil h.2.1, h.2.2.1, h.2.2.2⟩
/-- What a value is of which there is something left behind. -/
theorem takeV_form {n p q : Nat} {v : Val} (h : takeV n p v = some q) : ∃ p', p = p' + 1 ∧
    ((v.l = [] ∧ q = p' ∧ (v.kind = 0 ∧ v.n = 0 ∧ v.s = ⟨#[]⟩ ∧ v.r = 0 ∨ v.kind = 1 ∧ v.s = ⟨#[]⟩ ∧ v.r = 0 ∨ v.kind = 2 ∧ v.n = 0 ∧ v.r = 0 ∧ ¬ v.s.size > 256 ∨ v.kind = 4 ∧ v.n = 0 ∧ v.s = ⟨#[]⟩ ∧ ¬ v.r < 1)) ∨
      (∃ m, n = m + 1 ∧ v.kind = 3 ∧ v.n = 0 ∧ v.s = ⟨#[]⟩ ∧ v.r = 0 ∧ ¬ v.l.length > p' ∧ takeL m p' v.l = some q)) := by
  cases p with
  | zero => cases n <;> cases h
  | succ p =>
    refine ⟨p, rfl, ?_⟩
    by_cases h0 : v.kind = 0
    · rw [tk0 h0] at h
      split at h
      · obtain ⟨a, b, c, d⟩ := chk_all (by assumption)
        cases h
        exact .inl ⟨List.length_eq_zero_iff.1 d, rfl, .inl ⟨h0, a, b, c⟩⟩
      · cases h
    by_cases h1 : v.kind = 1
    · rw [tk1 h1] at h
      split at h
      · obtain ⟨a, b, c, d⟩ := chk_all (by assumption)
        cases h
        exact .inl ⟨List.length_eq_zero_iff.1 d, rfl, .inr (.inl ⟨h1, b, c⟩)⟩
      · cases h
    by_cases h2 : v.kind = 2
    · rw [tk2 h2] at h
      split at h
      · cases h
      · rename_i hs
        split at h
        · obtain ⟨a, b, c, d⟩ := chk_all (by assumption)
          cases h
          exact .inl ⟨List.length_eq_zero_iff.1 d, rfl, .inr (.inr (.inl ⟨h2, a, c, hs⟩))⟩
        · cases h
    by_cases h4 : v.kind = 4
    · rw [tk4 h4] at h
      split at h
      · cases h
      · rename_i hs
        split at h
        · obtain ⟨a, b, c, d⟩ := chk_all (by assumption)
          cases h
          exact .inl ⟨List.length_eq_zero_iff.1 d, rfl, .inr (.inr (.inr ⟨h4, a, b, hs⟩))⟩
        · cases h
    by_cases h3 : v.kind = 3
    · cases n with
      | zero => rw [tk3z h3] at h; cases h
      | succ m =>
        by_cases hl : v.l.length > p
        · rw [tk3l h3 hl] at h; cases h
        · rw [tk3 h3 hl] at h
          split at h
          · cases h
          · rename_i q' hq
            split at h
            · obtain ⟨a, b, c, d⟩ := chk_all (by assumption)
              cases h
              exact .inr ⟨m, rfl, h3, a, b, c, hl, hq⟩
            · cases h
    rw [tkx h0 h1 h2 h3 h4] at h
    cases h
theorem takeL_front {n p i q : Nat} {l : List Val} (h : takeL n p l = some q) : ∃ q', takeL n p (l.take i) = some q' := by
  cases e : takeL n p (l.take i) with
  | some q' => exact ⟨q', rfl⟩
  | none => rw [takeL_none e] at h; cases h
theorem measL {k n : Nat} (h : k < n) : n - (intOf (.int .i64 ((k : Int) + 1))).toNat < n - (intOf (.int .i64 (k : Int))).toNat := by
  simp [intOf]
  omega
def LookC (n : Nat) : Prop := ∀ (p q : Nat) (v : Val) (raw : Value) (w : World) (F : Nat → Prop), n ≤ 16 → p ≤ 512 → SlAt w F raw v.l → takeV n p v = some q →
  Calls Tryz.prog 105 #[.agg (vcs v raw), .int .i64 p, .int .i64 n] w fun e w' => e = .returned (.int .i64 ((p : Int) - (q : Int))) ∧ Below w.heap.size w w'

theorem execOp_ldV93 (ρ : Operand → Value) (ty : TypeId) (pos : String) (af : Array Edge) (g : Option (Nat × Bool)) :
    execOp ρ { dst := some 93, op := .load 34 (.tmp 92), type := ty, pos := pos, after := af, guard := g } = ldV (ρ (.tmp 92)) := rfl
attribute [local go_sem ↓] execOp_ldV93 in
set_option maxHeartbeats 4000000 in
set_option maxRecDepth 8000 in
theorem look_step (n : Nat) (ih : ∀ m, n = m + 1 → LookC m) : LookC n := by
  intro p q v raw w F hn hp hS hT
  obtain ⟨p', rfl, hF⟩ := takeV_form hT
  have hq := takeV_lt hT
  clear hT
  have hp1 : ¬ (((p' + 1 : Nat) : Int) < 1) := by omega
  rcases hF with ⟨hl, rfl, hk⟩ | ⟨m, rfl, h3, hn0, hs0, hr0, hlen, hL⟩
  · obtain ⟨kind, nn, s, l, r⟩ := v
    simp only at hl hk
    subst hl
    obtain ⟨pa, c, rfl⟩ := hS.form
    clear hS ih
    have HP : Hid (((q + 1 : Nat) : Int) - (q : Int) = 1) := by show _ = _; omega
    have HB : Hid (Below w.heap.size w (w.alloc (.cells #[.int .u8 kind, .int .i64 nn, .string s, .slice pa 0 c, .int .i64 r] 34))) := (Below.refl _ w).alloc (Nat.le_refl _) _
    simp only [vcs, List.length_nil]
    rw [HP.out]
    clear hq
    rcases hk with ⟨rfl, rfl, rfl, rfl⟩ | ⟨rfl, rfl, rfl⟩ | ⟨rfl, rfl, rfl, hs⟩ | ⟨rfl, rfl, rfl, hs⟩
    · go_enter Tryz.func105, Tryz.ntmps105
      go_wp2_with fail
      go_ret
      exact ⟨rfl, HB.out⟩
    · go_enter Tryz.func105, Tryz.ntmps105
      go_wp2_with fail
      go_ret
      exact ⟨rfl, HB.out⟩
    · have hs2 : ¬ (s.size : Int) > 256 := by omega
      go_enter Tryz.func105, Tryz.ntmps105
      go_wp2_with fail
      go_ret
      exact ⟨rfl, HB.out⟩
    · go_enter Tryz.func105, Tryz.ntmps105
      go_wp2_with fail
      go_ret
      exact ⟨rfl, HB.out⟩
  · obtain ⟨kind, nn, s, l, r⟩ := v
    simp only at h3 hn0 hs0 hr0 hlen hL hS
    subst h3 hn0 hs0 hr0
    obtain ⟨pa, c, rfl⟩ := hS.form
    have HS := (show Hid (SlAt w F (.slice pa l.length c) l) from hS)
    have HL := (show Hid (takeL m p' l = some q) from hL)
    have IH := (show Hid (LookC m) from ih m rfl)
    obtain ⟨P, hP⟩ : ∃ P, P = p' + 1 := ⟨_, rfl⟩
    obtain ⟨D, hD⟩ : ∃ D, D = m + 1 := ⟨_, rfl⟩
    rw [← hP] at hp1 hp hq ⊢
    rw [← hD] at hn ⊢
    have h2 : ¬ ((D : Int) < 1) := by omega
    have h4 : ¬ ((l.length : Int) ≥ (P : Int)) := by omega
    have HA : Hid (P ≤ 512 ∧ D ≤ 16 ∧ q < P ∧ P = p' + 1 ∧ D = m + 1) := ⟨hp, hn, hq, hP, hD⟩
    clear hS hL ih hq hn hlen hP hD hp
    simp only [vcs]
    go_enter Tryz.func105, Tryz.ntmps105
    go_wp2_with fail
    have HB0 : Hid (Below w.heap.size w (w.alloc (.cells #[.int .u8 3, .int .i64 0, .string ⟨#[]⟩, .slice pa l.length c, .int .i64 0] 34)) ∧ (w.alloc (.cells #[.int .u8 3, .int .i64 0, .string ⟨#[]⟩, .slice pa l.length c, .int .i64 0] 34)).heap[w.heap.size]? = some (.cells #[.int .u8 3, .int .i64 0, .string ⟨#[]⟩, .slice pa l.length c, .int .i64 0] 34 (0, 0))) := ⟨(Below.refl _ w).alloc (Nat.le_refl _) _, blk_new _ _⟩
    go_loopw [7, 8] (fun va vi wr => ∃ (k qk : Nat) (a : Int), va = .int .i64 a ∧ vi = .int .i64 k ∧ k ≤ l.length ∧ Hid (a = (P : Int) - qk ∧ takeL m p' (l.take k) = some qk ∧ Below w.heap.size w wr ∧ wr.heap[w.heap.size]? = some (.cells #[.int .u8 3, .int .i64 0, .string ⟨#[]⟩, .slice pa l.length c, .int .i64 0] 34 (0, 0)))) (fun _ vi _ => l.length - (intOf vi).toNat)
    case atStart => exact ⟨0, p', 1, rfl, rfl, Nat.zero_le _, by have := HA.out; omega, rfl, HB0.out⟩
    case round =>
      obtain ⟨k, qk, a, rfl, rfl, hk, HI⟩ := hrel
      have c3 : wr.cell? ⟨w.heap.size, 3, none⟩ = some (.slice pa l.length c) := by rw [cell_blk HI.out.2.2.2]; rfl
      by_cases hkl : k < l.length
      · have hkz : (k : Int) < (l.length : Int) := by omega
        have hkz2 : ¬ (k : Int) ≥ (l.length : Int) := by omega
        obtain ⟨x, hx⟩ : ∃ x, l[k]? = some x := ⟨_, List.getElem?_eq_getElem hkl⟩
        obtain ⟨b, o, c', raw, hpe, hrg, -, -, hSx⟩ := (HS.out.on HI.out.2.2.1).range hx
        cases hpe
        obtain ⟨q', hq'⟩ : ∃ q', takeV m qk x = some q' := by
          have h1 := takeL_take hx HI.out.2.1
          obtain ⟨q', h2⟩ := takeL_front (i := k + 1) HL.out
          exact ⟨q', h1 ▸ h2⟩
        have hlq := takeV_lt hq'
        have hqk : qk ≤ p' := takeL_le (fun p v q h => Nat.le_of_lt (takeV_lt h)) _ _ _ HI.out.2.1
        obtain ⟨xk, xn, xs, xl, xr⟩ := x
        obtain ⟨qa, qc, rfl⟩ := hSx.form
        have hld0 := loadV_mid hrg rfl
        have hld : (ldV (.pointer (some ⟨b, o + k * 5, none⟩))).run Tryz.prog wr = .ok (.value (.agg #[.int .u8 xk, .int .i64 xn, .string xs, .slice qa xl.length qc, .int .i64 xr])) wr := hld0
        have Hx := (show Hid (SlAt wr F (.slice qa xl.length qc) xl ∧ takeV m qk ⟨xk, xn, xs, xl, xr⟩ = some q' ∧ qk ≤ 512 ∧ takeL m p' (l.take (k + 1)) = some q') from ⟨hSx, hq', by have := HA.out; omega, by rw [takeL_take hx HI.out.2.1]; exact hq'⟩)
        have hwk : wrap64 ((k : Int) + 1) = (k : Int) + 1 := by have := HA.out; unfold wrap64; omega
        have hw1 : wrap64 ((P : Int) - a) = (qk : Int) := by rw [HI.out.1]; have := HA.out; unfold wrap64; omega
        have hw2 : wrap64 ((D : Int) - 1) = (m : Int) := by have := HA.out; unfold wrap64; omega
        have hn0 : ¬ ((qk : Int) - (q' : Int) < 0) := by omega
        have hw3 : Hid (wrap64 (a + ((qk : Int) - (q' : Int))) = (P : Int) - q') := by show _ = _; rw [HI.out.1]; have := HA.out; unfold wrap64; omega
        clear hld0 hx hrg hSx hq' hlq hqk
        go_wp2_with fail
        refine (IH.out qk q' ⟨xk, xn, xs, xl, xr⟩ _ _ _ (by have := HA.out; omega) Hx.out.2.2.1 Hx.out.1 Hx.out.2.1).mono ?_
        rintro e w5 ⟨rfl, hb5⟩
        have HI5 := (show Hid (Below w.heap.size w w5 ∧ _) from ⟨HI.out.2.2.1.trans (hb5.mono HI.out.2.2.1.size), below_blk hb5 HI.out.2.2.2⟩)
        clear hb5 HI hld c3
        go_wp2_with fail
        go_roundw
        case rel => exact ⟨k + 1, q', _, rfl, by go_num, by omega, hw3.out, Hx.out.2.2.2, HI5.out⟩
        case measure => rw [hwk]; exact measL hkl
      · have hkz : ¬ (k : Int) < (l.length : Int) := by omega
        obtain rfl : k = l.length := by omega
        have hkk : ¬ (l.length : Int) < (l.length : Int) := by omega
        have hqq : qk = q := by
          have h1 := HI.out.2.1
          rw [List.take_length, HL.out] at h1
          cases h1
          rfl
        subst hqq
        have HB := (show Hid (Below w.heap.size w wr) from HI.out.2.2.1)
        obtain ⟨rfl, -⟩ := HI.out
        clear HI
        go_wp2_with fail
        go_ret
        exact ⟨rfl, HB.out⟩
theorem look_G (n : Nat) : LookC n := by
  induction n with
  | zero => exact look_step 0 (fun m h => by cases h)
  | succ n ih => exact look_step (n + 1) (fun m h => by cases h; exact ih)

set_option maxRecDepth 8000 in
theorem rParts_G {w : World} {F : Nat → Prop} {v : Val} {raw : Value} (hS : SlAt w F raw v.l) (hm : mayV v = true) : Calls Tryz.prog 85 #[.agg (vcs v raw)] w fun e w' => ∃ a : Int, e = .returned (.int .i64 a) ∧ 0 < a ∧ Below w.heap.size w w' := by
  obtain ⟨q, hq⟩ := Option.isSome_iff_exists.1 hm
  have hlt := takeV_lt hq
  obtain ⟨pa, c, rfl⟩ := hS.form
  have HK : Hid (∀ w', Below w.heap.size w w' → Calls Tryz.prog 105 #[.agg (vcs v (.slice pa v.l.length c)), .int .i64 512, .int .i64 16] w' fun e w'' => e = .returned (.int .i64 ((512 : Int) - (q : Int))) ∧ Below w'.heap.size w' w'') := fun w' hb => look_G 16 512 q v _ w' _ (by omega) (by omega) (hS.on hb) hq
  have h1 : ¬ ((512 : Int) - (q : Int) < 0) := by omega
  have H2 : Hid (0 < (512 : Int) - (q : Int)) := by show _ < _; omega
  clear hS hm hq hlt
  obtain ⟨k, n, s, l, r⟩ := v
  simp only [vcs] at HK ⊢
  generalize l.length = m at *
  have HB0 : Hid (Below w.heap.size w (w.alloc (.cells #[.int .u8 k, .int .i64 n, .string s, .slice pa m c, .int .i64 r] 34))) := (Below.refl _ w).alloc (Nat.le_refl _) _
  go_enter Tryz.func85, Tryz.ntmps85
  go_wp2_with fail
  refine Calls.mono (HK.out _ HB0.out) ?_
  rintro e w1 ⟨rfl, hb1⟩
  have HB1 : Hid (Below w.heap.size w w1) := HB0.out.trans (hb1.mono HB0.out.size)
  clear hb1 HB0
  go_wp2_with fail
  go_ret
  exact ⟨_, rfl, H2.out, HB1.out⟩
set_option maxRecDepth 8000 in
theorem rMay_G {w : World} {F : Nat → Prop} {v : Val} {raw : Value} (hS : SlAt w F raw v.l) (hm : mayV v = true) : Calls Tryz.prog 60 #[.agg (vcs v raw)] w fun e w' => e = .returned (.bool true) ∧ Below w.heap.size w w' := by
  obtain ⟨pa, c, rfl⟩ := hS.form
  have HK : Hid (∀ w', Below w.heap.size w w' → Calls Tryz.prog 85 #[.agg (vcs v (.slice pa v.l.length c))] w' fun e w'' => ∃ a : Int, e = .returned (.int .i64 a) ∧ 0 < a ∧ Below w'.heap.size w' w'') := fun w' hb => rParts_G (hS.on hb) hm
  clear hS hm
  obtain ⟨k, n, s, l, r⟩ := v
  simp only [vcs] at HK ⊢
  generalize l.length = m at *
  have HB0 : Hid (Below w.heap.size w (w.alloc (.cells #[.int .u8 k, .int .i64 n, .string s, .slice pa m c, .int .i64 r] 34))) := (Below.refl _ w).alloc (Nat.le_refl _) _
  go_enter Tryz.func60, Tryz.ntmps60
  go_wp2_with fail
  refine Calls.mono (HK.out _ HB0.out) ?_
  rintro e w1 ⟨a, rfl, ha, hb1⟩
  have ha2 : a > 0 := ha
  have HB1 : Hid (Below w.heap.size w w1) := HB0.out.trans (hb1.mono HB0.out.size)
  clear hb1 HB0 ha
  go_wp2_with fail
  go_ret
  exact ⟨rfl, HB1.out⟩
end Go.Proofs.YtcoiccbmcjdheaaGreat
/- Len of a queue. -/
namespace Go.Proofs.YtcoiccbmcjdheaaGreat
open Go.RowKit Go.ChangeMaps Go.MapKept
variable {w : World} {p : Nat} {M : WM} {F : Nat → Prop}

set_option maxHeartbeats 4000000 in
set_option maxRecDepth 20000 in
theorem Len_q (hW : IsW w p M F) {r : Int} (hr : (Lit.int .i64 r).wf = true) {h : Int} {vs : List Val} {vals0 : Value} (ht : M.at r = some (qT 4 h vs vals0)) (hmay : ∀ x ∈ vs, mayV x = true) (hlen : vs.length ≤ 1024) :
    Calls Tryz.prog 22 #[.pointer (some ⟨p, 0, none⟩), .int .i64 r] w fun e w' => e = .returned (.tuple #[.int .i64 vs.length, .int .i64 0]) ∧ Below w.heap.size w w' := by
  have HT := (show Hid _ from there_W hW)
  have HF := (show Hid _ from find_4 hW hr ht (fair_q hmay hlen) rfl)
  have HL : Hid (∀ y, F y → y < w.heap.size) := hW.lt
  have as1 : ∀ (v : Value) (W : World), (Instr.typeAssert (.iface 99 v) 90 93 true).run Tryz.prog W = .ok (.tuple #[.pointer none, .bool false]) W := fun v W => by kernel_rfl
  have as2 : ∀ (v : Value) (W : World), (Instr.typeAssert (.iface 99 v) 90 94 true).run Tryz.prog W = .ok (.tuple #[.pointer none, .bool false]) W := fun v W => by kernel_rfl
  have as3 : ∀ (v : Value) (W : World), (Instr.typeAssert (.iface 99 v) 90 99 true).run Tryz.prog W = .ok (.tuple #[v, .bool true]) W := fun v W => by kernel_rfl
  clear hW ht hmay hlen hr
  go_enter Tryz.func22, Tryz.ntmps22
  go_wp2_with fail
  refine Calls.mono HT.out ?_
  rintro e _ ⟨rfl, rfl⟩
  go_wp2_with fail
  refine Calls.mono HF.out ?_
  rintro e w8 ⟨b, rfl, hfd⟩
  obtain ⟨vals', hb, -, hbel, hcap, FA, hSA, -⟩ := found_q (F := F) (by decide) HL.out hfd
  obtain ⟨pa, c, rfl⟩ := hSA.form
  have c9 : w8.cell? ⟨b, 9, none⟩ = some (.slice pa vs.length c) := by rw [cell_blk hb]; rfl
  have HB := (show Hid _ from hbel)
  clear hfd hb hbel hcap hSA HT HF HL
  go_wp2_with fail
  go_ret2
  exact ⟨rfl, HB.out⟩
end Go.Proofs.YtcoiccbmcjdheaaGreat
/- PlainQueue: the world with its queue, and what each call makes of it. -/
namespace Go.Proofs.YtcoiccbmcjdheaaGreat
open Go.RowKit Go.ChangeMaps Go.MapKept

/-- A list whose values may all be, and hold no references. -/
def Light (l : List Val) : Prop := ∀ x ∈ l, mayV x = true ∧ refsV x = []
/-- The world holds the queue, and nothing of it lies in the blocks B. -/
def QAt (w : World) (p : Nat) (B : Nat → Prop) (vs : List Val) (wr : World) : Prop :=
  ∃ M F vals, IsW wr p M F ∧ (∀ b, F b → w.heap.size ≤ b) ∧ Below w.heap.size w wr ∧ M.at 1 = some (qT 4 0 vs vals) ∧ sideB M 0 = true ∧ mayV (listV vs) = true ∧ ∀ b, B b → ¬ F b ∧ b < wr.heap.size
variable {w wr w' : World} {p : Nat} {B : Nat → Prop} {vs : List Val}
theorem QAt.base (h : QAt w p B vs wr) : Below w.heap.size w wr := by
  obtain ⟨M, F, vals, h1, h2, h3, -⟩ := h
  exact h3
theorem QAt.may (h : QAt w p B vs wr) : mayV (listV vs) = true := by
  obtain ⟨M, F, vals, h1, h2, h3, h4, h5, h6, -⟩ := h
  exact h6
theorem QAt.below (h : QAt w p B vs wr) (hb : Below wr.heap.size wr w') : QAt w p B vs w' := by
  obtain ⟨M, F, vals, h1, h2, h3, h4, h5, h6, h7⟩ := h
  exact ⟨M, F, vals, h1.below hb, h2, h3.trans (hb.mono h3.size), h4, h5, h6, fun b hB => ⟨(h7 b hB).1, Nat.lt_of_lt_of_le (h7 b hB).2 hb.size⟩⟩
theorem QAt.fewer {B' : Nat → Prop} (h : QAt w p B vs wr) (hB : ∀ b, B' b → B b) : QAt w p B' vs wr := by
  obtain ⟨M, F, vals, h1, h2, h3, h4, h5, h6, h7⟩ := h
  exact ⟨M, F, vals, h1, h2, h3, h4, h5, h6, fun b hb => h7 b (hB b hb)⟩
/-- A new block is none of the world's. -/
theorem QAt.alloc (h : QAt w p B vs wr) (o : Obj) : QAt w p (fun b => B b ∨ b = wr.heap.size) vs (wr.alloc o) := by
  obtain ⟨M, F, vals, h1, h2, h3, h4, h5, h6, h7⟩ := h
  have hb : Below wr.heap.size wr (wr.alloc o) := (Below.refl _ _).alloc (Nat.le_refl _) _
  refine ⟨M, F, vals, h1.below hb, h2, h3.trans (hb.mono h3.size), h4, h5, h6, fun b hB => ?_⟩
  rcases hB with hB | rfl
  · exact ⟨(h7 b hB).1, Nat.lt_of_lt_of_le (h7 b hB).2 hb.size⟩
  · exact ⟨fun e => Nat.lt_irrefl _ (h1.lt _ e), by simp⟩
/-- A cell of a law's own. -/
theorem QAt.cell (h : QAt w p B vs wr) {b : Nat} (hb : B b) (hw : w.heap.size ≤ b) (v : Value) : QAt w p B vs (wr.setCell ⟨b, 0, none⟩ v) := by
  obtain ⟨M, F, vals, h1, h2, h3, h4, h5, h6, h7⟩ := h
  have hk : Keeps (fun y => y = b) wr (wr.setCell ⟨b, 0, none⟩ v) := Keeps.setCell (S := fun y => y = b) wr ⟨b, 0, none⟩ v rfl
  exact ⟨M, F, vals, h1.keeps hk (fun y hy e => (h7 b hb).1 (e ▸ hy)), h2, h3.trans (hk.below h3.size (fun y hy => by omega)), h4, h5, h6, fun y hy => ⟨(h7 y hy).1, Nat.lt_of_lt_of_le (h7 y hy).2 hk.size⟩⟩
theorem QAt.acts {N : WM} {F : Nat → Prop} {vals : Value} {vs' : List Val} (h2 : ∀ b, F b → w.heap.size ≤ b) (h3 : Below w.heap.size w wr) (h7 : ∀ b, B b → ¬ F b ∧ b < wr.heap.size) (ha : Acts wr p F N w') (h4 : N.at 1 = some (qT 4 0 vs' vals)) (h5 : sideB N 0 = true) (h6 : mayV (listV vs') = true) :
    QAt w p B vs' w' ∧ ∀ b, B b → w'.heap[b]? = wr.heap[b]? := by
  obtain ⟨hk, F', hW', hF'⟩ := ha
  refine ⟨⟨N, F', vals, hW', fun b hb => ?_, h3.trans (hk.below h3.size h2), h4, h5, h6, fun b hB => ⟨fun e => ?_, Nat.lt_of_lt_of_le (h7 b hB).2 hk.size⟩⟩, fun b hB => hk.block b (h7 b hB).2 (h7 b hB).1⟩
  · rcases hF' b hb with h | h
    · exact h2 b h
    · exact Nat.le_trans h3.size h
  · rcases hF' b e with h | h
    · exact (h7 b hB).1 h
    · have := (h7 b hB).2; omega

def GiveQ (w : World) (p : Nat) (B : Nat → Prop) (vs : List Val) (x : Val) (wr : World) (e : Ending) (w' : World) : Prop :=
  ∃ c vs', e = .returned (.int .i64 c) ∧ QAt w p B vs' w' ∧ (∀ b, B b → w'.heap[b]? = wr.heap[b]?) ∧ ((mayV (listV (vs ++ [x])) = true ∧ c = 0 ∧ vs' = vs ++ [x]) ∨ (mayV (listV (vs ++ [x])) = false ∧ c = 8 ∧ vs' = vs))
theorem give_Q (h : QAt w p B vs wr) (hl : Light vs) {x : Val} {pv : Option Addr} {n c : Nat} {FB : Nat → Prop} (hS : SlAt wr FB (.slice pv n c) x.l) (hm : mayV x = true) (hr : refsV x = []) :
    Calls Tryz.prog 14 #[.pointer (some ⟨p, 0, none⟩), .int .i64 1, .agg (vcs x (.slice pv n c))] wr (GiveQ w p B vs x wr) := by
  obtain ⟨M, F, vals, h1, h2, h3, h4, h5, h6, h7⟩ := h
  have hlen := may_list_len h6
  refine (plGive_A (fun w1 hb => act_4_8 (h1.below hb) (by decide) h4 h5 (heldq vs vals (fun y hy => (hl y hy).2) _) (fun y hy => (hl y hy).1) (by omega) (hS.on hb) hm (fun r hh => by rw [hr] at hh; cases hh))).mono ?_
  rintro e w'' ⟨v, k, N, rfl, ⟨-, hx⟩, ha⟩
  rcases hx with ⟨hy, rfl, vals', rfl⟩ | ⟨hy, rfl, rfl⟩
  · obtain ⟨q1, q2⟩ := QAt.acts h2 h3 h7 ha (WM.set_at_self _ h4) h5 hy
    exact ⟨_, _, rfl, q1, q2, .inl ⟨hy, rfl, rfl⟩⟩
  · obtain ⟨q1, q2⟩ := QAt.acts h2 h3 h7 ha h4 h5 h6
    exact ⟨_, _, rfl, q1, q2, .inr ⟨hy, rfl, rfl⟩⟩
def TakeQ (w : World) (p : Nat) (B : Nat → Prop) (vs : List Val) (m : Int) (wr : World) (e : Ending) (w' : World) : Prop :=
  ∃ v pv cv c vs' FS, e = .returned (.tuple #[.agg (vcs v (.slice pv v.l.length cv)), .int .i64 c]) ∧ QAt w p B vs' w' ∧ (∀ b, B b → w'.heap[b]? = wr.heap[b]?) ∧ SlAt w' FS (.slice pv v.l.length cv) v.l ∧ (∀ b, B b → ¬ FS b) ∧
    ((m < 0 ∧ v = nilV ∧ c = 2 ∧ vs' = vs) ∨ ((vs.length : Int) < m ∧ v = nilV ∧ c = 81 ∧ vs' = vs) ∨ (0 ≤ m ∧ m ≤ vs.length ∧ v = listV (vs.take m.toNat) ∧ c = 0 ∧ vs' = vs.drop m.toNat))
theorem take_Q (h : QAt w p B vs wr) (hl : Light vs) (m : Int) :
    Calls Tryz.prog 19 #[.pointer (some ⟨p, 0, none⟩), .int .i64 1, .int .i64 m] wr (TakeQ w p B vs m wr) := by
  obtain ⟨M, F, vals, h1, h2, h3, h4, h5, h6, h7⟩ := h
  refine (plTake_A (m := m) h1.lt (fun w1 hb => act_4_4 (h1.below hb) (by decide) h4 h5 (heldq vs vals (fun y hy => (hl y hy).2) _) h6 (fun y hy => (hl y hy).1) m)).mono ?_
  rintro e w'' ⟨v, pv, cv, n, N, F', rfl, hX, hk, hW', hF', hS⟩
  have ha : Acts wr p F N w'' := ⟨hk, F', hW', hF'⟩
  have hne : ∀ b, B b → ¬ TyB w'' (fun y => wr.heap.size ≤ y ∧ ¬ F' y) b := fun b hB e => by have := (h7 b hB).2; have := e.1.1; omega
  rcases hX with ⟨hy, rfl, rfl, rfl⟩ | ⟨hy, rfl, rfl, rfl⟩ | ⟨hy, hy2, rfl, rfl, vals', rfl⟩
  · obtain ⟨q1, q2⟩ := QAt.acts h2 h3 h7 ha h4 h5 h6
    exact ⟨_, pv, cv, _, _, _, rfl, q1, q2, hS, hne, .inl ⟨hy, rfl, rfl, rfl⟩⟩
  · obtain ⟨q1, q2⟩ := QAt.acts h2 h3 h7 ha h4 h5 h6
    exact ⟨_, pv, cv, _, _, _, rfl, q1, q2, hS, hne, .inr (.inl ⟨hy, rfl, rfl, rfl⟩)⟩
  · obtain ⟨q1, q2⟩ := QAt.acts h2 h3 h7 ha (WM.set_at_self _ h4) h5 (mayList_drop h6 _)
    exact ⟨_, pv, cv, _, _, _, rfl, q1, q2, hS, hne, .inr (.inr ⟨hy, hy2, rfl, rfl, rfl⟩)⟩
theorem len_Q (h : QAt w p B vs wr) (hl : Light vs) : Calls Tryz.prog 22 #[.pointer (some ⟨p, 0, none⟩), .int .i64 1] wr fun e w' => e = .returned (.tuple #[.int .i64 vs.length, .int .i64 0]) ∧ Below wr.heap.size wr w' := by
  obtain ⟨M, F, vals, h1, h2, h3, h4, h5, h6, h7⟩ := h
  have hlen := may_list_len h6
  exact Len_q h1 (by decide) h4 (fun y hy => (hl y hy).1) (by omega)
/-- A fresh world, and a law's boxes beside it. -/
def OwnB (w : World) (p : Nat) (B : Nat → Prop) (wr : World) : Prop := ∃ F, IsW wr p AM0 F ∧ (∀ b, F b → w.heap.size ≤ b) ∧ Below w.heap.size w wr ∧ ∀ b, B b → ¬ F b ∧ b < wr.heap.size
theorem OwnB.of (h : Own w wr p AM0) (hB : ∀ b, B b → b < w.heap.size) (o : Obj) : OwnB w p (fun b => B b ∨ b = wr.heap.size) (wr.alloc o) := by
  obtain ⟨F, h1, h2, h3⟩ := h
  have hb : Below wr.heap.size wr (wr.alloc o) := (Below.refl _ _).alloc (Nat.le_refl _) _
  refine ⟨F, h1.below hb, h2, h3.trans (hb.mono h3.size), fun b hb' => ?_⟩
  rcases hb' with hb' | rfl
  · exact ⟨fun e => by have := h2 b e; have := hB b hb'; omega, Nat.lt_of_lt_of_le (Nat.lt_of_lt_of_le (hB b hb') h3.size) hb.size⟩
  · exact ⟨fun e => Nat.lt_irrefl _ (h1.lt _ e), by simp⟩
theorem OwnB.below (h : OwnB w p B wr) (hb : Below wr.heap.size wr w') : OwnB w p B w' := by
  obtain ⟨F, h1, h2, h3, h4⟩ := h
  exact ⟨F, h1.below hb, h2, h3.trans (hb.mono h3.size), fun b hB => ⟨(h4 b hB).1, Nat.lt_of_lt_of_le (h4 b hB).2 hb.size⟩⟩
theorem OwnB.below0 (h : OwnB w p B wr) : Below w.heap.size w wr := by
  obtain ⟨F, h1, h2, h3, h4⟩ := h
  exact h3
theorem start_Q (h : OwnB w p B wr) : Calls Tryz.prog 11 #[.pointer (some ⟨p, 0, none⟩), .int .i64 0] wr fun e w' => e = .returned (.tuple #[.int .i64 1, .int .i64 0]) ∧ QAt w p B [] w' ∧ ∀ b, B b → w'.heap[b]? = wr.heap[b]? := by
  obtain ⟨F, hW, hF, hb, hB⟩ := h
  refine (Queue_G hW (by decide) (h := 0) (by decide)).mono ?_
  rintro e w3 (⟨-, rfl, t, F', rfl, hW', hg⟩ | ⟨hx, -, -⟩)
  · refine ⟨rfl, ⟨_, F', _, hW', fun b hb' => ?_, hb.trans (Keeps.below hg.1 hb.size hF), rfl, rfl, rfl, fun b hb' => ⟨fun e => ?_, Nat.lt_of_lt_of_le (hB b hb').2 hg.1.size⟩⟩, fun b hb' => hg.1.block b (hB b hb').2 (hB b hb').1⟩
    · rcases hg.2 b hb' with h | h
      · exact hF b h
      · exact Nat.le_trans hb.size h
    · rcases hg.2 b e with h | h
      · exact (hB b hb').1 h
      · have := (hB b hb').2; omega
  · exact absurd (by decide) hx
end Go.Proofs.YtcoiccbmcjdheaaGreat
