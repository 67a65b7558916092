/- A part of the proof, several texts in one: R4W, R4S. -/
import Derived.Test.YthaliljaglldjaaGreatmAK
import Derived.Test.YthaliljaglldjaaGreatmAM
import Derived.Test.YthaliljaglldjaaGreatmAG
import Derived.Test.YthaliljaglldjaaGreatmAH
import Derived.Test.YthaliljaglldjaaGreatmAE
import Derived.Deep.DeepCutAuto
import Derived.Deep.CutBlock
/- posternref04's May: what it answers at any value. -/
namespace Go.Proofs.YthaliljaglldjaaGreat
open Go.RowKit Go.ChangeMaps Go.MapKept
theorem toList_ne {s : ByteArray} (h : ¬ s = ⟨#[]⟩) : ¬ s.toList = [] := fun e => h (by
  rw [ByteArray.toList_eq] at e
  rcases s with ⟨⟨l⟩⟩
  simp at e
  rw [e])
set_option maxHeartbeats 4000000 in
set_option maxRecDepth 8000 in
set_option linter.unusedSimpArgs false in
theorem field4_W (w : World) (k nn : Int) (s : ByteArray) (l : List Val) (r : Int) (pa : Option Addr) (c : Nat) (hk : 0 ≤ k ∧ k ≤ 255) :
    Calls Tryz.prog 267 #[.agg #[.int .u8 k, .int .i64 nn, .string s, .slice pa l.length c, .int .i64 r]] w fun e w' => e = .returned (.bool (field4 ⟨k, nn, s, l, r⟩)) ∧ Below w.heap.size w w' := by
  have fin : ∀ (b : Bool) {k' nn' r' : Int} {s' : ByteArray}, Hid (field4 ⟨k', nn', s', l, r'⟩ = b) → (Calls Tryz.prog 267 #[.agg #[.int .u8 k', .int .i64 nn', .string s', .slice pa l.length c, .int .i64 r']] w fun e w' => e = .returned (.bool b) ∧ Below w.heap.size w w') →
      Calls Tryz.prog 267 #[.agg #[.int .u8 k', .int .i64 nn', .string s', .slice pa l.length c, .int .i64 r']] w fun e w' => e = .returned (.bool (field4 ⟨k', nn', s', l, r'⟩)) ∧ Below w.heap.size w w' := fun b _ _ _ _ h hc => by
    rw [h.out]
    exact hc
  by_cases e0 : k = 0
  · subst e0
    by_cases hn : nn = 0
    · skip
      subst hn
      by_cases hs : s = ⟨#[]⟩
      · skip
        subst hs
        by_cases hl : l.length = 0
        · skip
          have hl2 : (l.length : Int) = 0 := by omega
          by_cases hr : r = 0
          · skip
            subst hr
            have HV : Hid (field4 ⟨0, 0, ⟨#[]⟩, l, 0⟩ = true) := by show _ = _; simp [field4, nil_eq, hl]
            exact fin true HV (by
              go_enter Tryz.func267, Tryz.ntmps267
              go_wp2_with fail
              go_ret
              exact ⟨rfl, (Below.refl _ w).alloc (Nat.le_refl _) _⟩)
          · skip
            have HV : Hid (field4 ⟨0, 0, ⟨#[]⟩, l, r⟩ = false) := by show _ = _; simp [field4, nil_eq, hl, hr]
            have hb : (r == 0) = false := by simpa using hr
            exact fin false HV (by
              go_enter Tryz.func267, Tryz.ntmps267
              go_wp2_with fail
              go_ret
              exact ⟨rfl, (Below.refl _ w).alloc (Nat.le_refl _) _⟩)
        · skip
          have hl2 : ¬ (l.length : Int) = 0 := by omega
          have HV : Hid (field4 ⟨0, 0, ⟨#[]⟩, l, r⟩ = false) := by show _ = _; simp [field4, nil_eq, hl]
          exact fin false HV (by
            go_enter Tryz.func267, Tryz.ntmps267
            go_wp2_with fail
            go_ret
            exact ⟨rfl, (Below.refl _ w).alloc (Nat.le_refl _) _⟩)
      · skip
        have HV : Hid (field4 ⟨0, 0, s, l, r⟩ = false) := by show _ = _; simp [field4, nil_eq, hs]
        have hb : ¬ s.toList = [] := toList_ne hs
        exact fin false HV (by
          go_enter Tryz.func267, Tryz.ntmps267
          go_wp2_with fail
          go_ret
          exact ⟨rfl, (Below.refl _ w).alloc (Nat.le_refl _) _⟩)
    · skip
      have HV : Hid (field4 ⟨0, nn, s, l, r⟩ = false) := by show _ = _; simp [field4, nil_eq, hn]
      have hb : (nn == 0) = false := by simpa using hn
      exact fin false HV (by
        go_enter Tryz.func267, Tryz.ntmps267
        go_wp2_with fail
        go_ret
        exact ⟨rfl, (Below.refl _ w).alloc (Nat.le_refl _) _⟩)
  by_cases e1 : k = 1
  · subst e1
    by_cases hs : s = ⟨#[]⟩
    · skip
      subst hs
      by_cases hl : l.length = 0
      · skip
        have hl2 : (l.length : Int) = 0 := by omega
        by_cases hr : r = 0
        · skip
          subst hr
          have HV : Hid (field4 ⟨1, nn, ⟨#[]⟩, l, 0⟩ = true) := by show _ = _; simp [field4, nil_eq, hl]
          exact fin true HV (by
            go_enter Tryz.func267, Tryz.ntmps267
            go_wp2_with fail
            go_ret
            exact ⟨rfl, (Below.refl _ w).alloc (Nat.le_refl _) _⟩)
        · skip
          have HV : Hid (field4 ⟨1, nn, ⟨#[]⟩, l, r⟩ = false) := by show _ = _; simp [field4, nil_eq, hl, hr]
          have hb : (r == 0) = false := by simpa using hr
          exact fin false HV (by
            go_enter Tryz.func267, Tryz.ntmps267
            go_wp2_with fail
            go_ret
            exact ⟨rfl, (Below.refl _ w).alloc (Nat.le_refl _) _⟩)
      · skip
        have hl2 : ¬ (l.length : Int) = 0 := by omega
        have HV : Hid (field4 ⟨1, nn, ⟨#[]⟩, l, r⟩ = false) := by show _ = _; simp [field4, nil_eq, hl]
        exact fin false HV (by
          go_enter Tryz.func267, Tryz.ntmps267
          go_wp2_with fail
          go_ret
          exact ⟨rfl, (Below.refl _ w).alloc (Nat.le_refl _) _⟩)
    · skip
      have HV : Hid (field4 ⟨1, nn, s, l, r⟩ = false) := by show _ = _; simp [field4, nil_eq, hs]
      have hb : ¬ s.toList = [] := toList_ne hs
      exact fin false HV (by
        go_enter Tryz.func267, Tryz.ntmps267
        go_wp2_with fail
        go_ret
        exact ⟨rfl, (Below.refl _ w).alloc (Nat.le_refl _) _⟩)
  by_cases e2 : k = 2
  · subst e2
    by_cases hn : nn = 0
    · skip
      subst hn
      by_cases hz : s.size ≤ 256
      · skip
        have hz2 : (s.size : Int) ≤ 256 := by omega
        by_cases hl : l.length = 0
        · skip
          have hl2 : (l.length : Int) = 0 := by omega
          by_cases hr : r = 0
          · skip
            subst hr
            have HV : Hid (field4 ⟨2, 0, s, l, 0⟩ = true) := by show _ = _; simp [field4, nil_eq, hz, hl]
            exact fin true HV (by
              go_enter Tryz.func267, Tryz.ntmps267
              go_wp2_with fail
              go_ret
              exact ⟨rfl, (Below.refl _ w).alloc (Nat.le_refl _) _⟩)
          · skip
            have HV : Hid (field4 ⟨2, 0, s, l, r⟩ = false) := by show _ = _; simp [field4, nil_eq, hz, hl, hr]
            have hb : (r == 0) = false := by simpa using hr
            exact fin false HV (by
              go_enter Tryz.func267, Tryz.ntmps267
              go_wp2_with fail
              go_ret
              exact ⟨rfl, (Below.refl _ w).alloc (Nat.le_refl _) _⟩)
        · skip
          have hl2 : ¬ (l.length : Int) = 0 := by omega
          have HV : Hid (field4 ⟨2, 0, s, l, r⟩ = false) := by show _ = _; simp [field4, nil_eq, hz, hl]
          exact fin false HV (by
            go_enter Tryz.func267, Tryz.ntmps267
            go_wp2_with fail
            go_ret
            exact ⟨rfl, (Below.refl _ w).alloc (Nat.le_refl _) _⟩)
      · skip
        have hz2 : ¬ (s.size : Int) ≤ 256 := by omega
        have HV : Hid (field4 ⟨2, 0, s, l, r⟩ = false) := by show _ = _; simp [field4, nil_eq, hz]
        exact fin false HV (by
          go_enter Tryz.func267, Tryz.ntmps267
          go_wp2_with fail
          go_ret
          exact ⟨rfl, (Below.refl _ w).alloc (Nat.le_refl _) _⟩)
    · skip
      have HV : Hid (field4 ⟨2, nn, s, l, r⟩ = false) := by show _ = _; simp [field4, nil_eq, hn]
      have hb : (nn == 0) = false := by simpa using hn
      exact fin false HV (by
        go_enter Tryz.func267, Tryz.ntmps267
        go_wp2_with fail
        go_ret
        exact ⟨rfl, (Below.refl _ w).alloc (Nat.le_refl _) _⟩)
  by_cases e3 : k = 3
  · subst e3
    by_cases hn : nn = 0
    · skip
      subst hn
      by_cases hs : s = ⟨#[]⟩
      · skip
        subst hs
        by_cases hr : r = 0
        · skip
          subst hr
          have HV : Hid (field4 ⟨3, 0, ⟨#[]⟩, l, 0⟩ = true) := by show _ = _; simp [field4, nil_eq]
          exact fin true HV (by
            go_enter Tryz.func267, Tryz.ntmps267
            go_wp2_with fail
            go_ret
            exact ⟨rfl, (Below.refl _ w).alloc (Nat.le_refl _) _⟩)
        · skip
          have HV : Hid (field4 ⟨3, 0, ⟨#[]⟩, l, r⟩ = false) := by show _ = _; simp [field4, nil_eq, hr]
          have hb : (r == 0) = false := by simpa using hr
          exact fin false HV (by
            go_enter Tryz.func267, Tryz.ntmps267
            go_wp2_with fail
            go_ret
            exact ⟨rfl, (Below.refl _ w).alloc (Nat.le_refl _) _⟩)
      · skip
        have HV : Hid (field4 ⟨3, 0, s, l, r⟩ = false) := by show _ = _; simp [field4, nil_eq, hs]
        have hb : ¬ s.toList = [] := toList_ne hs
        exact fin false HV (by
          go_enter Tryz.func267, Tryz.ntmps267
          go_wp2_with fail
          go_ret
          exact ⟨rfl, (Below.refl _ w).alloc (Nat.le_refl _) _⟩)
    · skip
      have HV : Hid (field4 ⟨3, nn, s, l, r⟩ = false) := by show _ = _; simp [field4, nil_eq, hn]
      have hb : (nn == 0) = false := by simpa using hn
      exact fin false HV (by
        go_enter Tryz.func267, Tryz.ntmps267
        go_wp2_with fail
        go_ret
        exact ⟨rfl, (Below.refl _ w).alloc (Nat.le_refl _) _⟩)
  by_cases e4 : k = 4
  · subst e4
    by_cases hn : nn = 0
    · skip
      subst hn
      by_cases hs : s = ⟨#[]⟩
      · skip
        subst hs
        by_cases hl : l.length = 0
        · skip
          have hl2 : (l.length : Int) = 0 := by omega
          by_cases hq : r ≥ 1
          · skip
            have HV : Hid (field4 ⟨4, 0, ⟨#[]⟩, l, r⟩ = true) := by show _ = _; simp [field4, nil_eq, hl, hq]
            exact fin true HV (by
              go_enter Tryz.func267, Tryz.ntmps267
              go_wp2_with fail
              go_ret
              exact ⟨rfl, (Below.refl _ w).alloc (Nat.le_refl _) _⟩)
          · skip
            have HV : Hid (field4 ⟨4, 0, ⟨#[]⟩, l, r⟩ = false) := by show _ = _; simp [field4, nil_eq, hl, hq]
            exact fin false HV (by
              go_enter Tryz.func267, Tryz.ntmps267
              go_wp2_with fail
              go_ret
              exact ⟨rfl, (Below.refl _ w).alloc (Nat.le_refl _) _⟩)
        · skip
          have hl2 : ¬ (l.length : Int) = 0 := by omega
          have HV : Hid (field4 ⟨4, 0, ⟨#[]⟩, l, r⟩ = false) := by show _ = _; simp [field4, nil_eq, hl]
          exact fin false HV (by
            go_enter Tryz.func267, Tryz.ntmps267
            go_wp2_with fail
            go_ret
            exact ⟨rfl, (Below.refl _ w).alloc (Nat.le_refl _) _⟩)
      · skip
        have HV : Hid (field4 ⟨4, 0, s, l, r⟩ = false) := by show _ = _; simp [field4, nil_eq, hs]
        have hb : ¬ s.toList = [] := toList_ne hs
        exact fin false HV (by
          go_enter Tryz.func267, Tryz.ntmps267
          go_wp2_with fail
          go_ret
          exact ⟨rfl, (Below.refl _ w).alloc (Nat.le_refl _) _⟩)
    · skip
      have HV : Hid (field4 ⟨4, nn, s, l, r⟩ = false) := by show _ = _; simp [field4, nil_eq, hn]
      have hb : (nn == 0) = false := by simpa using hn
      exact fin false HV (by
        go_enter Tryz.func267, Tryz.ntmps267
        go_wp2_with fail
        go_ret
        exact ⟨rfl, (Below.refl _ w).alloc (Nat.le_refl _) _⟩)
  have HV : Hid (field4 ⟨k, nn, s, l, r⟩ = false) := by show _ = _; simp [field4, e0, e1, e2, e3, e4]
  have hwk : IntKind.i64.wrap k = k := by simp [IntKind.wrap, IntKind.signed, IntKind.bits]; omega
  exact fin false HV (by
    go_enter Tryz.func267, Tryz.ntmps267
    go_wp2_with fail
    go_ret
    exact ⟨rfl, (Below.refl _ w).alloc (Nat.le_refl _) _⟩)
theorem measR {k n : Nat} (h : k < n) : n - (intOf (.int .i64 ((k : Int) + 1))).toNat < n - (intOf (.int .i64 (k : Int))).toNat := by
  simp [intOf]
  omega
theorem P4L_rest {f n i : Nat} {l : List Val} (h : 512 < P4L f (l.take i) n) : P4L f l n = P4L f (l.take i) n := by
  have e : P4L f l n = P4L f (l.drop i) (P4L f (l.take i) n) := by
    show l.foldl _ n = (l.drop i).foldl _ ((l.take i).foldl _ n)
    rw [← List.foldl_append, List.take_append_drop]
  rw [e]
  exact P4L_stop h
theorem P4L_ge {f i : Nat} {l : List Val} (h : P4L f (l.take i) 1 ≤ 512) (hi : i ≤ l.length) : i + 1 ≤ P4L f (l.take i) 1 := by
  have := (P4L_sum (g := P4 f) (fun x _ _ => rfl) h).1
  have hlen : ∀ l : List Val, l.length ≤ (l.map (P4 f)).sum := by
    intro l
    induction l with
    | nil => exact Nat.le_refl _
    | cons x l ih =>
      rw [List.map_cons, List.sum_cons, List.length_cons]
      have := P4_pos f x
      omega
  have h2 := hlen (l.take i)
  rw [List.length_take] at h2
  omega
def PartsC (f : Nat) : Prop := ∀ (v : Val) (raw : Value) (w : World) (F : Nat → Prop) (d : Int), f ≤ 17 → d = 17 - (f : Int) → v.wf → SlAt w F raw v.l →
  Calls Tryz.prog 236 #[.agg (vcs v raw), .int .i64 d] w fun e w' => e = .returned (.int .i64 (P4 f v)) ∧ Below w.heap.size w w'
theorem execOp_ldVx35 (ρ : Operand → Value) (ty : TypeId) (pos : String) (af : Array Edge) (g : Option (Nat × Bool)) :
    execOp ρ { dst := some 35, op := .load 27 (.tmp 34), type := ty, pos := pos, after := af, guard := g } = ldV (ρ (.tmp 34)) := rfl
theorem execOp_ldVx21 (ρ : Operand → Value) (ty : TypeId) (pos : String) (af : Array Edge) (g : Option (Nat × Bool)) :
    execOp ρ { dst := some 21, op := .load 27 (.tmp 20), type := ty, pos := pos, after := af, guard := g } = ldV (ρ (.tmp 20)) := rfl
theorem execOp_ldVx15 (ρ : Operand → Value) (ty : TypeId) (pos : String) (af : Array Edge) (g : Option (Nat × Bool)) :
    execOp ρ { dst := some 15, op := .load 27 (.tmp 14), type := ty, pos := pos, after := af, guard := g } = ldV (ρ (.tmp 14)) := rfl
attribute [local go_sem ↓] execOp_ldVx35 in
set_option maxHeartbeats 4000000 in
set_option maxRecDepth 8000 in
theorem parts_step (f : Nat) (ih : ∀ m, f = m + 1 → PartsC m) : PartsC f := by
  intro v raw w F d hf hd hwf hS
  obtain ⟨k, nn, s, l, r⟩ := v
  obtain ⟨pa, c, rfl⟩ := hS.form
  have hk := hwf.kd
  have hwk : IntKind.i64.wrap k = k := by simp [IntKind.wrap, IntKind.signed, IntKind.bits]; simp at hk; omega
  clear hk
  have HB : Hid (Below w.heap.size w (w.alloc (.cells #[.int .u8 k, .int .i64 nn, .string s, .slice pa l.length c, .int .i64 r] 27)) ∧ (w.alloc (.cells #[.int .u8 k, .int .i64 nn, .string s, .slice pa l.length c, .int .i64 r] 27)).heap[w.heap.size]? = some (.cells #[.int .u8 k, .int .i64 nn, .string s, .slice pa l.length c, .int .i64 r] 27 (0, 0))) := ⟨(Below.refl _ w).alloc (Nat.le_refl _) _, blk_new _ _⟩
  simp only [vcs] at HB ⊢
  cases f with
  | zero =>
    have hd17 : d > 16 := by omega
    clear hS ih hwf hf hd
    by_cases h3 : k = 3
    · subst h3
      go_enter Tryz.func236, Tryz.ntmps236
      go_wp2_with fail
      go_ret
      exact ⟨rfl, HB.out.1⟩
    · go_enter Tryz.func236, Tryz.ntmps236
      go_wp2_with fail
      go_ret
      exact ⟨rfl, HB.out.1⟩
  | succ m =>
    have hd16 : ¬ d > 16 := by omega
    have HS := (show Hid (∀ w', Below w.heap.size w w' → SlAt w' F (.slice pa l.length c) l) from fun w' hb => hS.on hb)
    have IH := (show Hid (PartsC m) from ih m rfl)
    have HD : Hid (d = 16 - (m : Int) ∧ m ≤ 16) := ⟨by omega, by omega⟩
    have HW := (show Hid (∀ x ∈ l, x.wf) from hwf.sub)
    clear hS ih hwf hf hd hwk
    go_enter Tryz.func236, Tryz.ntmps236
    go_wp2_with fail
    go_loopw [5, 6] (fun va vi wr => ∃ (i n : Nat), va = .int .i64 n ∧ vi = .int .i64 i ∧ i ≤ l.length ∧ Hid (n = P4L m (l.take i) 1 ∧ Below w.heap.size w wr ∧ wr.heap[w.heap.size]? = some (.cells #[.int .u8 k, .int .i64 nn, .string s, .slice pa l.length c, .int .i64 r] 27 (0, 0)))) (fun _ vi _ => l.length - (intOf vi).toNat)
    case atStart => exact ⟨0, 1, rfl, rfl, Nat.zero_le _, rfl, HB.out⟩
    case round =>
      obtain ⟨i, n, rfl, rfl, hi, HI⟩ := hrel
      have c3 : wr.cell? ⟨w.heap.size, 3, none⟩ = some (.slice pa l.length c) := by rw [cell_blk HI.out.2.2]; rfl
      by_cases hil : i < l.length
      · have hiz : (i : Int) < (l.length : Int) := by omega
        by_cases hn : n ≤ 512
        · have hnz : (n : Int) ≤ 512 := by omega
          obtain ⟨x, hx⟩ : ∃ x, l[i]? = some x := ⟨_, List.getElem?_eq_getElem hil⟩
          obtain ⟨b, o, cq, raw, hpe, hrg, hlt, -, hSx⟩ := (HS.out wr HI.out.2.1).range hx
          cases hpe
          have hld := loadV_mid hrg (by simp [vcs])
          rw [Array.toArray_toList] at hld
          have hge := P4L_ge (by rw [← HI.out.1]; exact hn) hi
          rw [← HI.out.1] at hge
          have hle := P4_le m x
          have hwk : wrap64 ((i : Int) + 1) = (i : Int) + 1 := by unfold wrap64; omega
          have hwd : wrap64 (d + 1) = d + 1 := by have := HD.out; unfold wrap64; omega
          have hwn : Hid (wrap64 ((n : Int) + (P4 m x : Int)) = ((n + P4 m x : Nat) : Int)) := by show _ = _; have := HD.out; unfold wrap64; omega
          have HC := (show Hid _ from IH.out x raw wr F (d + 1) (by have := HD.out; omega) (by have := HD.out; omega) (HW.out x (List.mem_of_getElem? hx)) hSx)
          have HN : Hid (n + P4 m x = P4L m (l.take (i + 1)) 1) := by show _ = _; rw [P4L_take hx, ← HI.out.1, if_pos hn]
          clear hrg hSx hx hlt hge hle
          go_wp2_with fail
          refine Calls.mono HC.out ?_
          rintro e w5 ⟨rfl, hb5⟩
          have HI5 := (show Hid (Below w.heap.size w w5 ∧ _) from ⟨HI.out.2.1.trans (hb5.mono HI.out.2.1.size), below_blk hb5 HI.out.2.2⟩)
          clear hb5 HI hld c3 HC
          go_wp2_with fail
          go_roundw
          case rel => exact ⟨i + 1, n + P4 m x, by rw [hwn.out], by go_num, by omega, HN.out, HI5.out⟩
          case measure => rw [hwk]; exact measR hil
        · have hnz : ¬ (n : Int) ≤ 512 := by omega
          have HN : Hid (P4 (m + 1) ⟨k, nn, s, l, r⟩ = n) := by
            show P4L m l 1 = n
            rw [P4L_rest (i := i) (by rw [← HI.out.1]; omega), ← HI.out.1]
          have HB5 := (show Hid (Below w.heap.size w wr) from HI.out.2.1)
          clear HI
          go_wp2_with fail
          go_ret
          exact ⟨by rw [HN.out]; rfl, HB5.out⟩
      · have hiz : ¬ (i : Int) < (l.length : Int) := by omega
        obtain rfl : i = l.length := by omega
        have HN : Hid (P4 (m + 1) ⟨k, nn, s, l, r⟩ = n) := by
          show P4L m l 1 = n
          rw [HI.out.1, List.take_length]
        have HB5 := (show Hid (Below w.heap.size w wr) from HI.out.2.1)
        have hkk : ¬ (l.length : Int) < (l.length : Int) := by omega
        clear HI
        go_wp2_with fail
        go_ret
        exact ⟨by rw [HN.out]; rfl, HB5.out⟩
theorem parts4_G (f : Nat) : PartsC f := by
  induction f with
  | zero => exact parts_step 0 (fun m h => by cases h)
  | succ f ih => exact parts_step (f + 1) (fun m h => by cases h; exact ih)
def DeepAt (v : Val) (a : Nat) : Prop := ∀ (raw : Value) (w : World) (F : Nat → Prop), SlAt w F raw v.l → Calls Tryz.prog 237 #[.agg (vcs v raw)] w fun e w' => e = .returned (.int .i64 a) ∧ Below w.heap.size w w'
attribute [local go_sem ↓] execOp_ldVx21 in
set_option maxHeartbeats 4000000 in
set_option maxRecDepth 8000 in
theorem deep_step (v : Val) (g : Val → Nat) (hr : ∀ x ∈ v.l, DeepAt x (g x)) (hb : ∀ x ∈ v.l, g x ≤ 1000) (hl : v.l.length ≤ 512) (hwf : v.wf) : DeepAt v (if v.kind = 3 then v.l.foldl (fun d x => max d (g x)) 0 + 1 else 0) := by
  intro raw w F hS
  obtain ⟨k, nn, s, l, r⟩ := v
  obtain ⟨pa, c, rfl⟩ := hS.form
  have hk := hwf.kd
  have hwk : IntKind.i64.wrap k = k := by simp [IntKind.wrap, IntKind.signed, IntKind.bits]; simp at hk; omega
  clear hk hwf
  have HB : Hid (Below w.heap.size w (w.alloc (.cells #[.int .u8 k, .int .i64 nn, .string s, .slice pa l.length c, .int .i64 r] 27)) ∧ (w.alloc (.cells #[.int .u8 k, .int .i64 nn, .string s, .slice pa l.length c, .int .i64 r] 27)).heap[w.heap.size]? = some (.cells #[.int .u8 k, .int .i64 nn, .string s, .slice pa l.length c, .int .i64 r] 27 (0, 0))) := ⟨(Below.refl _ w).alloc (Nat.le_refl _) _, blk_new _ _⟩
  simp only [vcs] at HB hr hb hl hS ⊢
  by_cases h3 : k = 3
  · subst h3
    rw [if_pos rfl]
    have HS := (show Hid (∀ w', Below w.heap.size w w' → SlAt w' F (.slice pa l.length c) l) from fun w' hb => hS.on hb)
    have HR := (show Hid ((∀ x ∈ l, DeepAt x (g x)) ∧ (∀ x ∈ l, g x ≤ 1000) ∧ l.length ≤ 512) from ⟨hr, hb, hl⟩)
    have HM : Hid (∀ i, (l.take i).foldl (fun d x => max d (g x)) 0 ≤ 1000) := fun i => foldl_max_le (Nat.zero_le _) (fun x hx => hb x (List.mem_of_mem_take hx))
    clear hS hr hb hl hwk
    go_enter Tryz.func237, Tryz.ntmps237
    go_wp2_with fail
    go_loopw [3, 4] (fun va vi wr => ∃ (i n : Nat), va = .int .i64 n ∧ vi = .int .i64 i ∧ i ≤ l.length ∧ Hid (n = (l.take i).foldl (fun d x => max d (g x)) 0 ∧ Below w.heap.size w wr ∧ wr.heap[w.heap.size]? = some (.cells #[.int .u8 3, .int .i64 nn, .string s, .slice pa l.length c, .int .i64 r] 27 (0, 0)))) (fun _ vi _ => l.length - (intOf vi).toNat)
    case atStart => exact ⟨0, 0, rfl, rfl, Nat.zero_le _, rfl, HB.out⟩
    case round =>
      obtain ⟨i, n, rfl, rfl, hi, HI⟩ := hrel
      have c3 : wr.cell? ⟨w.heap.size, 3, none⟩ = some (.slice pa l.length c) := by rw [cell_blk HI.out.2.2]; rfl
      by_cases hil : i < l.length
      · have hiz : (i : Int) < (l.length : Int) := by omega
        obtain ⟨x, hx⟩ : ∃ x, l[i]? = some x := ⟨_, List.getElem?_eq_getElem hil⟩
        obtain ⟨b, o, cq, raw, hpe, hrg, hlt, -, hSx⟩ := (HS.out wr HI.out.2.1).range hx
        cases hpe
        have hld := loadV_mid hrg (by simp [vcs])
        rw [Array.toArray_toList] at hld
        have hwk : wrap64 ((i : Int) + 1) = (i : Int) + 1 := by have := HR.out.2.2; unfold wrap64; omega
        have HC := (show Hid _ from HR.out.1 x (List.mem_of_getElem? hx) raw wr F hSx)
        have HN : Hid (max n (g x) = (l.take (i + 1)).foldl (fun d x => max d (g x)) 0) := by
          show _ = _
          rw [List.take_add_one, hx]
          show _ = (l.take i ++ [x]).foldl _ 0
          rw [List.foldl_append, ← HI.out.1]
          rfl
        clear hrg hSx hx hlt
        go_wp2_with fail
        refine Calls.mono HC.out ?_
        rintro e w5 ⟨rfl, hb5⟩
        have HI5 := (show Hid (Below w.heap.size w w5 ∧ _) from ⟨HI.out.2.1.trans (hb5.mono HI.out.2.1.size), below_blk hb5 HI.out.2.2⟩)
        clear hb5 HI hld c3 HC
        by_cases hlx : n < g x
        · have hz : (n : Int) < (g x : Int) := by omega
          have HE : Hid (g x = max n (g x)) := by show _ = _; omega
          go_wp2_with fail
          go_roundw
          case rel => exact ⟨i + 1, max n (g x), by first | (rw [← HE.out]; done) | (congr 1; omega), by go_num, by omega, HN.out, HI5.out⟩
          case measure => rw [hwk]; exact measR hil
        · have hz : ¬ (n : Int) < (g x : Int) := by omega
          have HE : Hid (n = max n (g x)) := by show _ = _; omega
          go_wp2_with fail
          go_roundw
          case rel => exact ⟨i + 1, max n (g x), by first | (rw [← HE.out]; done) | (congr 1; omega), by go_num, by omega, HN.out, HI5.out⟩
          case measure => rw [hwk]; exact measR hil
      · have hiz : ¬ (i : Int) < (l.length : Int) := by omega
        obtain rfl : i = l.length := by omega
        have HN : Hid (l.foldl (fun d x => max d (g x)) 0 = n) := by
          show _ = _
          rw [HI.out.1, List.take_length]
        have hn := HM.out l.length
        rw [List.take_length, HN.out] at hn
        have hwn : wrap64 ((n : Int) + 1) = (n : Int) + 1 := by unfold wrap64; omega
        have HB5 := (show Hid (Below w.heap.size w wr) from HI.out.2.1)
        have hkk : ¬ (l.length : Int) < (l.length : Int) := by omega
        clear HI hn
        go_wp2_with fail
        go_ret
        exact ⟨by rw [HN.out]; rfl, HB5.out⟩
  · rw [if_neg h3]
    clear hS hr hb hl
    go_enter Tryz.func237, Tryz.ntmps237
    go_wp2_with fail
    go_ret
    exact ⟨rfl, HB.out.1⟩
theorem D4_le : ∀ n v, D4 n v ≤ n + 1
  | 0, v => by simp only [D4]; split <;> omega
  | n + 1, v => by
    simp only [D4]
    split
    · have := foldl_max_le (g := D4 n) (l := v.l) (b := n + 1) (Nat.zero_le _) (fun x _ => D4_le n x)
      omega
    · omega
theorem deep4_G : ∀ n v, n ≤ 100 → depV n v → v.wf → DeepAt v (D4 n v)
  | 0, v, _, h, hw => by
    have hl : v.l = [] := h
    have := deep_step v (fun _ => 0) (fun x hx => by rw [hl] at hx; cases hx) (fun x hx => by rw [hl] at hx; cases hx) (by rw [hl]; simp) hw
    rw [hl] at this
    exact this
  | n + 1, v, hn, h, hw => deep_step v (D4 n) (fun x hx => deep4_G n x (by omega) (h.2 x hx) (hw.sub x hx)) (fun x _ => by have := D4_le n x; omega) h.1 hw
def FieldsAt (v : Val) (b : Bool) : Prop := ∀ (raw : Value) (w : World) (F : Nat → Prop), SlAt w F raw v.l → Calls Tryz.prog 238 #[.agg (vcs v raw)] w fun e w' => e = .returned (.bool b) ∧ Below w.heap.size w w'
attribute [local go_sem ↓] execOp_ldVx15 in
set_option maxHeartbeats 4000000 in
set_option maxRecDepth 8000 in
theorem fields_step (v : Val) (g : Val → Bool) (hr : ∀ x ∈ v.l, FieldsAt x (g x)) (hl : v.l.length ≤ 512) (hwf : v.wf) : FieldsAt v (v.l.all g && field4 v) := by
  intro raw w F hS
  have hk := hwf.kd
  obtain ⟨k, nn, s, l, r⟩ := v
  obtain ⟨pa, c, rfl⟩ := hS.form
  have HB : Hid (Below w.heap.size w (w.alloc (.cells #[.int .u8 k, .int .i64 nn, .string s, .slice pa l.length c, .int .i64 r] 27)) ∧ (w.alloc (.cells #[.int .u8 k, .int .i64 nn, .string s, .slice pa l.length c, .int .i64 r] 27)).heap[w.heap.size]? = some (.cells #[.int .u8 k, .int .i64 nn, .string s, .slice pa l.length c, .int .i64 r] 27 (0, 0))) := ⟨(Below.refl _ w).alloc (Nat.le_refl _) _, blk_new _ _⟩
  have HK : Hid (0 ≤ k ∧ k ≤ 255) := hk
  have HS := (show Hid (∀ w', Below w.heap.size w w' → SlAt w' F (.slice pa l.length c) l) from fun w' hb => hS.on hb)
  have HR := (show Hid ((∀ x ∈ l, FieldsAt x (g x)) ∧ l.length ≤ 512) from ⟨hr, hl⟩)
  clear hS hr hl hk hwf
  simp only [vcs] at HB ⊢
  go_enter Tryz.func238, Tryz.ntmps238
  go_wp2_with fail
  go_loopw [3] (fun vi wr => ∃ i : Nat, vi = .int .i64 i ∧ i ≤ l.length ∧ Hid ((∀ x ∈ l.take i, g x = true) ∧ Below w.heap.size w wr ∧ wr.heap[w.heap.size]? = some (.cells #[.int .u8 k, .int .i64 nn, .string s, .slice pa l.length c, .int .i64 r] 27 (0, 0)))) (fun vi _ => l.length - (intOf vi).toNat)
  case atStart => exact ⟨0, rfl, Nat.zero_le _, fun x hx => (by cases hx), HB.out⟩
  case round =>
    obtain ⟨i, rfl, hi, HI⟩ := hrel
    obtain ⟨⟨c0, c1, c2, c3, c4⟩, -⟩ := cells5 HI.out.2.2
    by_cases hil : i < l.length
    · have hiz : (i : Int) < (l.length : Int) := by omega
      obtain ⟨x, hx⟩ : ∃ x, l[i]? = some x := ⟨_, List.getElem?_eq_getElem hil⟩
      obtain ⟨b, o, cq, raw, hpe, hrg, hlt, -, hSx⟩ := (HS.out wr HI.out.2.1).range hx
      cases hpe
      have hld := loadV_mid hrg (by simp [vcs])
      rw [Array.toArray_toList] at hld
      have hwk : wrap64 ((i : Int) + 1) = (i : Int) + 1 := by have := HR.out.2; unfold wrap64; omega
      have HC := (show Hid _ from HR.out.1 x (List.mem_of_getElem? hx) raw wr F hSx)
      have Hx := (show Hid (l[i]? = some x) from hx)
      clear hrg hSx hx hlt
      go_wp2_with fail
      refine Calls.mono HC.out ?_
      rintro e w5 ⟨rfl, hb5⟩
      have HI5 := (show Hid (Below w.heap.size w w5 ∧ w5.heap[w.heap.size]? = _) from ⟨HI.out.2.1.trans (hb5.mono HI.out.2.1.size), below_blk hb5 HI.out.2.2⟩)
      have HA := (show Hid (∀ x ∈ l.take i, g x = true) from HI.out.1)
      clear hb5 HI hld c0 c1 c2 c3 c4 HC
      cases hg : g x with
      | true =>
        have HT : Hid (∀ y ∈ l.take (i + 1), g y = true) := fun y hy => by
          rw [List.take_add_one, Hx.out] at hy
          rcases List.mem_append.1 hy with hy | hy
          · exact HA.out y hy
          · cases List.mem_singleton.1 hy
            exact hg
        clear hg
        go_wp2_with fail
        go_roundw
        case rel => exact ⟨i + 1, by go_num, by omega, HT.out, HI5.out⟩
        case measure => rw [hwk]; exact measR hil
      | false =>
        have HE : Hid ((l.all g && field4 ⟨k, nn, s, l, r⟩) = false) := by
          show _ = _
          rw [Bool.and_eq_false_iff]
          exact .inl (List.all_eq_false.2 ⟨x, List.mem_of_getElem? Hx.out, by rw [hg]; decide⟩)
        clear hg
        go_wp2_with fail
        go_ret
        exact ⟨by rw [HE.out]; rfl, HI5.out.1⟩
    · have hiz : ¬ (i : Int) < (l.length : Int) := by omega
      obtain rfl : i = l.length := by omega
      have HE : Hid ((l.all g && field4 ⟨k, nn, s, l, r⟩) = field4 ⟨k, nn, s, l, r⟩) := by
        show _ = _
        have : l.all g = true := List.all_eq_true.2 (fun x hx => HI.out.1 x (by rw [List.take_length]; exact hx))
        rw [this, Bool.true_and]
      have HB5 := (show Hid (Below w.heap.size w wr) from HI.out.2.1)
      have hkk : ¬ (l.length : Int) < (l.length : Int) := by omega
      clear HI
      go_wp2_with fail
      refine (field4_W _ k nn s l r _ c HK.out).mono ?_
      rintro e w5 ⟨rfl, hb5⟩
      have HB6 : Hid (Below w.heap.size w w5) := HB5.out.trans (hb5.mono HB5.out.size)
      clear hb5 HB5 c0 c1 c2 c3 c4
      go_wp2_with fail
      go_ret
      exact ⟨by rw [HE.out]; rfl, HB6.out⟩
theorem fields4_G : ∀ n v, depV n v → v.wf → FieldsAt v (F4 n v)
  | 0, v, h, hw => by
    have hl : v.l = [] := h
    have := fields_step v (fun _ => true) (fun x hx => by rw [hl] at hx; cases hx) (by rw [hl]; simp) hw
    rw [hl] at this
    exact this
  | n + 1, v, h, hw => fields_step v (F4 n) (fun x hx => fields4_G n x (h.2 x hx) (hw.sub x hx)) h.1 hw
set_option maxHeartbeats 4000000 in
set_option maxRecDepth 8000 in
theorem may4_W {w : World} {F : Nat → Prop} {v : Val} {raw : Value} (hwf : v.wf) (hS : SlAt w F raw v.l) : Calls Tryz.prog 174 #[.agg (vcs v raw)] w fun e w' => e = .returned (.bool (mayV v)) ∧ Below w.heap.size w w' := by
  obtain ⟨pa, c, rfl⟩ := hS.form
  have HP : Hid (∀ w', Below w.heap.size w w' → Calls Tryz.prog 236 #[.agg (vcs v (.slice pa v.l.length c)), .int .i64 0] w' fun e w'' => e = .returned (.int .i64 (P4 17 v)) ∧ Below w'.heap.size w' w'') := fun w' hb => parts4_G 17 v _ w' F 0 (Nat.le_refl _) (by decide) hwf (hS.on hb)
  have HQ : Hid (P4 17 v ≤ 512 → ∀ w', Below w.heap.size w w' → Calls Tryz.prog 237 #[.agg (vcs v (.slice pa v.l.length c))] w' (fun e w'' => e = .returned (.int .i64 (D4 16 v)) ∧ Below w'.heap.size w' w'') ∧ Calls Tryz.prog 238 #[.agg (vcs v (.slice pa v.l.length c))] w' (fun e w'' => e = .returned (.bool (F4 16 v)) ∧ Below w'.heap.size w' w'')) := fun hp w' hb => by
    have hd := (P4_fwd 16 v hp).2
    exact ⟨deep4_G 16 v (by decide) hd hwf _ w' F (hS.on hb), fields4_G 16 v hd hwf _ w' F (hS.on hb)⟩
  rw [← may4]
  clear hS hwf
  obtain ⟨k, n, s, l, r⟩ := v
  generalize hPv : P4 17 ⟨k, n, s, l, r⟩ = Pv at *
  generalize D4 16 ⟨k, n, s, l, r⟩ = Dv at *
  generalize F4 16 ⟨k, n, s, l, r⟩ = Fv at *
  simp only [vcs] at HP HQ ⊢
  generalize l.length = m at *
  clear hPv
  have HB0 : Hid (Below w.heap.size w (w.alloc (.cells #[.int .u8 k, .int .i64 n, .string s, .slice pa m c, .int .i64 r] 27)) ∧ (w.alloc (.cells #[.int .u8 k, .int .i64 n, .string s, .slice pa m c, .int .i64 r] 27)).heap[w.heap.size]? = some (.cells #[.int .u8 k, .int .i64 n, .string s, .slice pa m c, .int .i64 r] 27 (0, 0))) := ⟨(Below.refl _ w).alloc (Nat.le_refl _) _, blk_new _ _⟩
  go_enter Tryz.func174, Tryz.ntmps174
  go_wp2_with fail
  refine Calls.mono (HP.out _ HB0.out.1) ?_
  rintro e w1 ⟨rfl, hb1⟩
  have HB1 : Hid (Below w.heap.size w w1 ∧ w1.heap[w.heap.size]? = some (.cells #[.int .u8 k, .int .i64 n, .string s, .slice pa m c, .int .i64 r] 27 (0, 0))) := ⟨HB0.out.1.trans (hb1.mono HB0.out.1.size), below_blk hb1 HB0.out.2⟩
  clear hb1 HB0 HP
  obtain ⟨⟨c0, c1, c2, c3, c4⟩, -⟩ := cells5 HB1.out.2
  by_cases hp : Pv ≤ 512
  · have hpz : (Pv : Int) ≤ 512 := by omega
    have HQ' := (show Hid _ from HQ.out hp)
    have E1 : Hid (decide (Pv ≤ 512) = true) := decide_eq_true hp
    clear hp HQ
    go_wp2_with fail
    refine Calls.mono (HQ'.out _ HB1.out.1).1 ?_
    rintro e w2 ⟨rfl, hb2⟩
    have HB2 : Hid (Below w.heap.size w w2 ∧ w2.heap[w.heap.size]? = some (.cells #[.int .u8 k, .int .i64 n, .string s, .slice pa m c, .int .i64 r] 27 (0, 0))) := ⟨HB1.out.1.trans (hb2.mono HB1.out.1.size), below_blk hb2 HB1.out.2⟩
    clear hb2 HB1 c0 c1 c2 c3 c4
    obtain ⟨⟨c0, c1, c2, c3, c4⟩, -⟩ := cells5 HB2.out.2
    by_cases hd : Dv ≤ 16
    · have hdz : (Dv : Int) ≤ 16 := by omega
      have E2 : Hid ((decide (Pv ≤ 512) && (decide (Dv ≤ 16) && Fv)) = Fv) := by show _ = _; rw [E1.out, decide_eq_true hd, Bool.true_and, Bool.true_and]
      clear hd E1
      go_wp2_with fail
      refine Calls.mono (HQ'.out _ HB2.out.1).2 ?_
      rintro e w3 ⟨rfl, hb3⟩
      have HB3 : Hid (Below w.heap.size w w3) := HB2.out.1.trans (hb3.mono HB2.out.1.size)
      clear hb3 HB2 c0 c1 c2 c3 c4
      go_wp2_with fail
      go_ret
      exact ⟨by rw [E2.out]; rfl, HB3.out⟩
    · have hdz : ¬ (Dv : Int) ≤ 16 := by omega
      have E2 : Hid ((decide (Pv ≤ 512) && (decide (Dv ≤ 16) && Fv)) = false) := by show _ = _; rw [E1.out, decide_eq_false hd, Bool.false_and, Bool.true_and]
      clear hd E1
      go_wp2_with fail
      go_ret
      exact ⟨by rw [E2.out]; rfl, HB2.out.1⟩
  · have hpz : ¬ (Pv : Int) ≤ 512 := by omega
    have E2 : Hid ((decide (Pv ≤ 512) && (decide (Dv ≤ 16) && Fv)) = false) := by show _ = _; rw [decide_eq_false hp, Bool.false_and]
    clear hp
    go_wp2_with fail
    go_ret
    exact ⟨by rw [E2.out]; rfl, HB1.out.1⟩
end Go.Proofs.YthaliljaglldjaaGreat
/- posternref04.Same, and the law's own posternsame: two values, whatever they are: just where they are one value. -/
namespace Go.Proofs.YthaliljaglldjaaGreat
open Go.RowKit Go.ChangeMaps Go.MapKept
theorem len_lt {n : Nat} (h : (n : Int) ≤ maxLen) : n ≤ 9223372036854775807 := by
  have e : maxLen = 9223372036854775807 := rfl
  rw [e] at h
  omega
theorem toList_inj {s s2 : ByteArray} (h : ¬ s = s2) : ¬ s.toList = s2.toList := fun e => h (by
  rw [ByteArray.toList_eq, ByteArray.toList_eq] at e
  rcases s with ⟨⟨l⟩⟩
  rcases s2 with ⟨⟨l2⟩⟩
  simp at e
  rw [e])
theorem ld_onS {w w' : World} {b o : Nat} {x : Val} {raw : Value} (h : w.rangeAt b o (vcs x raw).toList) (hb : Below w.heap.size w w') (hlt : b < w.heap.size) : (ldV (.pointer (some ⟨b, o, none⟩))).run Tryz.prog w' = .ok (.value (.agg (vcs x raw))) w' := by
  have := loadV_mid (show w'.rangeAt b o (vcs x raw).toList from fun j v hv => (hb.cell (p := ⟨b, o + j, none⟩) hlt).trans (h j v hv)) (by simp [vcs])
  rwa [Array.toArray_toList] at this
def SameP (w : World) (a b : Val) (e : Ending) (w' : World) : Prop := ∃ B, e = .returned (.bool B) ∧ (B = true ↔ a = b) ∧ Below w.heap.size w w'
def sameAt (f : Nat) (a b : Val) : Prop := ∀ (raw1 raw2 : Value) (w : World) (F1 F2 : Nat → Prop), SlAt w F1 raw1 a.l → SlAt w F2 raw2 b.l →
  Calls Tryz.prog f #[.agg (vcs a raw1), .agg (vcs b raw2)] w (SameP w a b)
theorem execOp_ldsame4R652 (ρ : Operand → Value) (ty : TypeId) (pos : String) (af : Array Edge) (g : Option (Nat × Bool)) :
    execOp ρ { dst := some 52, op := .load 27 (.tmp 51), type := ty, pos := pos, after := af, guard := g } = ldV (ρ (.tmp 51)) := rfl
theorem execOp_ldsame4R657 (ρ : Operand → Value) (ty : TypeId) (pos : String) (af : Array Edge) (g : Option (Nat × Bool)) :
    execOp ρ { dst := some 57, op := .load 27 (.tmp 56), type := ty, pos := pos, after := af, guard := g } = ldV (ρ (.tmp 56)) := rfl
def same4R6 (r0 b o c b2 o2 c2 i m : Nat) (rc rl : Value) (j : Nat) (v : Value) (_ : World) : Prop :=
  match j with
  | 0 => v = .pointer (some ⟨r0, 3, none⟩)
  | 1 => v = .slice (some ⟨b, o, none⟩) m c
  | 2 => v = .int .i64 i
  | 3 => v = .pointer (some ⟨b, o + i * 5, none⟩)
  | 4 => v = rc
  | 5 => v = .pointer (some ⟨r0 + 1, 3, none⟩)
  | 6 => v = .slice (some ⟨b2, o2, none⟩) m c2
  | 7 => v = .int .i64 i
  | 8 => v = .pointer (some ⟨b2, o2 + i * 5, none⟩)
  | 9 => v = rl
  | _ => True
set_option maxHeartbeats 4000000 in
set_option maxRecDepth 8000 in
theorem sameF_step {f : Nat} (hf : f = 178 ∨ f = 88) (a b : Val) (hr : ∀ x ∈ a.l, ∀ y, sameAt f x y) (hl : (a.l.length : Int) ≤ maxLen) : sameAt f a b := by
  intro raw1 raw2 w F1 F2 hS1 hS2
  obtain ⟨k, nn, s, l, r⟩ := a
  obtain ⟨k2, nn2, s2, l2, r2⟩ := b
  simp only at hr hl hS1 hS2
  obtain ⟨pa, c, rfl⟩ := hS1.form
  obtain ⟨pa2, c2, rfl⟩ := hS2.form
  have HL : Hid (l.length ≤ 9223372036854775807) := len_lt hl
  have HS := (show Hid (∀ w', Below w.heap.size w w' → SlAt w' F1 (.slice pa l.length c) l ∧ SlAt w' F2 (.slice pa2 l2.length c2) l2) from fun w' hb => ⟨hS1.on hb, hS2.on hb⟩)
  have HR := (show Hid (∀ x ∈ l, ∀ y, sameAt f x y) from hr)
  clear hS1 hS2 hr hl
  simp only [vcs]
  have HB0 : Hid (Below w.heap.size w ((w.alloc (.cells #[.int .u8 k, .int .i64 nn, .string s, .slice pa l.length c, .int .i64 r] 27)).alloc (.cells #[.int .u8 k2, .int .i64 nn2, .string s2, .slice pa2 l2.length c2, .int .i64 r2] 27)) ∧
      ((w.alloc (.cells #[.int .u8 k, .int .i64 nn, .string s, .slice pa l.length c, .int .i64 r] 27)).alloc (.cells #[.int .u8 k2, .int .i64 nn2, .string s2, .slice pa2 l2.length c2, .int .i64 r2] 27)).heap[w.heap.size]? = some (.cells #[.int .u8 k, .int .i64 nn, .string s, .slice pa l.length c, .int .i64 r] 27 (0, 0)) ∧
      ((w.alloc (.cells #[.int .u8 k, .int .i64 nn, .string s, .slice pa l.length c, .int .i64 r] 27)).alloc (.cells #[.int .u8 k2, .int .i64 nn2, .string s2, .slice pa2 l2.length c2, .int .i64 r2] 27)).heap[w.heap.size + 1]? = some (.cells #[.int .u8 k2, .int .i64 nn2, .string s2, .slice pa2 l2.length c2, .int .i64 r2] 27 (0, 0))) :=
    ⟨((Below.refl _ w).alloc (Nat.le_refl _) _).alloc (by simp) _, blk2_old w _ _, blk2_new w _ _⟩
  rcases hf with rfl | rfl
  all_goals
    by_cases hk : k = k2
    rotate_left
    · have HN : Hid (¬ ((⟨k, nn, s, l, r⟩ : Val) = ⟨k2, nn2, s2, l2, r2⟩)) := fun e => hk (by injection e)
      first | go_enter Tryz.func178, Tryz.ntmps178 | go_enter Tryz.func88, Tryz.ntmps88
      go_wp2_with fail
      go_ret
      exact ⟨false, rfl, ⟨(fun h => by cases h), fun h => absurd h HN.out⟩, HB0.out.1⟩
    subst hk
    by_cases hn : nn = nn2
    rotate_left
    · have HN : Hid (¬ ((⟨k, nn, s, l, r⟩ : Val) = ⟨k, nn2, s2, l2, r2⟩)) := fun e => hn (by injection e)
      first | go_enter Tryz.func178, Tryz.ntmps178 | go_enter Tryz.func88, Tryz.ntmps88
      go_wp2_with fail
      go_ret
      exact ⟨false, rfl, ⟨(fun h => by cases h), fun h => absurd h HN.out⟩, HB0.out.1⟩
    subst hn
    by_cases hs : s = s2
    rotate_left
    · have HN : Hid (¬ ((⟨k, nn, s, l, r⟩ : Val) = ⟨k, nn, s2, l2, r2⟩)) := fun e => hs (by injection e)
      have hsl := toList_inj hs
      first | go_enter Tryz.func178, Tryz.ntmps178 | go_enter Tryz.func88, Tryz.ntmps88
      go_wp2_with fail
      go_ret
      exact ⟨false, rfl, ⟨(fun h => by cases h), fun h => absurd h HN.out⟩, HB0.out.1⟩
    subst hs
    by_cases hr : r = r2
    rotate_left
    · have HN : Hid (¬ ((⟨k, nn, s, l, r⟩ : Val) = ⟨k, nn, s, l2, r2⟩)) := fun e => hr (by injection e)
      first | go_enter Tryz.func178, Tryz.ntmps178 | go_enter Tryz.func88, Tryz.ntmps88
      go_wp2_with fail
      go_ret
      exact ⟨false, rfl, ⟨(fun h => by cases h), fun h => absurd h HN.out⟩, HB0.out.1⟩
    subst hr
    by_cases hlen : l.length = l2.length
    rotate_left
    · have HN : Hid (¬ ((⟨k, nn, s, l, r⟩ : Val) = ⟨k, nn, s, l2, r⟩)) := fun e => hlen (by injection e with _ _ _ e; rw [e])
      have hz : ¬ (l.length : Int) = (l2.length : Int) := by omega
      first | go_enter Tryz.func178, Tryz.ntmps178 | go_enter Tryz.func88, Tryz.ntmps88
      go_wp2_with fail
      go_ret
      exact ⟨false, rfl, ⟨(fun h => by cases h), fun h => absurd h HN.out⟩, HB0.out.1⟩
    obtain ⟨m, hm⟩ : ∃ m, m = l.length := ⟨_, rfl⟩
    have HM : Hid (m = l.length ∧ m = l2.length) := ⟨hm, by omega⟩
    rw [← hlen] at HS HB0 ⊢
    rw [← hm] at HL HS HB0 ⊢
    clear hlen hm
    first | go_enter Tryz.func178, Tryz.ntmps178 | go_enter Tryz.func88, Tryz.ntmps88
    go_wp2_with fail
    go_loopw [5] (fun vi wr => ∃ i : Nat, vi = .int .i64 i ∧ i ≤ m ∧ Hid ((∀ j, j < i → l[j]? = l2[j]?) ∧ Below w.heap.size w wr ∧ wr.heap[w.heap.size]? = some (.cells #[.int .u8 k, .int .i64 nn, .string s, .slice pa m c, .int .i64 r] 27 (0, 0)) ∧ wr.heap[w.heap.size + 1]? = some (.cells #[.int .u8 k, .int .i64 nn, .string s, .slice pa2 m c2, .int .i64 r] 27 (0, 0)))) (fun vi _ => m - (intOf vi).toNat)
    case atStart => exact ⟨0, rfl, Nat.zero_le _, fun j h => absurd h (Nat.not_lt_zero j), HB0.out⟩
    case round =>
      obtain ⟨i, rfl, hi, HI⟩ := hrel
      have d3 : wr.cell? ⟨w.heap.size, 3, none⟩ = some (.slice pa m c) := by rw [cell_blk HI.out.2.2.1]; rfl
      have d4 : wr.cell? ⟨w.heap.size + 1, 3, none⟩ = some (.slice pa2 m c2) := by rw [cell_blk HI.out.2.2.2]; rfl
      by_cases him : i < m
      · have hiz : (i : Int) < (m : Int) := by omega
        obtain ⟨x, hx⟩ : ∃ x, l[i]? = some x := ⟨_, List.getElem?_eq_getElem (by have := HM.out.1; omega)⟩
        obtain ⟨y, hy⟩ : ∃ y, l2[i]? = some y := ⟨_, List.getElem?_eq_getElem (by have := HM.out.2; omega)⟩
        obtain ⟨b, o, cq, raw, hpe, hrg, hlt, -, hSx⟩ := (HS.out wr HI.out.2.1).1.range hx
        have hpa : pa = some ⟨b, o, none⟩ := by injection hpe
        subst hpa
        obtain ⟨b2, o2, cq2, raw2, hpe2, hrg2, hlt2, -, hSx2⟩ := (HS.out wr HI.out.2.1).2.range hy
        have hpa2 : pa2 = some ⟨b2, o2, none⟩ := by injection hpe2
        subst hpa2
        have Hx := (show Hid (SlAt wr F1 raw x.l ∧ SlAt wr F2 raw2 y.l ∧ sameAt _ x y ∧ (∀ w', Below wr.heap.size wr w' → (ldV (.pointer (some ⟨b, o + i * 5, none⟩))).run Tryz.prog w' = .ok (.value (.agg (vcs x raw))) w') ∧ (∀ w', Below wr.heap.size wr w' → (ldV (.pointer (some ⟨b2, o2 + i * 5, none⟩))).run Tryz.prog w' = .ok (.value (.agg (vcs y raw2))) w')) from ⟨hSx, hSx2, HR.out x (List.mem_of_getElem? hx) y, fun w' h => ld_onS hrg h hlt, fun w' h => ld_onS hrg2 h hlt2⟩)
        have Hxy := (show Hid (l[i]? = some x ∧ l2[i]? = some y) from ⟨hx, hy⟩)
        have hwk : wrap64 ((i : Int) + 1) = (i : Int) + 1 := by have := HL.out; unfold wrap64; omega
        clear hx hy hrg hrg2 hSx hSx2 hlt hlt2 hpe hpe2
        go_upto_region 6 with fail
        clear d3 d4
        refine wp_region_growK 10 (by kernel_rfl) rfl (by kernel_rfl) (by kernel_rfl) (fun a b => Below a.heap.size a b) (same4R6 w.heap.size b o c b2 o2 c2 i m (.agg (vcs x raw)) (.agg (vcs y raw2))) (fun w' => Below wr.heap.size wr w') (fun j v w w' _ h => h) below_drew (fun a b h hR => h.trans (hR.mono h.size)) ?_ ?_ ?_
        · exact fun _ _ _ _ h1 h2 => noGuard (by kernel_rfl) h1 h2
        · intro j q a w7 hq hC hG
          have hj : j < 10 := (List.getElem?_eq_some_iff.1 hq).1
          match j, hj with
          | 0, _ => cases hq; have h2' : a.tmps[2]?.getD undef = .pointer (some ⟨w.heap.size, 0, none⟩) := gq (hG.fr 2 (by simp)); unfold Oper.wp; simp [go_sem, Act.eval, h2']; exact ⟨_, rfl, Below.refl _ _, rfl⟩
          | 1, _ =>
            cases hq
            have h48' : a.tmps[48]?.getD undef = .pointer (some ⟨w.heap.size, 3, none⟩) := gq (hG.dep ⟨0, .data⟩ (by simp) rfl _ rfl)
            have c3 : w7.cell? ⟨w.heap.size, 3, none⟩ = some (.slice (some ⟨b, o, none⟩) m c) := by rw [cell_blk (below_blk hC HI.out.2.2.1)]; rfl
            unfold Oper.wp
            simp [go_sem, Act.eval, h48', c3]
            exact ⟨_, rfl, Below.refl _ _, rfl⟩
          | 2, _ => cases hq; have h5' : a.tmps[5]?.getD undef = .int .i64 i := gq (hG.fr 5 (by simp)); unfold Oper.wp; simp [go_sem, Act.eval, h5']; exact ⟨_, rfl, Below.refl _ _, rfl⟩
          | 3, _ => cases hq; have h49' : a.tmps[49]?.getD undef = .slice (some ⟨b, o, none⟩) m c := gq (hG.dep ⟨1, .data⟩ (by simp) rfl _ rfl); have h50' : a.tmps[50]?.getD undef = .int .i64 i := gq (hG.dep ⟨2, .data⟩ (by simp) rfl _ rfl); unfold Oper.wp; simp [go_sem, Act.eval, h49', h50', hiz]; exact ⟨_, rfl, Below.refl _ _, rfl⟩
          | 4, _ =>
            cases hq
            have h51 : a.tmps.getD 51 undef = .pointer (some ⟨b, o + i * 5, none⟩) := hG.dep ⟨3, .data⟩ (by simp) rfl _ rfl
            refine step_g (.agg (vcs x raw)) ?_ (Below.refl _ _) rfl
            rw [execOp_ldsame4R652]
            show (ldV (a.tmps.getD 51 undef)).run _ _ = _
            rw [h51]
            exact Hx.out.2.2.2.1 _ hC
          | 5, _ => cases hq; have h3' : a.tmps[3]?.getD undef = .pointer (some ⟨w.heap.size + 1, 0, none⟩) := gq (hG.fr 3 (by simp)); unfold Oper.wp; simp [go_sem, Act.eval, h3']; exact ⟨_, rfl, Below.refl _ _, rfl⟩
          | 6, _ =>
            cases hq
            have h53' : a.tmps[53]?.getD undef = .pointer (some ⟨w.heap.size + 1, 3, none⟩) := gq (hG.dep ⟨5, .data⟩ (by simp) rfl _ rfl)
            have c3 : w7.cell? ⟨w.heap.size + 1, 3, none⟩ = some (.slice (some ⟨b2, o2, none⟩) m c2) := by rw [cell_blk (below_blk hC HI.out.2.2.2)]; rfl
            unfold Oper.wp
            simp [go_sem, Act.eval, h53', c3]
            exact ⟨_, rfl, Below.refl _ _, rfl⟩
          | 7, _ => cases hq; have h5' : a.tmps[5]?.getD undef = .int .i64 i := gq (hG.fr 5 (by simp)); unfold Oper.wp; simp [go_sem, Act.eval, h5']; exact ⟨_, rfl, Below.refl _ _, rfl⟩
          | 8, _ => cases hq; have h54' : a.tmps[54]?.getD undef = .slice (some ⟨b2, o2, none⟩) m c2 := gq (hG.dep ⟨6, .data⟩ (by simp) rfl _ rfl); have h55' : a.tmps[55]?.getD undef = .int .i64 i := gq (hG.dep ⟨7, .data⟩ (by simp) rfl _ rfl); unfold Oper.wp; simp [go_sem, Act.eval, h54', h55', hiz]; exact ⟨_, rfl, Below.refl _ _, rfl⟩
          | 9, _ =>
            cases hq
            have h56 : a.tmps.getD 56 undef = .pointer (some ⟨b2, o2 + i * 5, none⟩) := hG.dep ⟨8, .data⟩ (by simp) rfl _ rfl
            refine step_g (.agg (vcs y raw2)) ?_ (Below.refl _ _) rfl
            rw [execOp_ldsame4R657]
            show (ldV (a.tmps.getD 56 undef)).run _ _ = _
            rw [h56]
            exact Hx.out.2.2.2.2 _ hC
        intro a w7 hC hdf hsz hfr hphi
        have e0 : a.tmps.getD 48 undef = .pointer (some ⟨w.heap.size, 3, none⟩) := hphi 0 _ rfl
        have e1 : a.tmps.getD 49 undef = .slice (some ⟨b, o, none⟩) m c := hphi 1 _ rfl
        have e2 : a.tmps.getD 50 undef = .int .i64 i := hphi 2 _ rfl
        have e3 : a.tmps.getD 51 undef = .pointer (some ⟨b, o + i * 5, none⟩) := hphi 3 _ rfl
        have e4 : a.tmps.getD 52 undef = .agg (vcs x raw) := hphi 4 _ rfl
        have e5 : a.tmps.getD 53 undef = .pointer (some ⟨w.heap.size + 1, 3, none⟩) := hphi 5 _ rfl
        have e6 : a.tmps.getD 54 undef = .slice (some ⟨b2, o2, none⟩) m c2 := hphi 6 _ rfl
        have e7 : a.tmps.getD 55 undef = .int .i64 i := hphi 7 _ rfl
        have e8 : a.tmps.getD 56 undef = .pointer (some ⟨b2, o2 + i * 5, none⟩) := hphi 8 _ rfl
        have e9 : a.tmps.getD 57 undef = .agg (vcs y raw2) := hphi 9 _ rfl
        have ha := act_of hdf hsz hfr
        simp only [List.take_succ_cons, List.take_zero, List.filterMap_cons, List.filterMap_nil, List.foldl_cons, List.foldl_nil, List.setIfInBounds_toArray, List.set_cons_zero, List.set_cons_succ, e0, e1, e2, e3, e4, e5, e6, e7, e8, e9] at ha
        clear hdf hsz hfr hphi e0 e1 e2 e3 e4 e5 e6 e7 e8 e9
        subst ha
        refine ⟨rfl, ?_⟩
        unfold Oper.wp
        simp [go_sem, callFunc, Act.eval, Tryz.func178, Tryz.func88]
        refine (Hx.out.2.2.1 _ _ _ _ _ (Hx.out.1.on hC) (Hx.out.2.1.on hC)).mono ?_
        rintro e w8 ⟨B, rfl, hB, hb8⟩
        have HBx := (show Hid (B = true ↔ x = y) from hB)
        have hC8 : Below wr.heap.size wr w8 := hC.trans (hb8.mono hC.size)
        have HI8 := (show Hid (Below w.heap.size w w8 ∧ _ ∧ _) from ⟨HI.out.2.1.trans (hC8.mono HI.out.2.1.size), below_blk hC8 HI.out.2.2.1, below_blk hC8 HI.out.2.2.2⟩)
        have HJ := (show Hid (∀ j, j < i → l[j]? = l2[j]?) from HI.out.1)
        clear hC8 hC hb8 hB HI Hx
        cases B with
        | true =>
          have HJ2 : Hid (∀ j, j < i + 1 → l[j]? = l2[j]?) := fun j hj => by
            by_cases e : j = i
            · subst e
              rw [Hxy.out.1, Hxy.out.2, HBx.out.1 rfl]
            · exact HJ.out j (by omega)
          refine ⟨rfl, ?_⟩
          unfold Oper.wp
          simp [execOp, go_sem, Act.eval, wpTailG]
          refine ‹∀ (a : Act) (w : World), Code.wp Tryz.prog _ _ a w → _› _ _ ?_
          go_wp2_with fail
          go_roundw
          case rel => exact ⟨i + 1, by go_num, by omega, HJ2.out, HI8.out⟩
          case measure => rw [hwk]; exact measR him
        | false =>
          have HN : Hid (¬ ((⟨k, nn, s, l, r⟩ : Val) = ⟨k, nn, s, l2, r⟩)) := fun e => by
            injection e with _ _ _ e
            have h1 := Hxy.out.1
            rw [e, Hxy.out.2] at h1
            injection h1 with h1
            have := HBx.out.2 h1.symm
            cases this
          refine ⟨rfl, ?_⟩
          unfold Oper.wp
          simp [execOp, go_sem, Act.eval, wpTailG]
          refine ‹∀ (a : Act) (w : World), Code.wp Tryz.prog _ _ a w → _› _ _ ?_
          go_wp2_with fail
          go_ret
          exact ⟨false, rfl, ⟨(fun h => by cases h), fun h => absurd h HN.out⟩, HI8.out.1⟩
      · have hiz : ¬ (i : Int) < (m : Int) := by omega
        obtain rfl : i = m := by omega
        have HE : Hid ((⟨k, nn, s, l, r⟩ : Val) = ⟨k, nn, s, l2, r⟩) := by
          have e : l = l2 := List.ext_getElem? fun j => by
            by_cases hj : j < i
            · exact HI.out.1 j hj
            · rw [List.getElem?_eq_none (by have := HM.out.1; omega), List.getElem?_eq_none (by have := HM.out.2; omega)]
          show _ = _
          rw [e]
        have HB := (show Hid (Below w.heap.size w wr) from HI.out.2.1)
        have hkk : ¬ (i : Int) < (i : Int) := by omega
        clear HI
        go_wp2_with fail
        go_ret
        exact ⟨true, rfl, ⟨fun _ => HE.out, fun _ => rfl⟩, HB.out⟩
theorem sameF_G {f : Nat} (hf : f = 178 ∨ f = 88) (a : Val) (h : a.wf) (b : Val) : sameAt f a b := sameF_step hf a b (fun x hx y => sameF_G hf x (h.sub x hx) y) h.len
termination_by SizeOf.sizeOf a
decreasing_by
  have := List.sizeOf_lt_of_mem hx
  cases a
  simp at this ⊢
  omega
theorem same4_G (a : Val) (h : a.wf) (b : Val) : sameAt 178 a b := sameF_G (.inl rfl) a h b
theorem psame_G (a : Val) (h : a.wf) (b : Val) : sameAt 88 a b := sameF_G (.inr rfl) a h b
end Go.Proofs.YthaliljaglldjaaGreat
