/- A part of the proof, several texts in one: PlE, Alike, CopyA, CopyC. -/
import Derived.Test.YthaliljaglldjaaGreatmBA
import Derived.Test.YthaliljaglldjaaGreatmAM
import Derived.Test.YthaliljaglldjaaGreatmAQ
import Derived.Test.YthaliljaglldjaaGreatmAF
import Derived.Test.YthaliljaglldjaaGreatmAD
import Derived.Test.YthaliljaglldjaaGreatmAE
import Derived.Test.YthaliljaglldjaaGreatmAK
import Derived.Test.YthaliljaglldjaaGreatmAL
/- plain: things are made, or are not, whatever the home and the value. -/
namespace Go.Proofs.YthaliljaglldjaaGreat
open Go.RowKit Go.ChangeMaps Go.MapKept
variable {w : World} {p : Nat} {M : WM} {F : Nat → Prop}
def knownB (M : WM) (v : Val) : Bool := (refsV v).all fun r => (M.at r).isSome
def mayE (M : WM) (h : Int) (v : Val) : Int := if 0 ≤ h ∧ h < M.made.length then (if mayV v = true then (if knownB M v = true then 0 else 5) else 2) else 2
theorem mayE_zero {M : WM} {h : Int} {v : Val} (e : mayE M h v = 0) : (0 ≤ h ∧ h < M.made.length) ∧ mayV v = true ∧ knownB M v = true := by
  unfold mayE at e
  split at e
  · split at e
    · split at e
      · exact ⟨by assumption, by assumption, by assumption⟩
      · cases e
    · cases e
  · cases e
theorem refsN_wf : ∀ n (v : Val), v.wf → ∀ r ∈ refsN n v, (Lit.int .i64 r).wf = true
  | 0, v, h, r, hr => by
    unfold refsN at hr
    split at hr
    · simp at hr
      subst hr
      exact h.num.2
    · cases hr
  | n + 1, v, h, r, hr => by
    unfold refsN at hr
    rcases List.mem_append.1 hr with hr | hr
    · split at hr
      · simp at hr
        subst hr
        exact h.num.2
      · cases hr
    · obtain ⟨x, hx, hr⟩ := List.mem_flatMap.1 hr
      exact refsN_wf n x (h.sub x hx) r hr
theorem refsV_wf {v : Val} (h : v.wf) : ∀ r ∈ refsV v, (Lit.int .i64 r).wf = true := fun r hr => by
  unfold refsV at hr
  split at hr
  · exact refsN_wf 16 v h r hr
  · cases hr
theorem known_all {M : WM} {v : Val} (h : v.wf) (hk : knownB M v = true) : ∀ r ∈ refsV v, (Lit.int .i64 r).wf = true ∧ (M.at r).isSome = true := fun r hr =>
  ⟨refsV_wf h r hr, by unfold knownB at hk; rw [List.all_eq_true] at hk; exact hk r hr⟩
set_option maxHeartbeats 2000000 in
set_option maxRecDepth 8000 in
theorem known_any (hW : IsW w p M F) {F1 : Nat → Prop} (v : Val) (raw : Value) (hS : SlAt w F1 raw v.l) (hk : ∀ r ∈ refsV v, (Lit.int .i64 r).wf = true) :
    Calls Tryz.prog 185 #[.pointer (some ⟨p, 0, none⟩), .agg (vcs v raw)] w fun e w' => e = .returned (.bool (knownB M v)) ∧ Below w.heap.size w w' := by
  obtain ⟨pa, c, rfl⟩ := hS.form
  have hb0 : Below w.heap.size w (w.alloc (.cells (vcs v (.slice pa v.l.length c)) 27)) := (Below.refl _ _).alloc (Nat.le_refl _) _
  have HR := (show Hid _ from And.intro hb0 (Refs_G (w := w.alloc (.cells (vcs v (.slice pa v.l.length c)) 27)) v _ (hS.on hb0)))
  have Hk : Hid (∀ r ∈ refsV v, (Lit.int .i64 r).wf = true) := hk
  have Hl : Hid ((refsV v).length ≤ 512) := refsV_le v
  have HW : Hid (IsW w p M F) := hW
  unfold knownB
  obtain ⟨kind, n, s, l, r⟩ := v
  generalize refsV ⟨kind, n, s, l, r⟩ = xs at HR Hk Hl ⊢
  clear hS hk hW hb0
  simp only [vcs] at HR ⊢
  go_enter Tryz.func185, Tryz.ntmps185
  go_wp2_with fail
  refine Calls.mono HR.out.2 ?_
  rintro e w1 ⟨u, rfl, hr, hb1⟩
  have HB1 := (show Hid (Below w.heap.size w w1) from HR.out.1.trans (hb1.mono HR.out.1.size))
  obtain ⟨q, c', hu, hcell⟩ : ∃ q c', u = .slice q xs.length c' ∧ ∀ (j : Nat) (x : Int), xs[j]? = some x → ∃ g, q = some ⟨g, 0, none⟩ ∧ w1.cell? ⟨g, j, none⟩ = some (.int .i64 x) := by
    obtain ⟨h1, ⟨rfl, h0⟩ | ⟨g, cap, cur, rfl, -, hb, hc, hm, hcs, ht⟩⟩ := hr
    · exact ⟨none, 0, by rw [h0], fun j x hj => by have := (List.getElem?_eq_some_iff.1 hj).1; omega⟩
    · refine ⟨_, cap, rfl, fun j x hj => ⟨g, rfl, ?_⟩⟩
      have hj' := (List.getElem?_eq_some_iff.1 hj).1
      have h2 : (xs.map (Value.int .i64))[j]? = some (.int .i64 x) := by rw [List.getElem?_map, hj]; rfl
      rw [← ht, List.getElem?_take, if_pos (by omega)] at h2
      rw [cell_blk hb, ← Array.getElem?_toList]
      exact h2
  subst hu
  have HC := (show Hid (∀ (j : Nat) (x : Int), xs[j]? = some x → ∃ g, q = some ⟨g, 0, none⟩ ∧ w1.cell? ⟨g, j, none⟩ = some (.int .i64 x)) from hcell)
  have HW1 : Hid (IsW w1 p M F) := HW.out.below HB1.out
  clear hr hb1 hcell HR HW
  go_wp2_with fail
  go_loopw [10] (fun vi wr => ∃ k : Nat, vi = .int .i64 k ∧ k ≤ xs.length ∧ wr = w1 ∧ Hid (∀ x ∈ xs.take k, (M.at x).isSome = true)) (fun vi _ => xs.length - (intOf vi).toNat)
  case atStart => exact ⟨0, rfl, Nat.zero_le _, rfl, fun x hx => by simp at hx⟩
  case round =>
    obtain ⟨k, rfl, hk, rfl, HA⟩ := hrel
    by_cases hkl : k < xs.length
    · have hkz : (k : Int) < (xs.length : Int) := by omega
      obtain ⟨x, hx⟩ : ∃ x, xs[k]? = some x := ⟨_, List.getElem?_eq_getElem hkl⟩
      obtain ⟨g, rfl, hc⟩ := HC.out k x hx
      have hwf := Hk.out x (List.mem_of_getElem? hx)
      have hk1 : k < 512 := by have := Hl.out; omega
      have hI := Is_W HW1.out hwf
      cases his : (M.at x).isSome with
      | true =>
        have HA2 : Hid (∀ y ∈ xs.take (k + 1), (M.at y).isSome = true) := fun y hy => by
          rw [List.take_add_one, hx] at hy
          rcases List.mem_append.1 hy with hy | hy
          · exact HA.out y hy
          · simp at hy
            rw [hy]
            exact his
        rw [his] at hI
        have HI := (show Hid _ from hI)
        clear hx hI his HA
        go_wp2_with fail
        refine Calls.mono HI.out ?_
        rintro e _ ⟨rfl, rfl⟩
        go_wp2_with fail
        go_roundw
        case rel => exact ⟨k + 1, by go_num, by omega, by first | rfl | trivial, HA2⟩
        case measure =>
          simp [intOf]
          omega
      | false =>
        have HE : Hid ((xs.all fun r => (M.at r).isSome) = false) := by
          show _ = _
          rw [List.all_eq_false]
          exact ⟨x, List.mem_of_getElem? hx, by rw [his]; decide⟩
        rw [his] at hI
        have HI := (show Hid _ from hI)
        clear hx hI his HA
        go_wp2_with fail
        refine Calls.mono HI.out ?_
        rintro e _ ⟨rfl, rfl⟩
        go_wp2_with fail
        go_ret
        exact ⟨by rw [HE.out]; rfl, HB1.out⟩
    · have hkz : ¬ (k : Int) < (xs.length : Int) := by omega
      obtain rfl : k = xs.length := by omega
      have HE : Hid ((xs.all fun r => (M.at r).isSome) = true) := by
        show _ = _
        rw [List.all_eq_true]
        exact fun x hx => HA.out x (by rw [List.take_length]; exact hx)
      clear HA
      go_wp2_with fail
      go_ret
      exact ⟨by rw [HE.out]; rfl, HB1.out⟩
set_option maxHeartbeats 4000000 in
set_option maxRecDepth 8000 in
theorem may_any (hW : IsW w p M F) {F1 : Nat → Prop} (h : Int) (v : Val) (raw : Value) (hS : SlAt w F1 raw v.l) (hk : ∀ r ∈ refsV v, (Lit.int .i64 r).wf = true) :
    Calls Tryz.prog 181 #[.pointer (some ⟨p, 0, none⟩), .int .i64 h, .agg (vcs v raw)] w fun e w' => e = .returned (.int .i64 (mayE M h v)) ∧ Below w.heap.size w w' := by
  obtain ⟨pa, c, rfl⟩ := hS.form
  have hb0 : Below w.heap.size w (w.alloc (.cells (vcs v (.slice pa v.l.length c)) 27)) := (Below.refl _ _).alloc (Nat.le_refl _) _
  have HW : Hid (IsW w p M F) := hW
  have HW0 : Hid (IsW (w.alloc (.cells (vcs v (.slice pa v.l.length c)) 27)) p M F) := hW.below hb0
  have HM : Hid (∀ w', Below w.heap.size w w' → Calls Tryz.prog 161 #[.agg (vcs v (.slice pa v.l.length c))] w' fun e w'' => e = .returned (.bool (mayV v)) ∧ Below w'.heap.size w' w'') := fun w' hb => vMay_G (hS.on hb) (v := v)
  have HK : Hid (∀ w', Below w.heap.size w w' → Calls Tryz.prog 185 #[.pointer (some ⟨p, 0, none⟩), .agg (vcs v (.slice pa v.l.length c))] w' fun e w'' => e = .returned (.bool (knownB M v)) ∧ Below w'.heap.size w' w'') := fun w' hb => known_any (hW.below hb) v _ (hS.on hb) hk
  have HB0 := (show Hid _ from And.intro hb0 (blk_new w (.cells (vcs v (.slice pa v.l.length c)) 27)))
  have HE : Hid (∀ x, mayE M h v = x ↔ (if 0 ≤ h ∧ h < M.made.length then (if mayV v = true then (if knownB M v = true then 0 else 5) else 2) else 2) = x) := fun x => Iff.rfl
  generalize mayE M h v = E at HE ⊢
  generalize mayV v = mv at HM HE
  generalize knownB M v = kb at HK HE
  clear hS hk hW hb0
  obtain ⟨kind, n, s, l, r⟩ := v
  simp only [vcs] at HW0 HM HK HB0 ⊢
  by_cases h1' : h < 0
  · have e2 : Hid (E = 2) := (HE.out 2).2 (if_neg (by omega))
    clear HE
    go_enter Tryz.func181, Tryz.ntmps181
    go_wp2_with fail
    refine (there_W HW0.out).mono ?_
    rintro e _ ⟨rfl, rfl⟩
    go_wp2_with fail
    go_ret
    exact ⟨by rw [e2.out]; rfl, HB0.out.1⟩
  by_cases h2' : h ≥ (M.made.length : Int)
  · have e2 : Hid (E = 2) := (HE.out 2).2 (if_neg (by omega))
    clear HE
    go_enter Tryz.func181, Tryz.ntmps181
    go_wp2_with fail
    refine (there_W HW0.out).mono ?_
    rintro e _ ⟨rfl, rfl⟩
    go_wp2_with fail
    refine (Sides_W HW0.out).mono ?_
    rintro e _ ⟨rfl, rfl⟩
    go_wp2_with fail
    go_ret
    exact ⟨by rw [e2.out]; rfl, HB0.out.1⟩
  have HE2 : Hid (∀ x, E = x ↔ (if mv = true then (if kb = true then 0 else 5) else 2) = x) := fun x => by
    rw [HE.out x, if_pos ⟨by omega, by omega⟩]
  clear HE
  go_enter Tryz.func181, Tryz.ntmps181
  go_wp2_with fail
  refine (there_W HW0.out).mono ?_
  rintro e _ ⟨rfl, rfl⟩
  go_wp2_with fail
  refine (Sides_W HW0.out).mono ?_
  rintro e _ ⟨rfl, rfl⟩
  go_wp2_with fail
  refine Calls.mono (HM.out _ HB0.out.1) ?_
  rintro e w1 ⟨rfl, hb1⟩
  have b1 := below_blk hb1 HB0.out.2
  obtain ⟨⟨a0, a1, a2, a3, a4⟩, -⟩ := cells5 b1
  have HB1 := (show Hid (Below w.heap.size w w1) from HB0.out.1.trans (hb1.mono HB0.out.1.size))
  clear hb1 b1 HM
  cases mv with
  | false =>
    have e2 : Hid (E = 2) := (HE2.out 2).2 rfl
    clear HE2 HK
    go_wp2_with fail
    go_ret
    exact ⟨by rw [e2.out]; rfl, HB1.out⟩
  | true =>
    go_wp2_with fail
    refine Calls.mono (HK.out _ HB1.out) ?_
    rintro e w2 ⟨rfl, hb2⟩
    have HB2 := (show Hid (Below w.heap.size w w2) from HB1.out.trans (hb2.mono HB1.out.size))
    clear hb2 a0 a1 a2 a3 a4 HK
    cases kb with
    | false =>
      have e2 : Hid (E = 5) := (HE2.out 5).2 rfl
      clear HE2
      go_wp2_with fail
      go_ret
      exact ⟨by rw [e2.out]; rfl, HB2.out⟩
    | true =>
      have e2 : Hid (E = 0) := (HE2.out 0).2 rfl
      clear HE2
      go_wp2_with fail
      go_ret
      exact ⟨by rw [e2.out]; rfl, HB2.out⟩
set_option maxHeartbeats 2000000 in
set_option maxRecDepth 8000 in
theorem made_no (hW : IsW w p M F) {F1 : Nat → Prop} {h : Int} (t : Th) (hth : t.home = h) (hS : SlAt w F1 t.vl t.v.l) (hvs : ∃ a n c, t.vals = .slice a n c) (hc : t.code = .slice none 0 0) (hnm : t.names = .slice none 0 0) (hk : ∀ r ∈ refsV t.v, (Lit.int .i64 r).wf = true) (hno : mayE M h t.v ≠ 0) :
    Calls Tryz.prog 156 #[.pointer (some ⟨p, 0, none⟩), .agg (thc t)] w fun e w' => e = .returned (.tuple #[.int .i64 0, .int .i64 (mayE M h t.v)]) ∧ Below w.heap.size w w' := by
  obtain ⟨pa, c, hv⟩ := hS.form
  obtain ⟨ps, ns, cs, hvals⟩ := hvs
  have hb0 : Below w.heap.size w (w.alloc (.cells (thc t) 46)) := (Below.refl _ _).alloc (Nat.le_refl _) _
  have HMay := (show Hid _ from may_any (hW.below hb0) h t.v t.vl (hS.on hb0) hk)
  have HB0 := (show Hid _ from And.intro hb0 (blk_new w (.cells (thc t) 46)))
  have hE : (mayE M h t.v == 0) = false := by simpa using hno
  clear hS hW hb0 hk hno
  generalize mayE M h t.v = E at *
  obtain ⟨k, h', ⟨vk, vn, vstr, vlist, vr⟩, raw, vs, vals, n, l, tg, bi, s, fu, code, names⟩ := t
  simp only at hth hv hvals hc hnm
  subst hth hv hvals hc hnm
  simp only [thc, vcs] at HMay HB0 ⊢
  go_enter Tryz.func156, Tryz.ntmps156
  go_wp2_with fail
  refine Calls.mono HMay.out ?_
  rintro e w1 ⟨rfl, hb1⟩
  have HB1 := (show Hid (Below w.heap.size w w1) from HB0.out.1.trans (hb1.mono HB0.out.1.size))
  clear hb1 HB0 HMay
  go_wp2_with fail
  go_ret2
  exact ⟨rfl, HB1.out⟩
set_option maxRecDepth 8000 in
theorem Log_no (hW : IsW w p M F) {h : Int} (hno : mayE M h ⟨0, 0, ⟨#[]⟩, [], 0⟩ ≠ 0) : Calls Tryz.prog 84 #[.pointer (some ⟨p, 0, none⟩), .int .i64 h] w fun e w' => e = .returned (.tuple #[.int .i64 0, .int .i64 (mayE M h ⟨0, 0, ⟨#[]⟩, [], 0⟩)]) ∧ Below w.heap.size w w' := by
  have HM : Hid (Calls Tryz.prog 156 #[.pointer (some ⟨p, 0, none⟩), .agg (thc (lt 2 h 0 0 0 0 0 0 0 false))] w fun e w' => e = .returned (.tuple #[.int .i64 0, .int .i64 (mayE M h ⟨0, 0, ⟨#[]⟩, [], 0⟩)]) ∧ Below w.heap.size w w') :=
    made_no hW (lt 2 h 0 0 0 0 0 0 0 false) rfl (SlAt.nil w F none 0) ⟨_, _, _, rfl⟩ rfl rfl (fun r hr => by have h0 := (refsV0 0 0 (.inl ⟨rfl, rfl⟩)).1; exact absurd (h0 ▸ hr : r ∈ []) (by simp)) hno
  clear hW hno
  generalize mayE M h _ = E at *
  rw [thc_lt] at HM
  go_enter Tryz.func84, Tryz.ntmps84
  go_wp2_with fail
  refine Calls.mono HM.out ?_
  rintro e w2 ⟨rfl, hb⟩
  have HB := (show Hid _ from hb)
  clear hb HM
  go_wp2_with fail
  go_ret2
  exact ⟨rfl, HB.out⟩
set_option maxRecDepth 8000 in
theorem Tally_no (hW : IsW w p M F) {h : Int} (hno : mayE M h ⟨0, 0, ⟨#[]⟩, [], 0⟩ ≠ 0) : Calls Tryz.prog 85 #[.pointer (some ⟨p, 0, none⟩), .int .i64 h] w fun e w' => e = .returned (.tuple #[.int .i64 0, .int .i64 (mayE M h ⟨0, 0, ⟨#[]⟩, [], 0⟩)]) ∧ Below w.heap.size w w' := by
  have HM : Hid (Calls Tryz.prog 156 #[.pointer (some ⟨p, 0, none⟩), .agg (thc (lt 3 h 0 0 0 0 0 0 0 false))] w fun e w' => e = .returned (.tuple #[.int .i64 0, .int .i64 (mayE M h ⟨0, 0, ⟨#[]⟩, [], 0⟩)]) ∧ Below w.heap.size w w') :=
    made_no hW (lt 3 h 0 0 0 0 0 0 0 false) rfl (SlAt.nil w F none 0) ⟨_, _, _, rfl⟩ rfl rfl (fun r hr => by have h0 := (refsV0 0 0 (.inl ⟨rfl, rfl⟩)).1; exact absurd (h0 ▸ hr : r ∈ []) (by simp)) hno
  clear hW hno
  generalize mayE M h _ = E at *
  rw [thc_lt] at HM
  go_enter Tryz.func85, Tryz.ntmps85
  go_wp2_with fail
  refine Calls.mono HM.out ?_
  rintro e w2 ⟨rfl, hb⟩
  have HB := (show Hid _ from hb)
  clear hb HM
  go_wp2_with fail
  go_ret2
  exact ⟨rfl, HB.out⟩
set_option maxRecDepth 8000 in
theorem Queue_no (hW : IsW w p M F) {h : Int} (hno : mayE M h ⟨0, 0, ⟨#[]⟩, [], 0⟩ ≠ 0) : Calls Tryz.prog 66 #[.pointer (some ⟨p, 0, none⟩), .int .i64 h] w fun e w' => e = .returned (.tuple #[.int .i64 0, .int .i64 (mayE M h ⟨0, 0, ⟨#[]⟩, [], 0⟩)]) ∧ Below w.heap.size w w' := by
  have HM : Hid (Calls Tryz.prog 156 #[.pointer (some ⟨p, 0, none⟩), .agg (thc (lt 4 h 0 0 0 0 0 0 0 false))] w fun e w' => e = .returned (.tuple #[.int .i64 0, .int .i64 (mayE M h ⟨0, 0, ⟨#[]⟩, [], 0⟩)]) ∧ Below w.heap.size w w') :=
    made_no hW (lt 4 h 0 0 0 0 0 0 0 false) rfl (SlAt.nil w F none 0) ⟨_, _, _, rfl⟩ rfl rfl (fun r hr => by have h0 := (refsV0 0 0 (.inl ⟨rfl, rfl⟩)).1; exact absurd (h0 ▸ hr : r ∈ []) (by simp)) hno
  clear hW hno
  generalize mayE M h _ = E at *
  rw [thc_lt] at HM
  go_enter Tryz.func66, Tryz.ntmps66
  go_wp2_with fail
  refine Calls.mono HM.out ?_
  rintro e w2 ⟨rfl, hb⟩
  have HB := (show Hid _ from hb)
  clear hb HM
  go_wp2_with fail
  go_ret2
  exact ⟨rfl, HB.out⟩
set_option maxRecDepth 8000 in
theorem Cell_no (hW : IsW w p M F) {h : Int} {F1 : Nat → Prop} (v : Val) (raw : Value) (hS : SlAt w F1 raw v.l) (hk : ∀ r ∈ refsV v, (Lit.int .i64 r).wf = true) (hno : mayE M h v ≠ 0) : Calls Tryz.prog 64 #[.pointer (some ⟨p, 0, none⟩), .int .i64 h, .agg (vcs v raw)] w fun e w' => e = .returned (.tuple #[.int .i64 0, .int .i64 (mayE M h v)]) ∧ Below w.heap.size w w' := by
  obtain ⟨pa, c, rfl⟩ := hS.form
  have hb0 : Below w.heap.size w (w.alloc (.cells (vcs v (.slice pa v.l.length c)) 27)) := (Below.refl _ _).alloc (Nat.le_refl _) _
  have HM := (show Hid _ from And.intro hb0 (made_no (hW.below hb0) (cellT h v (.slice pa v.l.length c)) rfl (hS.on hb0) ⟨_, _, _, rfl⟩ rfl rfl hk hno))
  clear hW hS hk hb0 hno
  generalize hE : mayE M h v = E at HM ⊢
  clear hE
  obtain ⟨vk, vn, vstr, vl, vr⟩ := v
  simp only [thc, vcs] at HM ⊢
  go_enter Tryz.func64, Tryz.ntmps64
  go_wp2_with fail
  refine Calls.mono HM.out.2 ?_
  rintro e w2 ⟨rfl, hb⟩
  have HB := (show Hid (Below w.heap.size w w2) from HM.out.1.trans (hb.mono HM.out.1.size))
  clear hb HM
  go_wp2_with fail
  go_ret2
  exact ⟨rfl, HB.out⟩
set_option maxRecDepth 8000 in
theorem Promise_no (hW : IsW w p M F) {h : Int} (hno : mayE M h ⟨0, 0, ⟨#[]⟩, [], 0⟩ ≠ 0) : Calls Tryz.prog 86 #[.pointer (some ⟨p, 0, none⟩), .int .i64 h] w fun e w' => e = .returned (.tuple #[.int .i64 0, .int .i64 0, .int .i64 (mayE M h ⟨0, 0, ⟨#[]⟩, [], 0⟩)]) ∧ Below w.heap.size w w' := by
  have hmay := may_any hW h (⟨0, 0, ⟨#[]⟩, [], 0⟩ : Val) (.slice none 0 0) (SlAt.nil w F none 0) (fun r hr => by have h0 := (refsV0 0 0 (.inl ⟨rfl, rfl⟩)).1; exact absurd (h0 ▸ hr : r ∈ []) (by simp))
  have HY := (show Hid _ from hmay)
  have hE : (mayE M h ⟨0, 0, ⟨#[]⟩, [], 0⟩ == 0) = false := by simpa using hno
  clear hmay hW hno
  generalize mayE M h _ = E at *
  simp only [vcs] at HY
  go_enter Tryz.func86, Tryz.ntmps86
  go_wp2_with fail
  refine Calls.mono HY.out ?_
  rintro e w1 ⟨rfl, hb1⟩
  have HB1 := (show Hid (Below w.heap.size w w1) from hb1)
  clear hb1 HY
  go_wp2_with fail
  go_returns
  exact ⟨rfl, HB1.out⟩
set_option maxRecDepth 8000 in
theorem Promise_full (hW : IsW w p M F) {h : Int} (hh : 0 ≤ h ∧ h < M.made.length) (hroom : ¬ M.made.getD h.toNat 0 + 2 ≤ 512) (hm : M.made.getD h.toNat 0 ≤ 512) :
    Calls Tryz.prog 86 #[.pointer (some ⟨p, 0, none⟩), .int .i64 h] w fun e w' => e = .returned (.tuple #[.int .i64 0, .int .i64 0, .int .i64 8]) ∧ Below w.heap.size w w' := by
  have hmay := may_G hW hh (⟨0, 0, ⟨#[]⟩, [], 0⟩ : Val) (.slice none 0 0) (SlAt.nil w F none 0) (refsV0 0 0 (.inl ⟨rfl, rfl⟩)).2 (fun r hr => by rw [(refsV0 0 0 (.inl ⟨rfl, rfl⟩)).1] at hr; cases hr)
  have HY := (show Hid _ from hmay)
  have HW : Hid (IsW w p M F) := hW
  have HS : Hid (sideB M h = true) := sideB_iff.2 hh
  have HR : Hid (¬ M.made.getD h.toNat 0 + 2 ≤ 512 ∧ M.made.getD h.toNat 0 ≤ 512) := ⟨hroom, hm⟩
  clear hmay hW hh hroom hm
  simp only [vcs] at HY
  go_enter Tryz.func86, Tryz.ntmps86
  go_wp2_with fail
  refine Calls.mono HY.out ?_
  rintro e w1 ⟨rfl, hb1⟩
  have HB1 := (show Hid (Below w.heap.size w w1) from hb1)
  clear hb1 HY
  go_wp2_with fail
  refine (Made_W (HW.out.below HB1.out) h).mono ?_
  rw [HS.out, if_pos rfl]
  rintro e _ ⟨rfl, rfl⟩
  obtain ⟨n, hn⟩ : ∃ n, n = M.made.getD h.toNat 0 := ⟨_, rfl⟩
  rw [← hn]
  have hn2 : wrap64 (n + 2) = n + 2 := by have := HR.out; rw [← hn] at this; unfold wrap64; omega
  have hn3 : n + 2 > 512 := by have := HR.out; rw [← hn] at this; omega
  clear hn HR
  go_wp2_with fail
  go_returns
  exact ⟨rfl, HB1.out⟩
end Go.Proofs.YthaliljaglldjaaGreat
/- Two worlds of the same data: what is made in both. -/
namespace Go.Proofs.YthaliljaglldjaaGreat
open Go.RowKit Go.ChangeMaps Go.MapKept
structure Alike (N1 N2 : WM) : Prop where
  par : N2.parents = N1.parents
  last : N2.last = N1.last
  made : N2.made = N1.made
  things : LikeT N1.things N2.things
theorem LikeT.two {l l1 l' l2 : List (Int × Th)} (h : LikeT l l') (h1 : LikeT l l1) (h2 : LikeT l' l2) {i : Nat} {x : Int × Th} (hx : l1[i]? = some x) : ∃ vl vals, l2[i]? = some (x.1, { x.2 with vl := vl, vals := vals }) := by
  have hi : i < l.length := by have := (List.getElem?_eq_some_iff.1 hx).1; have := h1.1; omega
  obtain ⟨vl, vals, e1⟩ := h1.2 i _ (List.getElem?_eq_getElem hi)
  rw [hx] at e1
  cases e1
  obtain ⟨vl', vals', e2⟩ := h.2 i _ (List.getElem?_eq_getElem hi)
  obtain ⟨vl2, vals2, e3⟩ := h2.2 i _ e2
  exact ⟨vl2, vals2, e3⟩
def ThLike (t t' : Th) : Prop := ∃ vl vals, t' = { t with vl := vl, vals := vals }
theorem LikeT.nil : LikeT [] [] := ⟨rfl, fun i x h => by simp at h⟩
theorem LikeT.snoc1 {l l' : List (Int × Th)} (h : LikeT l l') {r : Int} {t t' : Th} (ht : ThLike t t') : LikeT (l ++ [(r, t)]) (l' ++ [(r, t')]) := by
  obtain ⟨h1, h2⟩ := h
  refine ⟨by simp [h1], fun i x hx => ?_⟩
  by_cases hi : i < l.length
  · rw [List.getElem?_append_left hi] at hx
    obtain ⟨vl, vals, e⟩ := h2 i x hx
    exact ⟨vl, vals, by rw [List.getElem?_append_left (by omega)]; exact e⟩
  · have hlt := (List.getElem?_eq_some_iff.1 hx).1
    simp at hlt
    have e : i = l.length := by omega
    subst e
    simp at hx
    subst hx
    obtain ⟨vl, vals, rfl⟩ := ht
    exact ⟨vl, vals, by rw [← h1]; simp⟩
theorem lookup_like : ∀ {l l' : List (Int × Th)}, LikeT l l' → ∀ r, (l.lookup r = none → l'.lookup r = none) ∧ ∀ t, l.lookup r = some t → ∃ t', l'.lookup r = some t' ∧ ThLike t t'
  | [], l', h, r => by
    have : l' = [] := List.length_eq_zero_iff.1 h.1
    subst this
    exact ⟨fun _ => rfl, fun t h => by cases h⟩
  | (k, u) :: l, l', h, r => by
    obtain ⟨vl, vals, e⟩ := h.2 0 (k, u) rfl
    cases l' with
    | nil => simp at e
    | cons y l' =>
      simp at e
      subst e
      have h' : LikeT l l' := ⟨by have := h.1; simpa using this, fun i x hx => by
        have := h.2 (i + 1) x (by simpa using hx)
        simpa using this⟩
      by_cases hr : r = k
      · subst hr
        exact ⟨fun h => by simp at h, fun t ht => ⟨{ u with vl := vl, vals := vals }, by simp, by simp at ht; subst ht; exact ⟨_, _, rfl⟩⟩⟩
      · have hb : (r == k) = false := by simpa using hr
        rw [List.lookup_cons, List.lookup_cons, hb]
        exact lookup_like h' r
theorem Alike.at {M N : WM} (h : Alike M N) (r : Int) : (N.at r).isSome = (M.at r).isSome := by
  obtain ⟨h1, h2⟩ := lookup_like h.things r
  cases hm : M.at r with
  | none =>
    have : N.at r = none := h1 hm
    rw [this]
  | some t =>
    obtain ⟨t', ht, -⟩ := h2 t hm
    have : N.at r = some t' := ht
    rw [this]
    rfl
theorem Alike.known {M N : WM} (h : Alike M N) (v : Val) : knownB N v = knownB M v := by
  unfold knownB
  congr 1
  funext r
  exact h.at r
theorem Alike.mayE {M N : WM} (h : Alike M N) (a : Int) (v : Val) : mayE N a v = mayE M a v := by
  unfold Go.Proofs.YthaliljaglldjaaGreat.mayE
  rw [h.known, h.made]
theorem Alike.add {M N : WM} (h : Alike M N) {t t' : Th} (ht : ThLike t t') : Alike (M.add t) (N.add t') where
  par := h.par
  last := by show N.last + 1 = M.last + 1; rw [h.last]
  made := by
    obtain ⟨vl, vals, rfl⟩ := ht
    show (if t.kind = 14 then N.made else N.made.set t.home.toNat (N.made.getD t.home.toNat 0 + 1)) = (if t.kind = 14 then M.made else M.made.set t.home.toNat (M.made.getD t.home.toNat 0 + 1))
    rw [h.made]
  things := by
    show LikeT (M.things ++ [(M.last + 1, t)]) (N.things ++ [(N.last + 1, t')])
    rw [h.last]
    exact h.things.snoc1 ht
theorem LikeT.mem' {l l' : List (Int × Th)} (h : LikeT l l') {y : Int × Th} (hy : y ∈ l') : ∃ x ∈ l, y.1 = x.1 ∧ ThLike x.2 y.2 := by
  obtain ⟨i, hi⟩ := List.mem_iff_getElem?.1 hy
  have hlt := (List.getElem?_eq_some_iff.1 hi).1
  have hlt' : i < l.length := by rw [← h.1]; exact hlt
  obtain ⟨vl, vals, e⟩ := h.2 i _ (List.getElem?_eq_getElem hlt')
  rw [hi] at e
  injection e with e
  exact ⟨l[i], List.getElem_mem hlt', by rw [e], vl, vals, by rw [e]⟩
end Go.Proofs.YthaliljaglldjaaGreat
/- Copy: the clones of a world's rows; the region that lays the new world. -/
namespace Go.Proofs.YthaliljaglldjaaGreat
open Go.RowKit Go.ChangeMaps Go.MapKept
theorem append_all {w : World} {ops : Array Oper} {rest : List Oper} {o : Oper} {a : Act} {Q : Exit → Act → World → Prop} (hgd : o.guard = none) (s x : Operand) (t e : TypeId) (z : Value) (bytes : Nat)
    (ho : o.op = .call { callee := .builtin .append, args := #[s, x], argTypes := #[t, t] }) (ht : Tryz.prog.underlying t = some (.slice e)) (hinfo : (Tryz.prog.info? e).map (fun i => (i.zero, i.size, i.bytes)) = some (some z, 1, bytes)) (hzs : z.cells.size = 1) (hb : bytes ≤ 64)
    (A : Addr) (c n : Nat) (vs : List Value) (hs : a.eval s = .slice (some ⟨w.heap.size, 0, none⟩) 0 0) (hn : Hid (n = vs.length)) (hx : a.eval x = .slice (some A) n c) (hc : Hid (∀ (j : Nat) (v : Value), vs[j]? = some v → w.cell? (A.add j) = some v)) (h1 : Hid (∀ v ∈ vs, v.oneCell' = true)) (hl : Hid (vs.length ≤ 16))
    (h : ∀ v' w', Hid (w'.ownsRow w.heap.size e 1 v' n vs) → Hid (Below w.heap.size w w') → wpList Tryz.prog ops Q rest (a.put o.dst v') w') : wpList Tryz.prog ops Q (o :: rest) a (w.alloc (.cells #[] e)) := by
  obtain ⟨i, hi, hz, h2, h3⟩ := info_parts hinfo
  have hl := hl.out
  have hn := hn.out
  have hb2 : vs.length * bytes ≤ 16 * 64 := Nat.mul_le_mul hl hb
  refine wpList_append_own _ hgd s x t ho w.heap.size e i z 1 bytes ht hi hz h2 h3 hzs (by decide) (.slice (some ⟨w.heap.size, 0, none⟩) 0 0) 0 [] hs
    ⟨by simp, .inr ⟨w.heap.size, 0, #[], rfl, Nat.le_refl _, blk_new _ _, by omega, by unfold maxLen; omega, by simp, by simp⟩⟩ A n c vs hx (by omega)
    (fun j u hu => cell_al (hc.out j u hu) _) h1.out (by unfold maxLen; omega) (by rw [hn, Nat.zero_add]; omega) (by simp) ?_
  intro v' w' r1 r2 _
  have hg : w.grownBy w' (Value.slice (some ⟨w.heap.size, 0, none⟩) 0 0).ownBlock := (World.grownBy_alloc w _ _).trans r2
  refine h v' w' (by show World.ownsRow _ _ _ _ _ _ _; simpa using r1) ⟨hg.os, hg.tape, hg.output, hg.size, fun k hk => hg.block k (by omega) (fun e => ?_)⟩
  simp [Value.ownBlock] at e
  omega
set_option maxRecDepth 8000 in
theorem cloneInt_W (w : World) (b c n : Nat) (vs : List Value) (hn : n = vs.length) (hx : ∀ (j : Nat) (v : Value), vs[j]? = some v → w.cell? ⟨b, j, none⟩ = some v) (h1 : ∀ v ∈ vs, v.oneCell' = true) (hl : vs.length ≤ 16) :
    Calls Tryz.prog 111 #[.slice (some ⟨b, 0, none⟩) n c] w fun e w' => ∃ v, e = .returned v ∧ w'.ownsRow w.heap.size 3 1 v n vs ∧ Below w.heap.size w w' := by
  have Hx : Hid (∀ (j : Nat) (v : Value), vs[j]? = some v → w.cell? ((⟨b, 0, none⟩ : Addr).add j) = some v) := fun j v h => by
    have hadd : (⟨b, 0, none⟩ : Addr).add j = ⟨b, j, none⟩ := by unfold Addr.add; split <;> simp_all
    rw [hadd]
    exact hx j v h
  have Hn := (show Hid (n = vs.length) from hn)
  have H1 := (show Hid _ from h1)
  have Hl := (show Hid (vs.length ≤ 16) from hl)
  clear hn hx h1 hl
  go_enter Tryz.func111, Tryz.ntmps111
  go_wp2_with (at_builtin; refine append_all rfl _ _ 64 3 (.int .i64 0) 8 rfl Tryz.underlying64 infoInt rfl (by decide) ⟨b, 0, none⟩ c n vs rfl Hn rfl Hx H1 Hl ?_; intro v w1 HV HB1)
  go_ret
  exact ⟨v, rfl, HV.out, HB1.out⟩
theorem cloneSide_W {w : World} {p : Nat} {M : WM} {F : Nat → Prop} {pa : Option Addr} {pc cg cc mg mc tb fb fn : Nat} {bl : Int → Nat} (hV : WV w p M F pa pc cg cc mg mc tb fb fn bl) (w0 w1 : World) (h0 : w0.heap.size ≤ w1.heap.size) (hb : Below w.heap.size w w1) :
    Calls Tryz.prog 72 #[.slice pa M.parents.length pc] w1 fun e w' => ∃ v, e = .returned v ∧ NSides w0 M.parents v w' ∧ Below w1.heap.size w1 w' := by
  have hs := hV.ok.sides
  cases pa with
  | none =>
    have hp : M.parents = [] := by
      match hM : M.parents with
      | [] => rfl
      | x :: l =>
        obtain ⟨b, o, h, -⟩ := hV.pars 0 x (by rw [hM]; rfl)
        cases h
    rw [hp]
    refine (cloneSide_nil w1 _ pc).mono ?_
    rintro e _ ⟨rfl, rfl⟩
    exact ⟨_, rfl, ⟨none, 0, rfl, fun j x hx => by simp at hx⟩, Below.refl _ _⟩
  | some A =>
    refine (cloneSide_at w1 A pc M.parents (fun j x hx => ?_) hs).mono ?_
    · obtain ⟨b, o, h1, h2, -, h4⟩ := hV.pars j x hx
      cases h1
      have hadd : (⟨b, o, none⟩ : Addr).add j = ⟨b, o + j, none⟩ := by unfold Addr.add; split <;> simp_all
      rw [hadd]
      exact (hb.cell (p := ⟨b, o + j, none⟩) (hV.lt b h2)).trans h4
    · rintro e w2 ⟨v, rfl, hv, hb2⟩
      exact ⟨v, rfl, nsides_of hv h0, hb2⟩
def CRow (w0 : World) (e : TypeId) (vs : List Value) (v : Value) (w : World) : Prop :=
  ∃ g cap, v = .slice (some ⟨g, 0, none⟩) vs.length cap ∧ w0.heap.size ≤ g ∧ g < w.heap.size ∧ Row w g e cap vs
theorem CRow.move {w0 : World} {e : TypeId} {vs : List Value} {v : Value} {w w' : World} (h : CRow w0 e vs v w) (hb : Below w.heap.size w w') : CRow w0 e vs v w' := by
  obtain ⟨g, cap, h1, h2, h3, h4⟩ := h
  exact ⟨g, cap, h1, h2, Nat.lt_of_lt_of_le h3 hb.size, h4.of_block (hb.block g h3)⟩
theorem CRow.of {w0 w1 w2 : World} {e : TypeId} {vs : List Value} {v : Value} (h0 : w0.heap.size ≤ w1.heap.size) (hn : 0 < vs.length) (hv : w2.ownsRow w1.heap.size e 1 v vs.length vs) : CRow w0 e vs v w2 := by
  obtain ⟨-, ⟨rfl, h⟩ | ⟨g, cap, cur, rfl, h1, h2, h3, h4, h5, h6⟩⟩ := hv
  · omega
  · refine ⟨g, cap, rfl, by omega, blk_lt h2, cur, h2, by omega, h3, h4, fun j x hx => ?_⟩
    have hj := (List.getElem?_eq_some_iff.1 hx).1
    have e1 : (cur.toList.take (vs.length * 1))[j]? = some x := by rw [h6]; exact hx
    rw [List.getElem?_take, if_pos (by omega)] at e1
    simpa using e1
end Go.Proofs.YthaliljaglldjaaGreat
/- Copy: the new world as far as it has come. -/
namespace Go.Proofs.YthaliljaglldjaaGreat
open Go.RowKit Go.ChangeMaps Go.MapKept
section
variable {w0 w w' : World} {q : Nat} {M : WM} {pa : Option Addr} {pc g1 cap1 b2 b3 g5 cap5 : Nat} {vs : List Int} {bl : Int → Nat}
end
end Go.Proofs.YthaliljaglldjaaGreat
