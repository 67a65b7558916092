/- A part of the proof, several texts in one: R2L, R8A, R7F1, R7F2, R7F3, R7F4, R7F10, R7F11. -/
import Derived.Test.YthaliljaglldjaaGreatmBD
import Derived.Test.YthaliljaglldjaaGreatmAN
import Derived.Test.YthaliljaglldjaaGreatmAP
import Derived.Test.YthaliljaglldjaaGreatmBB
import Derived.Test.YthaliljaglldjaaGreatmAO
import Derived.Test.YthaliljaglldjaaGreatmAC
/- posternref02's look, Parts, May: at any value. -/
namespace Go.Proofs.YthaliljaglldjaaGreat
open Go.RowKit Go.ChangeMaps Go.MapKept
def LookNo (n : Nat) : Prop := ∀ (p : Nat) (v : Val) (raw : Value) (w : World) (F : Nat → Prop), n ≤ 16 → p ≤ 512 → v.wf → SlAt w F raw v.l → takeV n p v = none →
  Calls Tryz.prog 270 #[.agg (vcs v raw), .int .i64 p, .int .i64 n] w fun e w' => e = .returned (.int .i64 (-1)) ∧ Below w.heap.size w w'
theorem len_pos2 {l : List Val} (h : ¬ l.length = 0) : (l.length : Int) > 0 := by omega
set_option maxHeartbeats 4000000 in
set_option maxRecDepth 8000 in
set_option linter.unusedSimpArgs false in
theorem look_no0 (w : World) (P : Nat) (D nn : Int) (s : ByteArray) (l : List Val) (r : Int) (pa : Option Addr) (c : Nat) (hp : ¬ (P : Int) < 1) (h : chk nn s r l.length = false) :
    Calls Tryz.prog 270 #[.agg #[.int .u8 0, .int .i64 nn, .string s, .slice pa l.length c, .int .i64 r], .int .i64 P, .int .i64 D] w fun e w' => e = .returned (.int .i64 (-1)) ∧ Below w.heap.size w w' := by
  by_cases hn : nn = 0
  rotate_left
  · have hb : (nn == 0) = false := by simpa using hn
    clear h
    go_enter Tryz.func270, Tryz.ntmps270
    go_wp2_with fail
    go_ret
    exact ⟨rfl, (Below.refl _ w).alloc (Nat.le_refl _) _⟩
  subst hn
  by_cases hs : s = ⟨#[]⟩
  rotate_left
  · have hb : ¬ s.toList = [] := toList_ne hs
    clear h
    go_enter Tryz.func270, Tryz.ntmps270
    go_wp2_with fail
    go_ret
    exact ⟨rfl, (Below.refl _ w).alloc (Nat.le_refl _) _⟩
  subst hs
  by_cases hl : l.length = 0
  rotate_left
  · have hb : (l.length : Int) > 0 := len_pos2 hl
    clear h
    go_enter Tryz.func270, Tryz.ntmps270
    go_wp2_with fail
    go_ret
    exact ⟨rfl, (Below.refl _ w).alloc (Nat.le_refl _) _⟩
  have hl2 : ¬ (l.length : Int) > 0 := by omega
  by_cases hr : r = 0
  rotate_left
  · have hb : (r == 0) = false := by simpa using hr
    clear h
    go_enter Tryz.func270, Tryz.ntmps270
    go_wp2_with fail
    go_ret
    exact ⟨rfl, (Below.refl _ w).alloc (Nat.le_refl _) _⟩
  subst hr
  exact absurd h (by simp [chk, nil_eq, hl])
set_option maxHeartbeats 4000000 in
set_option maxRecDepth 8000 in
set_option linter.unusedSimpArgs false in
theorem look_no1 (w : World) (P : Nat) (D nn : Int) (s : ByteArray) (l : List Val) (r : Int) (pa : Option Addr) (c : Nat) (hp : ¬ (P : Int) < 1) (h : chk 0 s r l.length = false) :
    Calls Tryz.prog 270 #[.agg #[.int .u8 1, .int .i64 nn, .string s, .slice pa l.length c, .int .i64 r], .int .i64 P, .int .i64 D] w fun e w' => e = .returned (.int .i64 (-1)) ∧ Below w.heap.size w w' := by
  by_cases hs : s = ⟨#[]⟩
  rotate_left
  · have hb : ¬ s.toList = [] := toList_ne hs
    clear h
    go_enter Tryz.func270, Tryz.ntmps270
    go_wp2_with fail
    go_ret
    exact ⟨rfl, (Below.refl _ w).alloc (Nat.le_refl _) _⟩
  subst hs
  by_cases hl : l.length = 0
  rotate_left
  · have hb : (l.length : Int) > 0 := len_pos2 hl
    clear h
    go_enter Tryz.func270, Tryz.ntmps270
    go_wp2_with fail
    go_ret
    exact ⟨rfl, (Below.refl _ w).alloc (Nat.le_refl _) _⟩
  have hl2 : ¬ (l.length : Int) > 0 := by omega
  by_cases hr : r = 0
  rotate_left
  · have hb : (r == 0) = false := by simpa using hr
    clear h
    go_enter Tryz.func270, Tryz.ntmps270
    go_wp2_with fail
    go_ret
    exact ⟨rfl, (Below.refl _ w).alloc (Nat.le_refl _) _⟩
  subst hr
  exact absurd h (by simp [chk, nil_eq, hl])
set_option maxHeartbeats 4000000 in
set_option maxRecDepth 8000 in
set_option linter.unusedSimpArgs false in
theorem look_no2 (w : World) (P : Nat) (D nn : Int) (s : ByteArray) (l : List Val) (r : Int) (pa : Option Addr) (c : Nat) (hp : ¬ (P : Int) < 1) (h : s.size > 256 ∨ chk nn ⟨#[]⟩ r l.length = false) :
    Calls Tryz.prog 270 #[.agg #[.int .u8 2, .int .i64 nn, .string s, .slice pa l.length c, .int .i64 r], .int .i64 P, .int .i64 D] w fun e w' => e = .returned (.int .i64 (-1)) ∧ Below w.heap.size w w' := by
  by_cases hn : nn = 0
  rotate_left
  · have hb : (nn == 0) = false := by simpa using hn
    clear h
    go_enter Tryz.func270, Tryz.ntmps270
    go_wp2_with fail
    go_ret
    exact ⟨rfl, (Below.refl _ w).alloc (Nat.le_refl _) _⟩
  subst hn
  by_cases hl : l.length = 0
  rotate_left
  · have hb : (l.length : Int) > 0 := len_pos2 hl
    clear h
    go_enter Tryz.func270, Tryz.ntmps270
    go_wp2_with fail
    go_ret
    exact ⟨rfl, (Below.refl _ w).alloc (Nat.le_refl _) _⟩
  have hl2 : ¬ (l.length : Int) > 0 := by omega
  by_cases hr : r = 0
  rotate_left
  · have hb : (r == 0) = false := by simpa using hr
    clear h
    go_enter Tryz.func270, Tryz.ntmps270
    go_wp2_with fail
    go_ret
    exact ⟨rfl, (Below.refl _ w).alloc (Nat.le_refl _) _⟩
  subst hr
  rcases h with h | h
  · have hz : (s.size : Int) > 256 := by omega
    clear h
    go_enter Tryz.func270, Tryz.ntmps270
    go_wp2_with fail
    go_ret
    exact ⟨rfl, (Below.refl _ w).alloc (Nat.le_refl _) _⟩
  · exact absurd h (by simp [chk, nil_eq, hl])
set_option maxHeartbeats 4000000 in
set_option maxRecDepth 8000 in
set_option linter.unusedSimpArgs false in
theorem look_no4 (w : World) (P : Nat) (D nn : Int) (s : ByteArray) (l : List Val) (r : Int) (pa : Option Addr) (c : Nat) (hp : ¬ (P : Int) < 1) (h : r < 1 ∨ chk nn s 0 l.length = false) :
    Calls Tryz.prog 270 #[.agg #[.int .u8 4, .int .i64 nn, .string s, .slice pa l.length c, .int .i64 r], .int .i64 P, .int .i64 D] w fun e w' => e = .returned (.int .i64 (-1)) ∧ Below w.heap.size w w' := by
  by_cases hn : nn = 0
  rotate_left
  · have hb : (nn == 0) = false := by simpa using hn
    clear h
    go_enter Tryz.func270, Tryz.ntmps270
    go_wp2_with fail
    go_ret
    exact ⟨rfl, (Below.refl _ w).alloc (Nat.le_refl _) _⟩
  subst hn
  by_cases hs : s = ⟨#[]⟩
  rotate_left
  · have hb : ¬ s.toList = [] := toList_ne hs
    clear h
    go_enter Tryz.func270, Tryz.ntmps270
    go_wp2_with fail
    go_ret
    exact ⟨rfl, (Below.refl _ w).alloc (Nat.le_refl _) _⟩
  subst hs
  by_cases hl : l.length = 0
  rotate_left
  · have hb : (l.length : Int) > 0 := len_pos2 hl
    clear h
    go_enter Tryz.func270, Tryz.ntmps270
    go_wp2_with fail
    go_ret
    exact ⟨rfl, (Below.refl _ w).alloc (Nat.le_refl _) _⟩
  have hl2 : ¬ (l.length : Int) > 0 := by omega
  rcases h with h | h
  · by_cases hr : r = 0
    · subst hr
      go_enter Tryz.func270, Tryz.ntmps270
      go_wp2_with fail
      go_ret
      exact ⟨rfl, (Below.refl _ w).alloc (Nat.le_refl _) _⟩
    · have hb : (r == 0) = false := by simpa using hr
      go_enter Tryz.func270, Tryz.ntmps270
      go_wp2_with fail
      go_ret
      exact ⟨rfl, (Below.refl _ w).alloc (Nat.le_refl _) _⟩
  · exact absurd h (by simp [chk, nil_eq, hl])
set_option maxHeartbeats 4000000 in
set_option maxRecDepth 8000 in
set_option linter.unusedSimpArgs false in
theorem look_no3 (w : World) (P : Nat) (D nn : Int) (s : ByteArray) (l : List Val) (r : Int) (pa : Option Addr) (c : Nat) (hp : ¬ (P : Int) < 1) (h : chk nn s r 0 = false ∨ D < 1 ∨ (l.length : Int) ≥ (P : Int)) :
    Calls Tryz.prog 270 #[.agg #[.int .u8 3, .int .i64 nn, .string s, .slice pa l.length c, .int .i64 r], .int .i64 P, .int .i64 D] w fun e w' => e = .returned (.int .i64 (-1)) ∧ Below w.heap.size w w' := by
  by_cases hn : nn = 0
  rotate_left
  · have hb : (nn == 0) = false := by simpa using hn
    clear h
    go_enter Tryz.func270, Tryz.ntmps270
    go_wp2_with fail
    go_ret
    exact ⟨rfl, (Below.refl _ w).alloc (Nat.le_refl _) _⟩
  subst hn
  by_cases hs : s = ⟨#[]⟩
  rotate_left
  · have hb : ¬ s.toList = [] := toList_ne hs
    clear h
    go_enter Tryz.func270, Tryz.ntmps270
    go_wp2_with fail
    go_ret
    exact ⟨rfl, (Below.refl _ w).alloc (Nat.le_refl _) _⟩
  subst hs
  by_cases hr : r = 0
  rotate_left
  · have hb : (r == 0) = false := by simpa using hr
    clear h
    go_enter Tryz.func270, Tryz.ntmps270
    go_wp2_with fail
    go_ret
    exact ⟨rfl, (Below.refl _ w).alloc (Nat.le_refl _) _⟩
  subst hr
  rcases h with h | h
  · exact absurd h (by simp [chk, nil_eq])
  · by_cases hD : D < 1
    · go_enter Tryz.func270, Tryz.ntmps270
      go_wp2_with fail
      go_ret
      exact ⟨rfl, (Below.refl _ w).alloc (Nat.le_refl _) _⟩
    · have hL : (l.length : Int) ≥ (P : Int) := h.resolve_left hD
      clear h
      go_enter Tryz.func270, Tryz.ntmps270
      go_wp2_with fail
      go_ret
      exact ⟨rfl, (Below.refl _ w).alloc (Nat.le_refl _) _⟩
set_option maxHeartbeats 4000000 in
set_option maxRecDepth 8000 in
set_option linter.unusedSimpArgs false in
theorem look_no5 (w : World) (P : Nat) (D nn : Int) (s : ByteArray) (l : List Val) (r : Int) (pa : Option Addr) (c : Nat) (k : Int) (e0 : ¬ k = 0) (e1 : ¬ k = 1) (e2 : ¬ k = 2) (e3 : ¬ k = 3) (e4 : ¬ k = 4) (hk : 0 ≤ k) (hp : ¬ (P : Int) < 1) (_h : True) :
    Calls Tryz.prog 270 #[.agg #[.int .u8 k, .int .i64 nn, .string s, .slice pa l.length c, .int .i64 r], .int .i64 P, .int .i64 D] w fun e w' => e = .returned (.int .i64 (-1)) ∧ Below w.heap.size w w' := by
  have f0 : (k == 0) = false := by simpa using e0
  have f1 : (k == 1) = false := by simpa using e1
  have f2 : (k == 2) = false := by simpa using e2
  have f3 : (k == 3) = false := by simpa using e3
  have f4 : (k == 4) = false := by simpa using e4
  have hk4 : k > 4 := by omega
  have g4 : (k != 4) = true := by simpa using e4
  by_cases hn : nn = 0
  rotate_left
  · have hb : (nn == 0) = false := by simpa using hn
    clear _h
    go_enter Tryz.func270, Tryz.ntmps270
    go_wp2_with fail
    go_ret
    exact ⟨rfl, (Below.refl _ w).alloc (Nat.le_refl _) _⟩
  subst hn
  by_cases hs : s = ⟨#[]⟩
  rotate_left
  · have hb : ¬ s.toList = [] := toList_ne hs
    clear _h
    go_enter Tryz.func270, Tryz.ntmps270
    go_wp2_with fail
    go_ret
    exact ⟨rfl, (Below.refl _ w).alloc (Nat.le_refl _) _⟩
  subst hs
  by_cases hl : l.length = 0
  rotate_left
  · have hb : (l.length : Int) > 0 := len_pos2 hl
    clear _h
    go_enter Tryz.func270, Tryz.ntmps270
    go_wp2_with fail
    go_ret
    exact ⟨rfl, (Below.refl _ w).alloc (Nat.le_refl _) _⟩
  have hl2 : ¬ (l.length : Int) > 0 := by omega
  by_cases hr : r = 0
  rotate_left
  · have hb : (r == 0) = false := by simpa using hr
    clear _h
    go_enter Tryz.func270, Tryz.ntmps270
    go_wp2_with fail
    go_ret
    exact ⟨rfl, (Below.refl _ w).alloc (Nat.le_refl _) _⟩
  subst hr
  clear _h
  go_enter Tryz.func270, Tryz.ntmps270
  go_wp2_with fail
  go_ret
  exact ⟨rfl, (Below.refl _ w).alloc (Nat.le_refl _) _⟩
attribute [local go_sem ↓] execOp_ldV93 in
set_option maxHeartbeats 4000000 in
set_option maxRecDepth 8000 in
theorem lookNo_list (m : Nat) (ih : LookNo m) (w : World) (F : Nat → Prop) (P p' D : Nat) (l : List Val) (pa : Option Addr) (c : Nat) (hP : P = p' + 1) (hD : D = m + 1) (hn : D ≤ 16) (hp : P ≤ 512) (hlen : ¬ l.length > p') (hwf : ∀ x ∈ l, x.wf) (hS : SlAt w F (.slice pa l.length c) l) (hL : takeL m p' l = none) :
    Calls Tryz.prog 270 #[.agg #[.int .u8 3, .int .i64 0, .string ⟨#[]⟩, .slice pa l.length c, .int .i64 0], .int .i64 P, .int .i64 D] w fun e w' => e = .returned (.int .i64 (-1)) ∧ Below w.heap.size w w' := by
  have HS := (show Hid (SlAt w F (.slice pa l.length c) l) from hS)
  have HL := (show Hid (takeL m p' l = none) from hL)
  have HF := (show Hid (∀ x ∈ l, x.wf) from hwf)
  have IH := (show Hid (LookNo m) from ih)
  have hp1 : ¬ ((P : Int) < 1) := by omega
  have h2 : ¬ ((D : Int) < 1) := by omega
  have h4 : ¬ ((l.length : Int) ≥ (P : Int)) := by omega
  have HA : Hid (P ≤ 512 ∧ D ≤ 16 ∧ P = p' + 1 ∧ D = m + 1) := ⟨hp, hn, hP, hD⟩
  clear hS hL ih hn hlen hP hD hp hwf
  go_enter Tryz.func270, Tryz.ntmps270
  go_wp2_with fail
  have HB0 : Hid (Below w.heap.size w (w.alloc (.cells #[.int .u8 3, .int .i64 0, .string ⟨#[]⟩, .slice pa l.length c, .int .i64 0] 27)) ∧ (w.alloc (.cells #[.int .u8 3, .int .i64 0, .string ⟨#[]⟩, .slice pa l.length c, .int .i64 0] 27)).heap[w.heap.size]? = some (.cells #[.int .u8 3, .int .i64 0, .string ⟨#[]⟩, .slice pa l.length c, .int .i64 0] 27 (0, 0))) := ⟨(Below.refl _ w).alloc (Nat.le_refl _) _, blk_new _ _⟩
  go_loopw [7, 8] (fun va vi wr => ∃ (k qk : Nat) (a : Int), va = .int .i64 a ∧ vi = .int .i64 k ∧ k ≤ l.length ∧ Hid (a = (P : Int) - qk ∧ takeL m p' (l.take k) = some qk ∧ Below w.heap.size w wr ∧ wr.heap[w.heap.size]? = some (.cells #[.int .u8 3, .int .i64 0, .string ⟨#[]⟩, .slice pa l.length c, .int .i64 0] 27 (0, 0)))) (fun _ vi _ => l.length - (intOf vi).toNat)
  case atStart => exact ⟨0, p', 1, rfl, rfl, Nat.zero_le _, by have := HA.out; omega, rfl, HB0.out⟩
  case round =>
    obtain ⟨k, qk, a, rfl, rfl, hk, HI⟩ := hrel
    have c3 : wr.cell? ⟨w.heap.size, 3, none⟩ = some (.slice pa l.length c) := by rw [cell_blk HI.out.2.2.2]; rfl
    by_cases hkl : k < l.length
    · have hkz : (k : Int) < (l.length : Int) := by omega
      obtain ⟨x, hx⟩ : ∃ x, l[k]? = some x := ⟨_, List.getElem?_eq_getElem hkl⟩
      obtain ⟨b, o, c', raw, hpe, hrg, -, -, hSx⟩ := (HS.out.on HI.out.2.2.1).range hx
      cases hpe
      have hqk : qk ≤ p' := takeL_le (fun p v q h => Nat.le_of_lt (takeV_lt h)) _ _ _ HI.out.2.1
      have HX : Hid (x.wf ∧ x ∈ l) := ⟨HF.out x (List.mem_of_getElem? hx), List.mem_of_getElem? hx⟩
      have hwk : wrap64 ((k : Int) + 1) = (k : Int) + 1 := by have := HA.out; unfold wrap64; omega
      have hw1 : wrap64 ((P : Int) - a) = (qk : Int) := by rw [HI.out.1]; have := HA.out; unfold wrap64; omega
      have hw2 : wrap64 ((D : Int) - 1) = (m : Int) := by have := HA.out; unfold wrap64; omega
      cases hq : takeV m qk x with
      | some q' =>
        have hlq := takeV_lt hq
        obtain ⟨xk, xn, xs, xl, xr⟩ := x
        obtain ⟨qa, qc, rfl⟩ := hSx.form
        have hld0 := loadV_mid hrg rfl
        have hld : (ldV (.pointer (some ⟨b, o + k * 5, none⟩))).run Tryz.prog wr = .ok (.value (.agg #[.int .u8 xk, .int .i64 xn, .string xs, .slice qa xl.length qc, .int .i64 xr])) wr := hld0
        have Hx := (show Hid (SlAt wr F (.slice qa xl.length qc) xl ∧ takeV m qk ⟨xk, xn, xs, xl, xr⟩ = some q' ∧ qk ≤ 512 ∧ takeL m p' (l.take (k + 1)) = some q') from ⟨hSx, hq, by have := HA.out; omega, by rw [takeL_take hx HI.out.2.1]; exact hq⟩)
        have hn0 : ¬ ((qk : Int) - (q' : Int) < 0) := by omega
        have hw3 : Hid (wrap64 (a + ((qk : Int) - (q' : Int))) = (P : Int) - q') := by show _ = _; rw [HI.out.1]; have := HA.out; unfold wrap64; omega
        clear hld0 hx hrg hSx hq hlq hqk HX
        go_wp2_with fail
        refine (look_G m qk q' ⟨xk, xn, xs, xl, xr⟩ _ _ _ (by have := HA.out; omega) Hx.out.2.2.1 Hx.out.1 Hx.out.2.1).mono ?_
        rintro e w5 ⟨rfl, hb5⟩
        have HI5 := (show Hid (Below w.heap.size w w5 ∧ _) from ⟨HI.out.2.2.1.trans (hb5.mono HI.out.2.2.1.size), below_blk hb5 HI.out.2.2.2⟩)
        clear hb5 HI hld c3
        go_wp2_with fail
        go_roundw
        case rel => exact ⟨k + 1, q', _, rfl, by go_num, by omega, hw3.out, Hx.out.2.2.2, HI5.out⟩
        case measure => rw [hwk]; exact measL hkl
      | none =>
        obtain ⟨xk, xn, xs, xl, xr⟩ := x
        obtain ⟨qa, qc, rfl⟩ := hSx.form
        have hld0 := loadV_mid hrg rfl
        have hld : (ldV (.pointer (some ⟨b, o + k * 5, none⟩))).run Tryz.prog wr = .ok (.value (.agg #[.int .u8 xk, .int .i64 xn, .string xs, .slice qa xl.length qc, .int .i64 xr])) wr := hld0
        have Hx := (show Hid (SlAt wr F (.slice qa xl.length qc) xl ∧ takeV m qk ⟨xk, xn, xs, xl, xr⟩ = none ∧ qk ≤ 512) from ⟨hSx, hq, by have := HA.out; omega⟩)
        clear hld0 hx hrg hSx hq hqk
        go_wp2_with fail
        refine (IH.out qk ⟨xk, xn, xs, xl, xr⟩ _ _ _ (by have := HA.out; omega) Hx.out.2.2 HX.out.1 Hx.out.1 Hx.out.2.1).mono ?_
        rintro e w5 ⟨rfl, hb5⟩
        have HI5 := (show Hid (Below w.heap.size w w5) from HI.out.2.2.1.trans (hb5.mono HI.out.2.2.1.size))
        clear hb5 HI hld c3
        go_wp2_with fail
        go_ret
        exact ⟨rfl, HI5.out⟩
    · exfalso
      obtain rfl : k = l.length := by omega
      have h1 := HI.out.2.1
      rw [List.take_length, HL.out] at h1
      cases h1
set_option maxRecDepth 8000 in
theorem look_room0 (w : World) (k nn : Int) (s : ByteArray) (m c : Nat) (r : Int) (pa : Option Addr) (D : Nat) : Calls Tryz.prog 270 #[.agg #[.int .u8 k, .int .i64 nn, .string s, .slice pa m c, .int .i64 r], .int .i64 0, .int .i64 D] w fun e w' => e = .returned (.int .i64 (-1)) ∧ Below w.heap.size w w' := by
  go_enter Tryz.func270, Tryz.ntmps270
  go_wp2_with fail
  go_ret
  exact ⟨rfl, (Below.refl _ w).alloc (Nat.le_refl _) _⟩
theorem ite_none {b : Bool} {a : Nat} (h : (if b = true then some a else none) = none) : b = false := by
  cases b with
  | false => rfl
  | true => simp at h
theorem lookNo_step (n : Nat) (ih : ∀ m, n = m + 1 → LookNo m) : LookNo n := by
  intro p v raw w F hn hp hwf hS hT
  obtain ⟨k, nn, s, l, r⟩ := v
  obtain ⟨pa, c, rfl⟩ := hS.form
  simp only [vcs] at *
  cases p with
  | zero => exact look_room0 w k nn s _ c r pa n
  | succ p' =>
    have hP : ¬ ((p' + 1 : Nat) : Int) < 1 := by omega
    by_cases e0 : k = 0
    · rw [tk0 e0] at hT
      subst e0
      exact look_no0 w (p' + 1) n nn s l r pa c hP (ite_none hT)
    by_cases e1 : k = 1
    · rw [tk1 e1] at hT
      subst e1
      exact look_no1 w (p' + 1) n nn s l r pa c hP (ite_none hT)
    by_cases e2 : k = 2
    · rw [tk2 e2] at hT
      subst e2
      refine look_no2 w (p' + 1) n nn s l r pa c hP ?_
      split at hT
      · exact .inl (by assumption)
      · exact .inr (ite_none hT)
    by_cases e4 : k = 4
    · rw [tk4 e4] at hT
      subst e4
      refine look_no4 w (p' + 1) n nn s l r pa c hP ?_
      split at hT
      · exact .inl (by assumption)
      · exact .inr (ite_none hT)
    by_cases e3 : k = 3
    · subst e3
      by_cases hc : chk nn s r 0 = true
      rotate_left
      · exact look_no3 w (p' + 1) n nn s l r pa c hP (.inl (by simpa using hc))
      cases n with
      | zero => exact look_no3 w (p' + 1) _ nn s l r pa c hP (.inr (.inl (by decide)))
      | succ m =>
        by_cases hl : l.length > p'
        · exact look_no3 w (p' + 1) _ nn s l r pa c hP (.inr (.inr (by omega)))
        · rw [tk3 rfl hl] at hT
          have hL : takeL m p' l = none := by
            split at hT
            · assumption
            · rw [if_pos hc] at hT
              cases hT
          obtain ⟨rfl, rfl, rfl, -⟩ := chk_all hc
          exact lookNo_list m (ih m rfl) w F (p' + 1) p' (m + 1) l pa c rfl rfl hn hp hl hwf.sub hS hL
    exact look_no5 w (p' + 1) n nn s l r pa c k e0 e1 e2 e3 e4 hwf.kd.1 hP trivial
theorem look_N (n : Nat) : LookNo n := by
  induction n with
  | zero => exact lookNo_step 0 (fun m h => by cases h)
  | succ n ih => exact lookNo_step (n + 1) (fun m h => by cases h; exact ih)
set_option maxRecDepth 8000 in
theorem rParts_N {w : World} {F : Nat → Prop} {v : Val} {raw : Value} (hS : SlAt w F raw v.l) (hwf : v.wf) (hm : mayV v = false) : Calls Tryz.prog 242 #[.agg (vcs v raw)] w fun e w' => e = .returned (.int .i64 0) ∧ Below w.heap.size w w' := by
  have hq : takeV 16 512 v = none := by
    cases h : takeV 16 512 v with
    | none => rfl
    | some q => exact absurd hm (by show ¬ (takeV 16 512 v).isSome = false; rw [h]; simp)
  obtain ⟨pa, c, rfl⟩ := hS.form
  have HK : Hid (∀ w', Below w.heap.size w w' → Calls Tryz.prog 270 #[.agg (vcs v (.slice pa v.l.length c)), .int .i64 512, .int .i64 16] w' fun e w'' => e = .returned (.int .i64 (-1)) ∧ Below w'.heap.size w' w'') := fun w' hb => look_N 16 512 v _ w' _ (by omega) (by omega) hwf (hS.on hb) hq
  clear hS hm hq hwf
  obtain ⟨k, n, s, l, r⟩ := v
  simp only [vcs] at HK ⊢
  generalize l.length = m at *
  have HB0 : Hid (Below w.heap.size w (w.alloc (.cells #[.int .u8 k, .int .i64 n, .string s, .slice pa m c, .int .i64 r] 27))) := (Below.refl _ w).alloc (Nat.le_refl _) _
  go_enter Tryz.func242, Tryz.ntmps242
  go_wp2_with fail
  refine Calls.mono (HK.out _ HB0.out) ?_
  rintro e w1 ⟨rfl, hb1⟩
  have HB1 : Hid (Below w.heap.size w w1) := HB0.out.trans (hb1.mono HB0.out.size)
  clear hb1 HB0
  go_wp2_with fail
  go_ret
  exact ⟨rfl, HB1.out⟩
set_option maxRecDepth 8000 in
theorem rMay_N {w : World} {F : Nat → Prop} {v : Val} {raw : Value} (hS : SlAt w F raw v.l) (hwf : v.wf) (hm : mayV v = false) : Calls Tryz.prog 182 #[.agg (vcs v raw)] w fun e w' => e = .returned (.bool false) ∧ Below w.heap.size w w' := by
  obtain ⟨pa, c, rfl⟩ := hS.form
  have HK : Hid (∀ w', Below w.heap.size w w' → Calls Tryz.prog 242 #[.agg (vcs v (.slice pa v.l.length c))] w' fun e w'' => e = .returned (.int .i64 0) ∧ Below w'.heap.size w' w'') := fun w' hb => rParts_N (hS.on hb) hwf hm
  clear hS hm hwf
  obtain ⟨k, n, s, l, r⟩ := v
  simp only [vcs] at HK ⊢
  generalize l.length = m at *
  have HB0 : Hid (Below w.heap.size w (w.alloc (.cells #[.int .u8 k, .int .i64 n, .string s, .slice pa m c, .int .i64 r] 27))) := (Below.refl _ w).alloc (Nat.le_refl _) _
  go_enter Tryz.func182, Tryz.ntmps182
  go_wp2_with fail
  refine Calls.mono (HK.out _ HB0.out) ?_
  rintro e w1 ⟨rfl, hb1⟩
  have HB1 : Hid (Below w.heap.size w w1) := HB0.out.trans (hb1.mono HB0.out.size)
  clear hb1 HB0
  go_wp2_with fail
  go_ret
  exact ⟨rfl, HB1.out⟩
theorem rMay_any {w : World} {F : Nat → Prop} {v : Val} {raw : Value} (hS : SlAt w F raw v.l) (hwf : v.wf) : Calls Tryz.prog 182 #[.agg (vcs v raw)] w fun e w' => e = .returned (.bool (mayV v)) ∧ Below w.heap.size w w' := by
  cases hm : mayV v with
  | true => exact rMay_G hS hm
  | false => exact rMay_N hS hwf hm
end Go.Proofs.YthaliljaglldjaaGreat
/- posternref08's is, names. -/
namespace Go.Proofs.YthaliljaglldjaaGreat
open Go.RowKit Go.ChangeMaps Go.MapKept
set_option maxHeartbeats 1000000 in
set_option maxRecDepth 8000 in
theorem is8_W {w : World} {q : Nat} {N : WM} {G : Nat → Prop} (hR : IsR w q N G) (hN : ROk N) (r : Int) :
    Calls Tryz.prog 187 #[.pointer (some ⟨q, 0, none⟩), .int .i64 r] w fun e w' => e = .returned (.bool (N.at r).isSome) ∧ Below w.heap.size w w' := by
  have HA := (show Hid _ from at7_W hR hN.len r (fun x hx => (hN.cell x hx).1))
  have hone := hN.one r
  clear hR hN
  generalize at7 N r = t at *
  generalize (N.at r).isSome = B at *
  go_enter Tryz.func187, Tryz.ntmps187
  go_wp2_with fail
  refine Calls.mono HA.out ?_
  rintro e w1 ⟨rfl, hb1⟩
  obtain ⟨w2, hst, hb2, hg2, -⟩ := boxed_what' w1 (thc t) rfl hone
  have HB2 := (show Hid (Below w.heap.size w w2) from hb1.trans (hb2.mono hb1.size))
  clear hb1 hb2 hg2 hone HA
  go_wp2_with fail
  go_ret
  exact ⟨rfl, HB2.out⟩
theorem may_take {v : Val} (hm : mayV v = true) : ∃ q, takeV 16 512 v = some q := Option.isSome_iff_exists.1 hm
theorem refsV_of {v : Val} (hm : mayV v = true) : refsV v = refsN 16 v := by unfold refsV; rw [if_pos hm]
set_option maxHeartbeats 2000000 in
set_option maxRecDepth 8000 in
theorem names8_W {w : World} {q : Nat} {N : WM} {G F : Nat → Prop} (hR : IsR w q N G) (hN : ROk N) (v : Val) (raw : Value) (hS : SlAt w F raw v.l) (hm : mayV v = true) :
    Calls Tryz.prog 183 #[.pointer (some ⟨q, 0, none⟩), .agg (vcs v raw)] w fun e w' => e = .returned (.bool (knownB N v)) ∧ Below w.heap.size w w' := by
  obtain ⟨pa, c, rfl⟩ := hS.form
  obtain ⟨q0, hq0⟩ := may_take hm
  have hb0 : Below w.heap.size w (w.alloc (.cells (vcs v (.slice pa v.l.length c)) 27)) := (Below.refl _ _).alloc (Nat.le_refl _) _
  have hcall := refs2_W 16 v 512 q0 (.slice pa v.l.length c) (w.alloc (.cells (vcs v (.slice pa v.l.length c)) 27)) F (by decide) hq0 (hS.on hb0)
  rw [← refsV_of hm] at hcall
  have HR := (show Hid _ from And.intro hb0 hcall)
  have Hl : Hid ((refsV v).length ≤ 512) := refsV_le v
  have HI : Hid (∀ w', Below w.heap.size w w' → ∀ r, Calls Tryz.prog 187 #[.pointer (some ⟨q, 0, none⟩), .int .i64 r] w' fun e w'' => e = .returned (.bool (N.at r).isSome) ∧ Below w'.heap.size w' w'') := fun w' hb r => is8_W (hR.below hb) hN r
  unfold knownB
  obtain ⟨kind, n, s, l, r⟩ := v
  generalize refsV ⟨kind, n, s, l, r⟩ = xs at HR Hl ⊢
  clear hS hR hN hb0 hcall hm hq0
  simp only [vcs] at HR ⊢
  go_enter Tryz.func183, Tryz.ntmps183
  go_wp2_with fail
  refine Calls.mono HR.out.2 ?_
  rintro e w1 ⟨u, rfl, hr, hb1⟩
  have HB1 := (show Hid (Below w.heap.size w w1) from HR.out.1.trans (hb1.mono HR.out.1.size))
  obtain ⟨qa, c', hu, hcell⟩ : ∃ q c', u = .slice q xs.length c' ∧ ∀ w2, Below w1.heap.size w1 w2 → ∀ (j : Nat) (x : Int), xs[j]? = some x → ∃ g, q = some ⟨g, 0, none⟩ ∧ w2.cell? ⟨g, j, none⟩ = some (.int .i64 x) := by
    obtain ⟨h1, ⟨rfl, h0⟩ | ⟨g, cap, cur, rfl, -, hb, hc, hm, hcs, ht⟩⟩ := hr
    · exact ⟨none, 0, by rw [h0], fun w2 _ j x hj => by have := (List.getElem?_eq_some_iff.1 hj).1; omega⟩
    · refine ⟨_, cap, rfl, fun w2 hb2 j x hj => ⟨g, rfl, ?_⟩⟩
      have hj' := (List.getElem?_eq_some_iff.1 hj).1
      have h2 : (xs.map (Value.int .i64))[j]? = some (.int .i64 x) := by rw [List.getElem?_map, hj]; rfl
      rw [← ht, List.getElem?_take, if_pos (by omega)] at h2
      rw [cell_blk (below_blk hb2 hb), ← Array.getElem?_toList]
      exact h2
  subst hu
  have HC := (show Hid (∀ w2, Below w1.heap.size w1 w2 → ∀ (j : Nat) (x : Int), xs[j]? = some x → ∃ g, qa = some ⟨g, 0, none⟩ ∧ w2.cell? ⟨g, j, none⟩ = some (.int .i64 x)) from hcell)
  clear hr hb1 hcell HR
  go_wp2_with fail
  go_loopw [6] (fun vi wr => ∃ k : Nat, vi = .int .i64 k ∧ k ≤ xs.length ∧ Hid (Below w1.heap.size w1 wr) ∧ Hid (∀ x ∈ xs.take k, (N.at x).isSome = true)) (fun vi _ => xs.length - (intOf vi).toNat)
  case atStart => exact ⟨0, rfl, Nat.zero_le _, Below.refl _ _, fun x hx => by simp at hx⟩
  case round =>
    obtain ⟨k, rfl, hk, HB, HA⟩ := hrel
    by_cases hkl : k < xs.length
    · have hkz : (k : Int) < (xs.length : Int) := by omega
      have hk0 : (0 : Int) ≤ (k : Int) := by omega
      obtain ⟨x, hx⟩ : ∃ x, xs[k]? = some x := ⟨_, List.getElem?_eq_getElem hkl⟩
      obtain ⟨g, rfl, hc⟩ := HC.out wr HB.out k x hx
      have hwk : wrap64 ((k : Int) + 1) = (k : Int) + 1 := by have := Hl.out; unfold wrap64; omega
      have HIx := (show Hid _ from HI.out wr (HB1.out.trans (HB.out.mono HB1.out.size)) x)
      cases his : (N.at x).isSome with
      | true =>
        have HA2 : Hid (∀ y ∈ xs.take (k + 1), (N.at y).isSome = true) := fun y hy => by
          rw [List.take_add_one, hx] at hy
          rcases List.mem_append.1 hy with hy | hy
          · exact HA.out y hy
          · simp at hy
            rw [hy]
            exact his
        rw [his] at HIx
        clear hx his HA
        go_wp2_with fail
        refine Calls.mono HIx.out ?_
        rintro e w2 ⟨rfl, hb2⟩
        have HB2 : Hid (Below w1.heap.size w1 w2) := HB.out.trans (hb2.mono HB.out.size)
        clear hb2 HB HIx hc
        go_wp2_with fail
        go_roundw
        case rel => exact ⟨k + 1, by go_num, by omega, HB2, HA2⟩
        case measure => (rw [hwk]; clear hwk; simp [intOf]; omega)
      | false =>
        have HE : Hid ((xs.all fun r => (N.at r).isSome) = false) := by
          show _ = _
          rw [List.all_eq_false]
          exact ⟨x, List.mem_of_getElem? hx, by rw [his]; decide⟩
        rw [his] at HIx
        clear hx his HA
        go_wp2_with fail
        refine Calls.mono HIx.out ?_
        rintro e w2 ⟨rfl, hb2⟩
        have HB2 : Hid (Below w.heap.size w w2) := HB1.out.trans ((HB.out.trans (hb2.mono HB.out.size)).mono HB1.out.size)
        clear hb2 HB HIx hc
        go_wp2_with fail
        go_ret
        exact ⟨by rw [HE.out]; rfl, HB2.out⟩
    · have hkz : ¬ (k : Int) < (xs.length : Int) := by omega
      obtain rfl : k = xs.length := by omega
      have hkk : ¬ (xs.length : Int) < (xs.length : Int) := by omega
      have HE : Hid ((xs.all fun r => (N.at r).isSome) = true) := by
        show _ = _
        rw [List.all_eq_true]
        exact fun x hx => HA.out x (by rw [List.take_length]; exact hx)
      have HB2 : Hid (Below w.heap.size w wr) := HB1.out.trans (HB.out.mono HB1.out.size)
      clear HA HB
      go_wp2_with fail
      go_ret
      exact ⟨by rw [HE.out]; rfl, HB2.out⟩
end Go.Proofs.YthaliljaglldjaaGreat
/- posternref07.form at a thing of the kind 1: yes. (gen_form7.py) -/
namespace Go.Proofs.YthaliljaglldjaaGreat
open Go.RowKit Go.ChangeMaps Go.MapKept
set_option maxHeartbeats 16000000 in
set_option maxRecDepth 20000 in
theorem form7_1 (w : World) (sides : Int) (h : Int) (hh : 0 ≤ h ∧ h < sides) {F : Nat → Prop} (v : Val) (pv : Option Addr) (cv : Nat) (hv : SlAt w F (.slice pv v.l.length cv) v.l) (hwf : v.wf) (hmay : mayV v = true) :
    Calls Tryz.prog 81 #[.agg #[.int .u8 1, .int .i64 h, .int .u8 v.kind, .int .i64 v.n, .string v.s, .slice pv v.l.length cv, .int .i64 v.r, .slice none 0 0, .int .i64 0, .int .i64 0, .int .i64 0, .int .i64 0, .int .u8 0, .bool false, .slice none 0 0, .slice none 0 0], .int .i64 sides] w fun e w' => e = .returned (.bool true) ∧ Below w.heap.size w w' := by
  have HM : Hid (∀ w', Below w.heap.size w w' → Calls Tryz.prog 174 #[.agg #[.int .u8 v.kind, .int .i64 v.n, .string v.s, .slice pv v.l.length cv, .int .i64 v.r]] w' fun e w'' => e = .returned (.bool true) ∧ Below w'.heap.size w' w'') := fun w' hb => by have h := may4_W hwf (hv.on hb); rw [hmay] at h; exact h
  have HS : Hid (∀ w', Below w.heap.size w w' → Calls Tryz.prog 178 #[.agg #[.int .u8 v.kind, .int .i64 v.n, .string v.s, .slice pv v.l.length cv, .int .i64 v.r], .agg #[.int .u8 v.kind, .int .i64 v.n, .string v.s, .slice pv v.l.length cv, .int .i64 v.r]] w' fun e w'' => e = .returned (.bool true) ∧ Below w'.heap.size w' w'') := fun w' hb => (same4_G v hwf v (.slice pv v.l.length cv) (.slice pv v.l.length cv) w' F F (hv.on hb) (hv.on hb)).mono fun e w'' ⟨B, h1, h2, h3⟩ => by rw [h2.2 rfl] at h1; exact ⟨h1, h3⟩
  obtain ⟨vk, vn, vstr, vl, vr⟩ := v
  clear hv hwf hmay
  simp only at HM HS ⊢
  have hh1 : ¬ h < 0 := by omega
  have hh2 : ¬ h ≥ sides := by omega
  clear hh
  have H5 := (show Hid _ from two_what w #[.int .u8 1, .int .i64 h, .int .u8 vk, .int .i64 vn, .string vstr, .slice pv vl.length cv, .int .i64 vr, .slice none 0 0, .int .i64 0, .int .i64 0, .int .i64 0, .int .i64 0, .int .u8 0, .bool false, .slice none 0 0, .slice none 0 0] #[.int .u8 1, .int .i64 h, .int .u8 vk, .int .i64 vn, .string vstr, .slice pv vl.length cv, .int .i64 vr, .slice none 0 0, .int .i64 0, .int .i64 0, .int .i64 0, .int .i64 0, .int .u8 0, .bool false, .slice none 0 0, .slice none 0 0])
  go_enter Tryz.func81, Tryz.ntmps81
  go_upto_region 51 with fail
  have H5 := (show Hid (_ ∧ _ ∧ _) from H5.out _ (.inl rfl))
  revert H5
  generalize World.alloc (World.alloc w _) _ = w5
  intro H5
  obtain ⟨a0, a1, a2, a3, a4, a5, a6, a7, a8, a9, a10, a11, a12, a13, a14, a15⟩ := cells16 H5.out.2.1
  obtain ⟨b0, b1, b2, b3, b4, b5, b6, b7, b8, b9, b10, b11, b12, b13, b14, b15⟩ := cells16 H5.out.2.2
  go_wp2_with fail
  refine Calls.mono (HM.out w5 H5.out.1) ?_
  rintro e w6 ⟨rfl, hb6⟩
  have H6 := (show Hid (Below w.heap.size w w6 ∧ _ ∧ _) from ⟨H5.out.1.trans (hb6.mono H5.out.1.size), below_blk hb6 H5.out.2.1, below_blk hb6 H5.out.2.2⟩)
  clear hb6 H5
  clear a0 a1 a2 a3 a4 a5 a6 a7 a8 a9 a10 a11 a12 a13 a14 a15 b0 b1 b2 b3 b4 b5 b6 b7 b8 b9 b10 b11 b12 b13 b14 b15
  obtain ⟨a0, a1, a2, a3, a4, a5, a6, a7, a8, a9, a10, a11, a12, a13, a14, a15⟩ := cells16 H6.out.2.1
  obtain ⟨b0, b1, b2, b3, b4, b5, b6, b7, b8, b9, b10, b11, b12, b13, b14, b15⟩ := cells16 H6.out.2.2
  go_wp2_with fail
  refine Calls.mono (HS.out w6 H6.out.1) ?_
  rintro e w7 ⟨rfl, hb7⟩
  have H7 := (show Hid (Below w.heap.size w w7 ∧ _ ∧ _) from ⟨H6.out.1.trans (hb7.mono H6.out.1.size), below_blk hb7 H6.out.2.1, below_blk hb7 H6.out.2.2⟩)
  clear hb7 H6
  clear a0 a1 a2 a3 a4 a5 a6 a7 a8 a9 a10 a11 a12 a13 a14 a15 b0 b1 b2 b3 b4 b5 b6 b7 b8 b9 b10 b11 b12 b13 b14 b15
  obtain ⟨a0, a1, a2, a3, a4, a5, a6, a7, a8, a9, a10, a11, a12, a13, a14, a15⟩ := cells16 H7.out.2.1
  obtain ⟨b0, b1, b2, b3, b4, b5, b6, b7, b8, b9, b10, b11, b12, b13, b14, b15⟩ := cells16 H7.out.2.2
  go_wp2_with fail
  go_ret
  exact ⟨rfl, H7.out.1⟩
end Go.Proofs.YthaliljaglldjaaGreat
/- posternref07.form at a thing of the kind 2: yes. (gen_form7.py) -/
namespace Go.Proofs.YthaliljaglldjaaGreat
open Go.RowKit Go.ChangeMaps Go.MapKept
set_option maxHeartbeats 16000000 in
set_option maxRecDepth 20000 in
theorem form7_2 (w : World) (sides : Int) (h : Int) (hh : 0 ≤ h ∧ h < sides) {F : Nat → Prop} (vs : List Val) (ps : Option Addr) (cs : Nat) (hv : SlAt w F (.slice ps vs.length cs) vs) (hwf : (listV vs).wf) (hmay : mayV (listV vs) = true) (hlen : vs.length ≤ 512) :
    Calls Tryz.prog 81 #[.agg #[.int .u8 2, .int .i64 h, .int .u8 0, .int .i64 0, .string ⟨#[]⟩, .slice none 0 0, .int .i64 0, .slice ps vs.length cs, .int .i64 0, .int .i64 0, .int .i64 0, .int .i64 0, .int .u8 0, .bool false, .slice none 0 0, .slice none 0 0], .int .i64 sides] w fun e w' => e = .returned (.bool true) ∧ Below w.heap.size w w' := by
  have HM : Hid (∀ w', Below w.heap.size w w' → Calls Tryz.prog 174 #[.agg #[.int .u8 3, .int .i64 0, .string ⟨#[]⟩, .slice ps vs.length cs, .int .i64 0]] w' fun e w'' => e = .returned (.bool true) ∧ Below w'.heap.size w' w'') := fun w' hb => by have h := may4_W (v := listV vs) hwf (hv.on hb); rw [hmay] at h; exact h
  have hlz : ¬ (vs.length : Int) > 512 := by omega
  clear hv hwf hmay hlen
  have hh1 : ¬ h < 0 := by omega
  have hh2 : ¬ h ≥ sides := by omega
  clear hh
  have H5 := (show Hid _ from two_what w #[.int .u8 2, .int .i64 h, .int .u8 0, .int .i64 0, .string ⟨#[]⟩, .slice none 0 0, .int .i64 0, .slice ps vs.length cs, .int .i64 0, .int .i64 0, .int .i64 0, .int .i64 0, .int .u8 0, .bool false, .slice none 0 0, .slice none 0 0] #[.int .u8 2, .int .i64 h, .int .u8 0, .int .i64 0, .string ⟨#[]⟩, .slice none 0 0, .int .i64 0, .slice none 0 0, .int .i64 0, .int .i64 0, .int .i64 0, .int .i64 0, .int .u8 0, .bool false, .slice none 0 0, .slice none 0 0])
  go_enter Tryz.func81, Tryz.ntmps81
  have HB0 := (show Hid (Below w.heap.size w ((w.alloc (.cells #[.int .u8 2, .int .i64 h, .int .u8 0, .int .i64 0, .string ⟨#[]⟩, .slice none 0 0, .int .i64 0, .slice ps vs.length cs, .int .i64 0, .int .i64 0, .int .i64 0, .int .i64 0, .int .u8 0, .bool false, .slice none 0 0, .slice none 0 0] 46)).alloc (.cells #[.int .u8 2, .int .i64 h, .int .u8 0, .int .i64 0, .string ⟨#[]⟩, .slice none 0 0, .int .i64 0, .slice none 0 0, .int .i64 0, .int .i64 0, .int .i64 0, .int .i64 0, .int .u8 0, .bool false, .slice none 0 0, .slice none 0 0] 46))) from (H5.out _ (.inl rfl)).1)
  have HC0 := (show Hid (_ ∧ _) from (H5.out _ (.inl rfl)).2)
  go_upto_region 16 with fail
  revert HB0 HC0
  generalize World.alloc (World.alloc w _) _ = w3
  intro HB0 HC0
  obtain ⟨a0, a1, a2, a3, a4, a5, a6, a7, a8, a9, a10, a11, a12, a13, a14, a15⟩ := cells16 HC0.out.1
  go_wp2_with fail
  refine (list7_W w3 ps vs.length cs).mono ?_
  rintro e w4 ⟨rfl, hb4⟩
  have HB4 := (show Hid (Below w.heap.size w w4) from HB0.out.trans (hb4.mono HB0.out.size))
  have HC4 := (show Hid (_ ∧ _) from And.intro (below_blk hb4 HC0.out.1) (below_blk hb4 HC0.out.2))
  clear hb4 HB0 HC0 a0 a1 a2 a3 a4 a5 a6 a7 a8 a9 a10 a11 a12 a13 a14 a15
  go_wp2_with fail
  refine Calls.mono (HM.out w4 HB4.out) ?_
  rintro e w5 ⟨rfl, hb5⟩
  have H6 := (show Hid (Below w.heap.size w w5 ∧ _ ∧ _) from ⟨HB4.out.trans (hb5.mono HB4.out.size), below_blk hb5 HC4.out.1, below_blk hb5 HC4.out.2⟩)
  clear hb5 HB4 HC4 H5
  have H5 := H6
  clear H6
  go_upto_region 51 with fail
  obtain ⟨a0, a1, a2, a3, a4, a5, a6, a7, a8, a9, a10, a11, a12, a13, a14, a15⟩ := cells16 H5.out.2.1
  obtain ⟨b0, b1, b2, b3, b4, b5, b6, b7, b8, b9, b10, b11, b12, b13, b14, b15⟩ := cells16 H5.out.2.2
  go_wp2_with fail
  refine (may4_nil w5).mono ?_
  rintro e w6 ⟨rfl, hb6⟩
  have H6 := (show Hid (Below w.heap.size w w6 ∧ _ ∧ _) from ⟨H5.out.1.trans (hb6.mono H5.out.1.size), below_blk hb6 H5.out.2.1, below_blk hb6 H5.out.2.2⟩)
  clear hb6 H5
  clear a0 a1 a2 a3 a4 a5 a6 a7 a8 a9 a10 a11 a12 a13 a14 a15 b0 b1 b2 b3 b4 b5 b6 b7 b8 b9 b10 b11 b12 b13 b14 b15
  obtain ⟨a0, a1, a2, a3, a4, a5, a6, a7, a8, a9, a10, a11, a12, a13, a14, a15⟩ := cells16 H6.out.2.1
  obtain ⟨b0, b1, b2, b3, b4, b5, b6, b7, b8, b9, b10, b11, b12, b13, b14, b15⟩ := cells16 H6.out.2.2
  go_wp2_with fail
  refine (same4_nil w6).mono ?_
  rintro e w7 ⟨rfl, hb7⟩
  have H7 := (show Hid (Below w.heap.size w w7 ∧ _ ∧ _) from ⟨H6.out.1.trans (hb7.mono H6.out.1.size), below_blk hb7 H6.out.2.1, below_blk hb7 H6.out.2.2⟩)
  clear hb7 H6
  clear a0 a1 a2 a3 a4 a5 a6 a7 a8 a9 a10 a11 a12 a13 a14 a15 b0 b1 b2 b3 b4 b5 b6 b7 b8 b9 b10 b11 b12 b13 b14 b15
  obtain ⟨a0, a1, a2, a3, a4, a5, a6, a7, a8, a9, a10, a11, a12, a13, a14, a15⟩ := cells16 H7.out.2.1
  obtain ⟨b0, b1, b2, b3, b4, b5, b6, b7, b8, b9, b10, b11, b12, b13, b14, b15⟩ := cells16 H7.out.2.2
  go_wp2_with fail
  go_ret
  exact ⟨rfl, H7.out.1⟩
end Go.Proofs.YthaliljaglldjaaGreat
/- posternref07.form at a thing of the kind 3: yes. (gen_form7.py) -/
namespace Go.Proofs.YthaliljaglldjaaGreat
open Go.RowKit Go.ChangeMaps Go.MapKept
set_option maxHeartbeats 16000000 in
set_option maxRecDepth 20000 in
theorem form7_3 (w : World) (sides : Int) (h : Int) (hh : 0 ≤ h ∧ h < sides) (n : Int) (hn : 0 ≤ n ∧ n ≤ 9007199254740992) :
    Calls Tryz.prog 81 #[.agg #[.int .u8 3, .int .i64 h, .int .u8 0, .int .i64 0, .string ⟨#[]⟩, .slice none 0 0, .int .i64 0, .slice none 0 0, .int .i64 n, .int .i64 0, .int .i64 0, .int .i64 0, .int .u8 0, .bool false, .slice none 0 0, .slice none 0 0], .int .i64 sides] w fun e w' => e = .returned (.bool true) ∧ Below w.heap.size w w' := by
  have hh1 : ¬ h < 0 := by omega
  have hh2 : ¬ h ≥ sides := by omega
  clear hh
  have hn1 : ¬ n < 0 := by omega
  have hn2 : ¬ n > 9007199254740992 := by omega
  clear hn
  have H5 := (show Hid _ from two_what w #[.int .u8 3, .int .i64 h, .int .u8 0, .int .i64 0, .string ⟨#[]⟩, .slice none 0 0, .int .i64 0, .slice none 0 0, .int .i64 n, .int .i64 0, .int .i64 0, .int .i64 0, .int .u8 0, .bool false, .slice none 0 0, .slice none 0 0] #[.int .u8 3, .int .i64 h, .int .u8 0, .int .i64 0, .string ⟨#[]⟩, .slice none 0 0, .int .i64 0, .slice none 0 0, .int .i64 n, .int .i64 0, .int .i64 0, .int .i64 0, .int .u8 0, .bool false, .slice none 0 0, .slice none 0 0])
  go_enter Tryz.func81, Tryz.ntmps81
  go_upto_region 51 with fail
  have H5 := (show Hid (_ ∧ _ ∧ _) from H5.out _ (.inl rfl))
  revert H5
  generalize World.alloc (World.alloc w _) _ = w5
  intro H5
  obtain ⟨a0, a1, a2, a3, a4, a5, a6, a7, a8, a9, a10, a11, a12, a13, a14, a15⟩ := cells16 H5.out.2.1
  obtain ⟨b0, b1, b2, b3, b4, b5, b6, b7, b8, b9, b10, b11, b12, b13, b14, b15⟩ := cells16 H5.out.2.2
  go_wp2_with fail
  refine (may4_nil w5).mono ?_
  rintro e w6 ⟨rfl, hb6⟩
  have H6 := (show Hid (Below w.heap.size w w6 ∧ _ ∧ _) from ⟨H5.out.1.trans (hb6.mono H5.out.1.size), below_blk hb6 H5.out.2.1, below_blk hb6 H5.out.2.2⟩)
  clear hb6 H5
  clear a0 a1 a2 a3 a4 a5 a6 a7 a8 a9 a10 a11 a12 a13 a14 a15 b0 b1 b2 b3 b4 b5 b6 b7 b8 b9 b10 b11 b12 b13 b14 b15
  obtain ⟨a0, a1, a2, a3, a4, a5, a6, a7, a8, a9, a10, a11, a12, a13, a14, a15⟩ := cells16 H6.out.2.1
  obtain ⟨b0, b1, b2, b3, b4, b5, b6, b7, b8, b9, b10, b11, b12, b13, b14, b15⟩ := cells16 H6.out.2.2
  go_wp2_with fail
  refine (same4_nil w6).mono ?_
  rintro e w7 ⟨rfl, hb7⟩
  have H7 := (show Hid (Below w.heap.size w w7 ∧ _ ∧ _) from ⟨H6.out.1.trans (hb7.mono H6.out.1.size), below_blk hb7 H6.out.2.1, below_blk hb7 H6.out.2.2⟩)
  clear hb7 H6
  clear a0 a1 a2 a3 a4 a5 a6 a7 a8 a9 a10 a11 a12 a13 a14 a15 b0 b1 b2 b3 b4 b5 b6 b7 b8 b9 b10 b11 b12 b13 b14 b15
  obtain ⟨a0, a1, a2, a3, a4, a5, a6, a7, a8, a9, a10, a11, a12, a13, a14, a15⟩ := cells16 H7.out.2.1
  obtain ⟨b0, b1, b2, b3, b4, b5, b6, b7, b8, b9, b10, b11, b12, b13, b14, b15⟩ := cells16 H7.out.2.2
  go_wp2_with fail
  go_ret
  exact ⟨rfl, H7.out.1⟩
end Go.Proofs.YthaliljaglldjaaGreat
/- posternref07.form at a thing of the kind 4: yes. (gen_form7.py) -/
namespace Go.Proofs.YthaliljaglldjaaGreat
open Go.RowKit Go.ChangeMaps Go.MapKept
set_option maxHeartbeats 16000000 in
set_option maxRecDepth 20000 in
theorem form7_4 (w : World) (sides : Int) (h : Int) (hh : 0 ≤ h ∧ h < sides) {F : Nat → Prop} (vs : List Val) (ps : Option Addr) (cs : Nat) (hv : SlAt w F (.slice ps vs.length cs) vs) (hwf : (listV vs).wf) (hmay : mayV (listV vs) = true) (hlen : vs.length ≤ 512) :
    Calls Tryz.prog 81 #[.agg #[.int .u8 4, .int .i64 h, .int .u8 0, .int .i64 0, .string ⟨#[]⟩, .slice none 0 0, .int .i64 0, .slice ps vs.length cs, .int .i64 0, .int .i64 0, .int .i64 0, .int .i64 0, .int .u8 0, .bool false, .slice none 0 0, .slice none 0 0], .int .i64 sides] w fun e w' => e = .returned (.bool true) ∧ Below w.heap.size w w' := by
  have HM : Hid (∀ w', Below w.heap.size w w' → Calls Tryz.prog 174 #[.agg #[.int .u8 3, .int .i64 0, .string ⟨#[]⟩, .slice ps vs.length cs, .int .i64 0]] w' fun e w'' => e = .returned (.bool true) ∧ Below w'.heap.size w' w'') := fun w' hb => by have h := may4_W (v := listV vs) hwf (hv.on hb); rw [hmay] at h; exact h
  have hlz : ¬ (vs.length : Int) > 512 := by omega
  clear hv hwf hmay hlen
  have hh1 : ¬ h < 0 := by omega
  have hh2 : ¬ h ≥ sides := by omega
  clear hh
  have H5 := (show Hid _ from two_what w #[.int .u8 4, .int .i64 h, .int .u8 0, .int .i64 0, .string ⟨#[]⟩, .slice none 0 0, .int .i64 0, .slice ps vs.length cs, .int .i64 0, .int .i64 0, .int .i64 0, .int .i64 0, .int .u8 0, .bool false, .slice none 0 0, .slice none 0 0] #[.int .u8 4, .int .i64 h, .int .u8 0, .int .i64 0, .string ⟨#[]⟩, .slice none 0 0, .int .i64 0, .slice none 0 0, .int .i64 0, .int .i64 0, .int .i64 0, .int .i64 0, .int .u8 0, .bool false, .slice none 0 0, .slice none 0 0])
  go_enter Tryz.func81, Tryz.ntmps81
  have HB0 := (show Hid (Below w.heap.size w ((w.alloc (.cells #[.int .u8 4, .int .i64 h, .int .u8 0, .int .i64 0, .string ⟨#[]⟩, .slice none 0 0, .int .i64 0, .slice ps vs.length cs, .int .i64 0, .int .i64 0, .int .i64 0, .int .i64 0, .int .u8 0, .bool false, .slice none 0 0, .slice none 0 0] 46)).alloc (.cells #[.int .u8 4, .int .i64 h, .int .u8 0, .int .i64 0, .string ⟨#[]⟩, .slice none 0 0, .int .i64 0, .slice none 0 0, .int .i64 0, .int .i64 0, .int .i64 0, .int .i64 0, .int .u8 0, .bool false, .slice none 0 0, .slice none 0 0] 46))) from (H5.out _ (.inl rfl)).1)
  have HC0 := (show Hid (_ ∧ _) from (H5.out _ (.inl rfl)).2)
  go_upto_region 16 with fail
  revert HB0 HC0
  generalize World.alloc (World.alloc w _) _ = w3
  intro HB0 HC0
  obtain ⟨a0, a1, a2, a3, a4, a5, a6, a7, a8, a9, a10, a11, a12, a13, a14, a15⟩ := cells16 HC0.out.1
  go_wp2_with fail
  refine (list7_W w3 ps vs.length cs).mono ?_
  rintro e w4 ⟨rfl, hb4⟩
  have HB4 := (show Hid (Below w.heap.size w w4) from HB0.out.trans (hb4.mono HB0.out.size))
  have HC4 := (show Hid (_ ∧ _) from And.intro (below_blk hb4 HC0.out.1) (below_blk hb4 HC0.out.2))
  clear hb4 HB0 HC0 a0 a1 a2 a3 a4 a5 a6 a7 a8 a9 a10 a11 a12 a13 a14 a15
  go_wp2_with fail
  refine Calls.mono (HM.out w4 HB4.out) ?_
  rintro e w5 ⟨rfl, hb5⟩
  have H6 := (show Hid (Below w.heap.size w w5 ∧ _ ∧ _) from ⟨HB4.out.trans (hb5.mono HB4.out.size), below_blk hb5 HC4.out.1, below_blk hb5 HC4.out.2⟩)
  clear hb5 HB4 HC4 H5
  have H5 := H6
  clear H6
  go_upto_region 51 with fail
  obtain ⟨a0, a1, a2, a3, a4, a5, a6, a7, a8, a9, a10, a11, a12, a13, a14, a15⟩ := cells16 H5.out.2.1
  obtain ⟨b0, b1, b2, b3, b4, b5, b6, b7, b8, b9, b10, b11, b12, b13, b14, b15⟩ := cells16 H5.out.2.2
  go_wp2_with fail
  refine (may4_nil w5).mono ?_
  rintro e w6 ⟨rfl, hb6⟩
  have H6 := (show Hid (Below w.heap.size w w6 ∧ _ ∧ _) from ⟨H5.out.1.trans (hb6.mono H5.out.1.size), below_blk hb6 H5.out.2.1, below_blk hb6 H5.out.2.2⟩)
  clear hb6 H5
  clear a0 a1 a2 a3 a4 a5 a6 a7 a8 a9 a10 a11 a12 a13 a14 a15 b0 b1 b2 b3 b4 b5 b6 b7 b8 b9 b10 b11 b12 b13 b14 b15
  obtain ⟨a0, a1, a2, a3, a4, a5, a6, a7, a8, a9, a10, a11, a12, a13, a14, a15⟩ := cells16 H6.out.2.1
  obtain ⟨b0, b1, b2, b3, b4, b5, b6, b7, b8, b9, b10, b11, b12, b13, b14, b15⟩ := cells16 H6.out.2.2
  go_wp2_with fail
  refine (same4_nil w6).mono ?_
  rintro e w7 ⟨rfl, hb7⟩
  have H7 := (show Hid (Below w.heap.size w w7 ∧ _ ∧ _) from ⟨H6.out.1.trans (hb7.mono H6.out.1.size), below_blk hb7 H6.out.2.1, below_blk hb7 H6.out.2.2⟩)
  clear hb7 H6
  clear a0 a1 a2 a3 a4 a5 a6 a7 a8 a9 a10 a11 a12 a13 a14 a15 b0 b1 b2 b3 b4 b5 b6 b7 b8 b9 b10 b11 b12 b13 b14 b15
  obtain ⟨a0, a1, a2, a3, a4, a5, a6, a7, a8, a9, a10, a11, a12, a13, a14, a15⟩ := cells16 H7.out.2.1
  obtain ⟨b0, b1, b2, b3, b4, b5, b6, b7, b8, b9, b10, b11, b12, b13, b14, b15⟩ := cells16 H7.out.2.2
  go_wp2_with fail
  go_ret
  exact ⟨rfl, H7.out.1⟩
end Go.Proofs.YthaliljaglldjaaGreat
/- posternref07.form at a thing of the kind 10: yes. (gen_form7.py) -/
namespace Go.Proofs.YthaliljaglldjaaGreat
open Go.RowKit Go.ChangeMaps Go.MapKept
set_option maxHeartbeats 16000000 in
set_option maxRecDepth 20000 in
theorem form7_10 (w : World) (sides : Int) (h : Int) (hh : 0 ≤ h ∧ h < sides) :
    Calls Tryz.prog 81 #[.agg #[.int .u8 10, .int .i64 h, .int .u8 0, .int .i64 0, .string ⟨#[]⟩, .slice none 0 0, .int .i64 0, .slice none 0 0, .int .i64 0, .int .i64 0, .int .i64 0, .int .i64 0, .int .u8 0, .bool false, .slice none 0 0, .slice none 0 0], .int .i64 sides] w fun e w' => e = .returned (.bool true) ∧ Below w.heap.size w w' := by
  have hh1 : ¬ h < 0 := by omega
  have hh2 : ¬ h ≥ sides := by omega
  clear hh
  have H5 := (show Hid _ from two_what w #[.int .u8 10, .int .i64 h, .int .u8 0, .int .i64 0, .string ⟨#[]⟩, .slice none 0 0, .int .i64 0, .slice none 0 0, .int .i64 0, .int .i64 0, .int .i64 0, .int .i64 0, .int .u8 0, .bool false, .slice none 0 0, .slice none 0 0] #[.int .u8 10, .int .i64 h, .int .u8 0, .int .i64 0, .string ⟨#[]⟩, .slice none 0 0, .int .i64 0, .slice none 0 0, .int .i64 0, .int .i64 0, .int .i64 0, .int .i64 0, .int .u8 0, .bool false, .slice none 0 0, .slice none 0 0])
  go_enter Tryz.func81, Tryz.ntmps81
  go_upto_region 32 with fail
  go_cut [] (fun wx => Hid (Below w.heap.size w wx ∧ wx.heap[w.heap.size]? = some (.cells #[.int .u8 10, .int .i64 h, .int .u8 0, .int .i64 0, .string ⟨#[]⟩, .slice none 0 0, .int .i64 0, .slice none 0 0, .int .i64 0, .int .i64 0, .int .i64 0, .int .i64 0, .int .u8 0, .bool false, .slice none 0 0, .slice none 0 0] 46 (0, 0)) ∧ wx.heap[w.heap.size + 1]? = some (.cells #[.int .u8 10, .int .i64 h, .int .u8 0, .int .i64 0, .string ⟨#[]⟩, .slice none 0 0, .int .i64 0, .slice none 0 0, .int .i64 0, .int .i64 0, .int .i64 0, .int .i64 0, .int .u8 0, .bool false, .slice none 0 0, .slice none 0 0] 46 (0, 0))))
  case first =>
    go_region
    all_goals
      go_wp2_with fail
      go_meet
      case rel => first | exact H5.out _ (.inr rfl) | exact H5.out _ (.inl rfl)
  have H5 := hcut
  clear hcut
  generalize wc = w5 at *
  obtain ⟨a0, a1, a2, a3, a4, a5, a6, a7, a8, a9, a10, a11, a12, a13, a14, a15⟩ := cells16 H5.out.2.1
  obtain ⟨b0, b1, b2, b3, b4, b5, b6, b7, b8, b9, b10, b11, b12, b13, b14, b15⟩ := cells16 H5.out.2.2
  go_upto_region 51 with fail
  clear a0 a1 a2 a3 a4 a5 a6 a7 a8 a9 a10 a11 a12 a13 a14 a15 b0 b1 b2 b3 b4 b5 b6 b7 b8 b9 b10 b11 b12 b13 b14 b15
  obtain ⟨a0, a1, a2, a3, a4, a5, a6, a7, a8, a9, a10, a11, a12, a13, a14, a15⟩ := cells16 H5.out.2.1
  obtain ⟨b0, b1, b2, b3, b4, b5, b6, b7, b8, b9, b10, b11, b12, b13, b14, b15⟩ := cells16 H5.out.2.2
  go_wp2_with fail
  refine (may4_nil w5).mono ?_
  rintro e w6 ⟨rfl, hb6⟩
  have H6 := (show Hid (Below w.heap.size w w6 ∧ _ ∧ _) from ⟨H5.out.1.trans (hb6.mono H5.out.1.size), below_blk hb6 H5.out.2.1, below_blk hb6 H5.out.2.2⟩)
  clear hb6 H5
  clear a0 a1 a2 a3 a4 a5 a6 a7 a8 a9 a10 a11 a12 a13 a14 a15 b0 b1 b2 b3 b4 b5 b6 b7 b8 b9 b10 b11 b12 b13 b14 b15
  obtain ⟨a0, a1, a2, a3, a4, a5, a6, a7, a8, a9, a10, a11, a12, a13, a14, a15⟩ := cells16 H6.out.2.1
  obtain ⟨b0, b1, b2, b3, b4, b5, b6, b7, b8, b9, b10, b11, b12, b13, b14, b15⟩ := cells16 H6.out.2.2
  go_wp2_with fail
  refine (same4_nil w6).mono ?_
  rintro e w7 ⟨rfl, hb7⟩
  have H7 := (show Hid (Below w.heap.size w w7 ∧ _ ∧ _) from ⟨H6.out.1.trans (hb7.mono H6.out.1.size), below_blk hb7 H6.out.2.1, below_blk hb7 H6.out.2.2⟩)
  clear hb7 H6
  clear a0 a1 a2 a3 a4 a5 a6 a7 a8 a9 a10 a11 a12 a13 a14 a15 b0 b1 b2 b3 b4 b5 b6 b7 b8 b9 b10 b11 b12 b13 b14 b15
  obtain ⟨a0, a1, a2, a3, a4, a5, a6, a7, a8, a9, a10, a11, a12, a13, a14, a15⟩ := cells16 H7.out.2.1
  obtain ⟨b0, b1, b2, b3, b4, b5, b6, b7, b8, b9, b10, b11, b12, b13, b14, b15⟩ := cells16 H7.out.2.2
  go_wp2_with fail
  go_ret
  exact ⟨rfl, H7.out.1⟩
end Go.Proofs.YthaliljaglldjaaGreat
/- posternref07.form at a thing of the kind 11: yes. (gen_form7.py) -/
namespace Go.Proofs.YthaliljaglldjaaGreat
open Go.RowKit Go.ChangeMaps Go.MapKept
set_option maxHeartbeats 16000000 in
set_option maxRecDepth 20000 in
theorem form7_11 (w : World) (sides : Int) (h : Int) (hh : 0 ≤ h ∧ h < sides) (tg : Int) :
    Calls Tryz.prog 81 #[.agg #[.int .u8 11, .int .i64 h, .int .u8 0, .int .i64 0, .string ⟨#[]⟩, .slice none 0 0, .int .i64 0, .slice none 0 0, .int .i64 0, .int .i64 0, .int .i64 tg, .int .i64 0, .int .u8 0, .bool false, .slice none 0 0, .slice none 0 0], .int .i64 sides] w fun e w' => e = .returned (.bool true) ∧ Below w.heap.size w w' := by
  have hh1 : ¬ h < 0 := by omega
  have hh2 : ¬ h ≥ sides := by omega
  clear hh
  have H5 := (show Hid _ from two_what w #[.int .u8 11, .int .i64 h, .int .u8 0, .int .i64 0, .string ⟨#[]⟩, .slice none 0 0, .int .i64 0, .slice none 0 0, .int .i64 0, .int .i64 0, .int .i64 tg, .int .i64 0, .int .u8 0, .bool false, .slice none 0 0, .slice none 0 0] #[.int .u8 11, .int .i64 h, .int .u8 0, .int .i64 0, .string ⟨#[]⟩, .slice none 0 0, .int .i64 0, .slice none 0 0, .int .i64 0, .int .i64 0, .int .i64 tg, .int .i64 0, .int .u8 0, .bool false, .slice none 0 0, .slice none 0 0])
  go_enter Tryz.func81, Tryz.ntmps81
  go_upto_region 51 with fail
  have H5 := (show Hid (_ ∧ _ ∧ _) from H5.out _ (.inl rfl))
  revert H5
  generalize World.alloc (World.alloc w _) _ = w5
  intro H5
  obtain ⟨a0, a1, a2, a3, a4, a5, a6, a7, a8, a9, a10, a11, a12, a13, a14, a15⟩ := cells16 H5.out.2.1
  obtain ⟨b0, b1, b2, b3, b4, b5, b6, b7, b8, b9, b10, b11, b12, b13, b14, b15⟩ := cells16 H5.out.2.2
  go_wp2_with fail
  refine (may4_nil w5).mono ?_
  rintro e w6 ⟨rfl, hb6⟩
  have H6 := (show Hid (Below w.heap.size w w6 ∧ _ ∧ _) from ⟨H5.out.1.trans (hb6.mono H5.out.1.size), below_blk hb6 H5.out.2.1, below_blk hb6 H5.out.2.2⟩)
  clear hb6 H5
  clear a0 a1 a2 a3 a4 a5 a6 a7 a8 a9 a10 a11 a12 a13 a14 a15 b0 b1 b2 b3 b4 b5 b6 b7 b8 b9 b10 b11 b12 b13 b14 b15
  obtain ⟨a0, a1, a2, a3, a4, a5, a6, a7, a8, a9, a10, a11, a12, a13, a14, a15⟩ := cells16 H6.out.2.1
  obtain ⟨b0, b1, b2, b3, b4, b5, b6, b7, b8, b9, b10, b11, b12, b13, b14, b15⟩ := cells16 H6.out.2.2
  go_wp2_with fail
  refine (same4_nil w6).mono ?_
  rintro e w7 ⟨rfl, hb7⟩
  have H7 := (show Hid (Below w.heap.size w w7 ∧ _ ∧ _) from ⟨H6.out.1.trans (hb7.mono H6.out.1.size), below_blk hb7 H6.out.2.1, below_blk hb7 H6.out.2.2⟩)
  clear hb7 H6
  clear a0 a1 a2 a3 a4 a5 a6 a7 a8 a9 a10 a11 a12 a13 a14 a15 b0 b1 b2 b3 b4 b5 b6 b7 b8 b9 b10 b11 b12 b13 b14 b15
  obtain ⟨a0, a1, a2, a3, a4, a5, a6, a7, a8, a9, a10, a11, a12, a13, a14, a15⟩ := cells16 H7.out.2.1
  obtain ⟨b0, b1, b2, b3, b4, b5, b6, b7, b8, b9, b10, b11, b12, b13, b14, b15⟩ := cells16 H7.out.2.2
  go_wp2_with fail
  go_ret
  exact ⟨rfl, H7.out.1⟩
end Go.Proofs.YthaliljaglldjaaGreat
