/- PurseBack: the walk. -/
import Derived.Test.YtmefjkggibbhoaaBk
import Derived.Test.YtmefjkggibbhoaaSide
import Derived.Test.YtmefjkggibbhoaaOpen
import Derived.Test.YtmefjkggibbhoaaLives10
import Derived.StillTailTactics
namespace Go.Proofs.Ytmefjkggibbhoaa
open Go.RowKit Go.ChangeMaps Go.MapKept

theorem Bk.start0 : Bk (makeM (WM.new []) (mintT 0 0 0)) 0 0 [] where
  things := rfl
  last := rfl
  home := by decide
  made := rfl
  nn x hx := by cases hx
  sum := rfl
  le := by decide
/-- The references of k purses. -/
def refsTo (k : Nat) : List Int := (List.range k).map fun (i : Nat) => (i : Int) + 2
theorem refsTo_succ (k : Nat) : refsTo (k + 1) = refsTo k ++ [(k : Int) + 2] := by simp [refsTo, List.range_succ]
theorem sum_le : ∀ (b : List Int), (∀ x ∈ b, x ≤ 65535) → b.sum ≤ b.length * 65535
  | [], _ => by simp
  | x :: b, h => by
    have h1 := h x (by simp)
    have h2 := sum_le b fun y hy => h y (by simp [hy])
    simp only [List.sum_cons, List.length_cons]
    omega
theorem sum_zero : ∀ (b : List Int), (∀ (j : Nat) (x : Int), b[j]? = some x → x = 0) → b.sum = 0
  | [], _ => rfl
  | x :: b, h => by
    have h1 := h 0 x rfl
    have h2 := sum_zero b fun j y hy => h (j + 1) y hy
    simp only [List.sum_cons]
    omega
theorem sum_first {b : List Int} (h0 : 0 < b.length) (h : ∀ (j : Nat) (x : Int), 1 ≤ j → b[j]? = some x → x = 0) : b[0]? = some b.sum := by
  match b, h0 with
  | x :: b, _ =>
    have := sum_zero b fun j y hy => h (j + 1) y (by omega) hy
    simp [this]
/-- While the list is made. -/
def BackAt (w0 w : World) (p : Nat) (ks : List Int) (k : Nat) (s : Int) (vl : Value) : Prop :=
  ∃ M, OwnS w0 w p M (fun b => vl.ownBlock = some b ∨ NoB b) ∧ Bk M 0 s (ks.take k) ∧ w.ownsRow w0.heap.size 30 1 vl k ((refsTo k).map (Value.int .i64))
/-- The list, made: block g. -/
def GAt (w0 w : World) (p g m : Nat) (M : WM) : Prop := OwnS w0 w p M (fun b => b = g) ∧ ∀ i : Nat, i < m → w.cell? ⟨g, i, none⟩ = some (.int .i64 ((i : Int) + 2))
theorem Kept.cells {g m : Nat} {w w' : World} (hk : Kept (fun b => b = g) w w') (h : ∀ i : Nat, i < m → w.cell? ⟨g, i, none⟩ = some (.int .i64 ((i : Int) + 2))) : ∀ i : Nat, i < m → w'.cell? ⟨g, i, none⟩ = some (.int .i64 ((i : Int) + 2)) :=
  fun i hi => (World.cell?_of_block (a := ⟨g, i, none⟩) (hk.2 g rfl)).trans (h i hi)
theorem GAt.base {w0 w : World} {p g m : Nat} {M : WM} (h : GAt w0 w p g m M) : Below w0.heap.size w0 w := h.1.base
theorem GAt.below {w0 w w' : World} {p g m : Nat} {M : WM} (h : GAt w0 w p g m M) (hb : Below w.heap.size w w') : GAt w0 w' p g m M := by
  obtain ⟨h1, h2⟩ := h
  obtain ⟨h3, h4⟩ := h1.below hb
  exact ⟨h3, h4.cells h2⟩
theorem GAt.turn {w0 w w' : World} {p g m : Nat} {M' : WM} {F F' : Nat → Prop} (h : ∀ i : Nat, i < m → w.cell? ⟨g, i, none⟩ = some (.int .i64 ((i : Int) + 2)))
    (h2 : ∀ b, F b → w0.heap.size ≤ b) (h3 : Below w0.heap.size w0 w) (h4 : ∀ b, b = g → ¬ F b ∧ b < w.heap.size) (hW : IsW w' p M' F') (hg : Grew F w F' w') : GAt w0 w' p g m M' := by
  obtain ⟨h5, h6⟩ := OwnS.turn (S := fun b => b = g) h2 h3 h4 hW hg
  exact ⟨h5, h6.cells h⟩
/-- Between two moves: whatever purses behind the list's there are, are empty. -/
def ZAt (w0 w : World) (p g m : Nat) (s : Int) (k : Nat) : Prop :=
  ∃ M b, GAt w0 w p g m M ∧ Bk M 0 s b ∧ m ≤ b.length ∧ b.length ≤ m + 1 ∧ (∀ (j : Nat) (x : Int), m ≤ j → b[j]? = some x → x = 0) ∧ ∀ (j : Nat) (x : Int), 1 ≤ j → j < k → b[j]? = some x → x = 0

theorem ZAt.of {w0 w : World} {p g m : Nat} {M : WM} {s : Int} {b : List Int} (hG : GAt w0 w p g m M) (hB : Bk M 0 s b) (h1 : m ≤ b.length) (h2 : b.length ≤ m + 1) (h3 : ∀ x, b[m]? = some x → x = 0) : ZAt w0 w p g m s 1 :=
  ⟨M, b, hG, hB, h1, h2, fun j x hj hx => by
    have := (List.getElem?_eq_some_iff.1 hx).1
    obtain rfl : j = m := by omega
    exact h3 x hx, fun j x h1 h2 => by omega⟩
theorem zmove {b : List Int} {v : Int} {j k m : Nat} (h1 : ∀ (i : Nat) (x : Int), m ≤ i → b[i]? = some x → x = 0) (h2 : ∀ (i : Nat) (x : Int), 1 ≤ i → i < k → b[i]? = some x → x = 0) (hm : 1 ≤ m) :
    (∀ (i : Nat) (x : Int), m ≤ i → ((b.set 0 v).set j 0)[i]? = some x → x = 0) ∧ (∀ (i : Nat) (x : Int), 1 ≤ i → (i < k ∨ i = j) → ((b.set 0 v).set j 0)[i]? = some x → x = 0) := by
  have key : ∀ (i : Nat) (x : Int), 1 ≤ i → ((b.set 0 v).set j 0)[i]? = some x → x = 0 ∧ i = j ∨ b[i]? = some x ∧ i ≠ j := by
    intro i x hi hx
    rw [List.getElem?_set] at hx
    split at hx
    · rename_i e
      split at hx
      · exact .inl ⟨(Option.some.inj hx).symm, e.symm⟩
      · cases hx
    · rename_i e
      rw [List.getElem?_set, if_neg (by omega)] at hx
      exact .inr ⟨hx, fun e' => e e'.symm⟩
  refine ⟨fun i x hi hx => ?_, fun i x hi hik hx => ?_⟩
  · rcases key i x (by omega) hx with h | h
    · exact h.1
    · exact h1 i x hi h.1
  · rcases key i x hi hx with h | h
    · exact h.1
    · rcases hik with hik | hik
      · exact h2 i x hi hik h.1
      · exact absurd hik h.2
theorem rem_bound (y : Int) {m : Nat} (h0 : 0 < m) : ∃ q : Nat, (y.tmod m + m).tmod m = (q : Int) ∧ q < m ∧ wrap64 (y.tmod m + m) = y.tmod m + m ∨ (100 < m) := by
  by_cases h100 : 100 < m
  · exact ⟨0, .inr h100⟩
  have hz : (0 : Int) < (m : Int) := by omega
  have h1 := Int.tmod_lt_of_pos y hz
  have h2 := Int.lt_tmod_of_pos y hz
  have h3 := Int.tmod_nonneg (m : Int) (show 0 ≤ y.tmod m + m by omega)
  have h4 := Int.tmod_lt_of_pos (y.tmod m + m) hz
  refine ⟨((y.tmod m + m).tmod m).toNat, .inl ⟨by omega, by omega, ?_⟩⟩
  unfold wrap64
  omega
theorem ZAt.final {M : WM} {s : Int} {b : List Int} {m : Nat} (hB : Bk M 0 s b) (h0 : 0 < b.length) (h1 : ∀ (j : Nat) (x : Int), m ≤ j → b[j]? = some x → x = 0) (h2 : ∀ (j : Nat) (x : Int), 1 ≤ j → j < m → b[j]? = some x → x = 0) : M.at 2 = some (purseT 0 s 1) := by
  have h := sum_first h0 (fun j x hj hx => by
    by_cases hjm : j < m
    · exact h2 j x hj hjm hx
    · exact h1 j x (by omega) hx)
  rw [hB.sum] at h
  exact hB.purse (i := 0) h

set_option maxHeartbeats 4000000 in
set_option maxRecDepth 100000 in
theorem back_W (w : World) (qa oa : Option Addr) (c' c'' m mo : Nat) (ks os : List Int) (n : Int) (hy : IntArg .u16 w qa ks) (ho : IntArg .i64 w oa os)
    (hkw : Hid (∀ x ∈ ks, 0 ≤ x ∧ x ≤ 65535)) (hm : Hid (m = ks.length)) (hmo : Hid (mo = os.length)) :
    Calls Try.prog 11 #[.slice qa m c', .slice oa mo c'', .int .i64 n] w fun e w' => e = .returned (.bool true) ∧ Below w.heap.size w w' := by
  have Hy : Hid (IntArg .u16 w qa ks) := hy
  have Ho : Hid (IntArg .i64 w oa os) := ho
  clear hy ho
  go_enter Try.func11, Try.ntmps11
  go_wp2_with fail
  refine (New_W w none 0 [] (.inl rfl)).mono ?_
  rintro e w1 hpost
  obtain ⟨p, F, rfl, hW, hF, hb⟩ := (Or.resolve_right hpost (fun h => h.1 ptree)).2
  clear hpost
  have HO : Hid (Own w w1 p PM0) := ⟨F, hW, fun b h => hF b h, hb⟩
  clear hW hF hb
  go_wp2_with fail
  obtain ⟨F, hW, h2, h3⟩ := HO.out
  refine (Mint_W hW (by decide) (h := 0) (by decide)).mono ?_
  rintro e w2 (⟨-, rfl, F', hW', hg⟩ | ⟨hx, -, -⟩)
  rotate_left
  · exact absurd (by decide) hx
  have HO2 : Hid (Own w w2 p (makeM (WM.new []) (mintT 0 0 0))) := Own.turn h2 h3 hW' hg
  have HB2 := (show Hid _ from Bk.start0)
  clear HO hW h2 h3 hW' hg
  simp only [show PM0.last + 1 = 1 from rfl]
  revert HO2 HB2
  generalize makeM (WM.new []) (mintT 0 0 0) = M2
  intro HO2 HB2
  by_cases h0 : m = 0
  · have e1 : ((m : Int) == 0) = true := by simp [h0]
    clear h0
    go_wp2_with fail
    refine (lives10_W w2).mono ?_
    rintro e w3 ⟨rfl, hb⟩
    have HB3 : Hid (Below w.heap.size w w3) := by
      obtain ⟨F, -, -, h3⟩ := HO2.out
      exact h3.trans (hb.mono h3.size)
    clear hb
    go_wp2_with fail
    go_ret
    exact ⟨rfl, HB3.out⟩
  by_cases h60 : 60 < m
  · have e1 : ((m : Int) == 0) = false := by simp [h0]
    have e2 : (60 : Int) < (m : Int) := by omega
    clear h0 h60
    go_wp2_with fail
    refine (lives10_W w2).mono ?_
    rintro e w3 ⟨rfl, hb⟩
    have HB3 : Hid (Below w.heap.size w w3) := by
      obtain ⟨F, -, -, h3⟩ := HO2.out
      exact h3.trans (hb.mono h3.size)
    clear hb
    go_wp2_with fail
    go_ret
    exact ⟨rfl, HB3.out⟩
  have e1 : ((m : Int) == 0) = false := by simp [h0]
  have e2 : ¬ (60 : Int) < (m : Int) := by omega
  have hm0 : 0 < m := by omega
  have hm60 : m ≤ 60 := by omega
  clear h0 h60
  obtain ⟨bq, oq, rfl, Hq⟩ : ∃ bq oq, qa = some ⟨bq, oq, none⟩ ∧ Hid (bq < w.heap.size ∧ ∀ (j : Nat) (x : Int), ks[j]? = some x → w.cell? ⟨bq, oq + j, none⟩ = some (.int .u16 x)) := by
    rcases Hy.out with h | ⟨b, o, h1, h2, h3⟩
    · have := hm.out
      rw [h] at this
      simp at this
      omega
    · exact ⟨b, o, h1, h2, h3⟩
  clear Hy
  have HBA : Hid (BackAt w w2 p ks 0 0 (.slice none 0 0)) := ⟨M2, (OwnS.of HO2.out).mono (fun b hb => by
    rcases hb with hb | hb
    · cases hb
    · exact hb), HB2.out, by simp [refsTo], .inl ⟨rfl, rfl⟩⟩
  clear HO2 HB2
  go_wp2_with fail
  go_loopw [11, 12, 13] (fun vl vs vi wr => ∃ (k : Nat) (s : Int) (vx : Value), vx = vl ∧ vs = .int .i64 s ∧ vi = .int .i64 k ∧ k ≤ m ∧ 0 ≤ s ∧ s ≤ 3932100 ∧ Hid (BackAt w wr p ks k s vx)) (fun _ _ vi _ => m - (intOf vi).toNat)
  case atStart => exact ⟨0, 0, _, rfl, rfl, rfl, Nat.zero_le _, by omega, by omega, HBA⟩
  case round =>
    clear HBA
    obtain ⟨k, s, vl, rfl, rfl, rfl, hk, hs0, hs1, HB⟩ := hrel
    obtain ⟨M, hS, hBk, hR⟩ := HB.out
    have HS := (show Hid (OwnS w wr p M (fun b => vl.ownBlock = some b ∨ NoB b)) from hS)
    have HBk := (show Hid (Bk M 0 s (ks.take k)) from hBk)
    have HR := (show Hid (wr.ownsRow w.heap.size 30 1 vl k ((refsTo k).map (Value.int .i64))) from hR)
    clear HB hS hBk hR
    by_cases hkm : k < m
    · have hkz : (k : Int) < (m : Int) := by omega
      obtain ⟨y, hyk⟩ : ∃ y, ks[k]? = some y := ⟨_, List.getElem?_eq_getElem (by have := hm.out; omega)⟩
      obtain ⟨hy1, hy2⟩ := hkw.out y (List.mem_of_getElem? hyk)
      have Htk : Hid (ks.take (k + 1) = ks.take k ++ [y]) := by show _ = _; rw [List.take_add_one, hyk]; rfl
      have hs3 : s + y ≤ 3932100 := by
        have h1 := sum_le (ks.take (k + 1)) (fun x hx => (hkw.out x (List.mem_of_mem_take hx)).2)
        have h2 := HBk.out.sum
        rw [Htk.out, sum_snoc, h2] at h1
        simp only [List.length_append, List.length_take, List.length_cons, List.length_nil] at h1
        omega
      have hcy : wr.cell? ⟨bq, oq + k, none⟩ = some (.int .u16 y) := (HS.out.base.cell (p := ⟨bq, oq + k, none⟩) Hq.out.1).trans (Hq.out.2 k y hyk)
      have Hyk := (show Hid (ks[k]? = some y) from hyk)
      have Hlast : Hid (M.last + 1 = (k : Int) + 2) := by
        show _ = _
        rw [HBk.out.last, List.length_take]
        have := hm.out
        omega
      have HN : Hid ((k : Int) ≤ 1099511627776) := by show _ ≤ _; omega
      obtain ⟨F, hW, h2, h3, h4⟩ := HS.out
      have hask := Ask_W hW (r := 1) rfl (by rw [Hlast.out]; omega) HBk.out.home HBk.out.mint ⟨hs0, by omega⟩ ⟨by decide, hs0⟩ (n := y)
      have HASK := (show Hid _ from hask)
      have HP1 := (show Hid ((∀ b, F b → w.heap.size ≤ b) ∧ Below w.heap.size w wr ∧ ∀ b, (vl.ownBlock = some b ∨ NoB b) → ¬ F b ∧ b < wr.heap.size) from ⟨h2, h3, h4⟩)
      clear hask hW h2 h3 h4 hyk
      go_wp2_with fail
      refine Calls.mono HASK.out ?_
      rintro e w5 (⟨hx, -⟩ | ⟨hx, -⟩ | ⟨-, hx, -⟩ | ⟨-, -, rfl, F', hW', hg⟩)
      · omega
      · omega
      · refine absurd ?_ hx
        rw [HBk.out.made, List.length_take]
        omega
      rw [Hlast.out]
      have HS5 := (show Hid (OwnS w w5 p _ (fun b => vl.ownBlock = some b ∨ NoB b)) from (OwnS.turn HP1.out.1 HP1.out.2.1 HP1.out.2.2 hW' hg).1)
      have HR5 : Hid (w5.ownsRow w.heap.size 30 1 vl k ((refsTo k).map (Value.int .i64))) := (OwnS.turn HP1.out.1 HP1.out.2.1 HP1.out.2.2 hW' hg).2.row HR.out (fun b hb => .inl hb)
      have HBk5 : Hid (Bk ((M.add (purseT 0 y 1)).set 1 (mintT 0 (s + y) 0)) 0 (s + y) (ks.take (k + 1))) := by
        have := HBk.out.ask hy1 (show s + y ≤ 9007199254740992 by omega)
        rw [← Htk.out] at this
        exact this
      have HBs : Hid (w.heap.size ≤ w5.heap.size) := HS5.out.base.size
      have hcy5 : w5.cell? ⟨bq, oq + k, none⟩ = some (.int .u16 y) := (HS5.out.base.cell (p := ⟨bq, oq + k, none⟩) Hq.out.1).trans (Hq.out.2 k y Hyk.out)
      clear hW' hg HS HR HBk HP1 HASK
      go_wp2_with (at_builtin; refine append_refS rfl _ _ rfl w.heap.size vl (refsTo k) k rfl HR5 ((k : Int) + 2) rfl HN HBs ?_; intro v' w6 hrow6 hg6 hown6)
      have HB6 : Hid (BackAt w w6 p ks (k + 1) (s + y) v') := ⟨_, HS5.out.appended HR5.out hg6.out hrow6.out hown6.out, HBk5.out, by rw [refsTo_succ]; exact hrow6.out⟩
      clear HS5 HR5 HBk5 HBs hrow6 hg6 hown6 hcy5
      go_wp2_with fail
      go_roundw
      case rel => exact ⟨k + 1, s + y, _, rfl, by go_num, by go_num, by omega, by omega, hs3, HB6⟩
      case measure => simp [intOf]; omega
    · have hkz : ¬ (k : Int) < (m : Int) := by omega
      obtain rfl : k = m := by omega
      have Hks : Hid (ks.take k = ks) := by show _ = _; rw [hm.out, List.take_length]
      have HBk2 : Hid (Bk M 0 s ks) := by have := HBk.out; rw [Hks.out] at this; exact this
      obtain ⟨a, cap, rfl, hcell⟩ := row_slice HR.out
      obtain ⟨g, rfl, -⟩ := hcell 0 hm0
      have HG : Hid (GAt w wr p g k M) := ⟨HS.out.mono (fun b hb => .inl (by rw [hb]; rfl)), fun i hi => by
        obtain ⟨g', e', h'⟩ := hcell i hi
        cases e'
        rw [h']
        simp [refsTo, hi]⟩
      obtain ⟨a0, ha0⟩ : ∃ a0, ks[0]? = some a0 := ⟨_, List.getElem?_eq_getElem (by have := hm.out; omega)⟩
      obtain ⟨hp0, hp1⟩ := hkw.out a0 (List.mem_of_getElem? ha0)
      have Ha0 := (show Hid (ks[0]? = some a0) from ha0)
      have hl0 : wr.cell? ⟨g, 0, none⟩ = some (.int .i64 2) := HG.out.2 0 hm0
      have hca : wr.cell? ⟨bq, oq + 0, none⟩ = some (.int .u16 a0) := (HS.out.base.cell (p := ⟨bq, oq + 0, none⟩) Hq.out.1).trans (Hq.out.2 0 a0 ha0)
      have HQ0 : Hid (∀ w', Below w.heap.size w w' → w'.cell? ⟨bq, oq, none⟩ = some (.int .u16 a0)) := fun w' hb => (hb.cell (p := ⟨bq, oq, none⟩) Hq.out.1).trans (Hq.out.2 0 a0 ha0)
      clear HS HBk HR Hks hcell ha0
      obtain ⟨F, hW, h2, h3, h4⟩ := HG.out.1
      have htake := Take_W hW (r := 2) rfl (by rw [HBk2.out.last, ← hm.out]; omega) HBk2.out.home (HBk2.out.purse (i := 0) Ha0.out) HBk2.out.mint ⟨hp0, by omega⟩ (n := n)
      have HTAKE := (show Hid _ from htake)
      have HP := (show Hid ((∀ b, F b → w.heap.size ≤ b) ∧ Below w.heap.size w wr ∧ ∀ b, b = g → ¬ F b ∧ b < wr.heap.size) from ⟨h2, h3, h4⟩)
      clear htake hW h2 h3 h4
      go_wp2_with fail
      refine Calls.mono HTAKE.out ?_
      clear hl0 hca
      rintro e wz (⟨h1, rfl, hb⟩ | ⟨⟨h1, h1'⟩, rfl, hb⟩ | ⟨-, hx, -⟩ | ⟨⟨h1, h1'⟩, -, rfl, F', hW', hg⟩)
      rotate_left 2
      · refine absurd ?_ hx
        rw [HBk2.out.made, ← hm.out]
        omega
      rotate_left
      focus
        have HZ : Hid (ZAt w wz p g k s 1) := ZAt.of (HG.out.below hb) HBk2.out (by rw [← hm.out]; exact Nat.le_refl _) (by rw [← hm.out]; omega) (fun x hx => by rw [List.getElem?_eq_none (by rw [← hm.out]; exact Nat.le_refl _)] at hx; cases hx)
        have hcz := HQ0.out wz (HG.out.base.trans (hb.mono HG.out.base.size))
        clear hb HG HBk2 HTAKE
        go_upto_block 2 with fail
      rotate_left
      focus
        have HZ : Hid (ZAt w wz p g k s 1) := ZAt.of (HG.out.below hb) HBk2.out (by rw [← hm.out]; exact Nat.le_refl _) (by rw [← hm.out]; omega) (fun x hx => by rw [List.getElem?_eq_none (by rw [← hm.out]; exact Nat.le_refl _)] at hx; cases hx)
        have hcz := HQ0.out wz (HG.out.base.trans (hb.mono HG.out.base.size))
        clear hb HG HBk2 HTAKE
        go_upto_block 2 with fail
      rotate_left
      focus
        have hr : M.last + 1 = (k : Int) + 2 := by rw [HBk2.out.last, ← hm.out]; omega
        rw [hr]
        have HBT : Hid (Bk ((M.add (purseT 0 n 1)).set 2 (purseT 0 (a0 - n) 1)) 0 s ((ks.set 0 (a0 - n)) ++ [n])) := HBk2.out.take (i := 0) Ha0.out ⟨h1, h1'⟩
        obtain ⟨h2, h3, h4⟩ := HP.out
        have hGT := GAt.turn HG.out.2 h2 h3 h4 hW' hg
        have hcz := HQ0.out wz hGT.base
        have HGT := (show Hid (GAt w wz p g k _) from hGT)
        clear hGT hW' hg h2 h3 h4 HG HTAKE HBk2 hr
        revert HGT HBT
        generalize (M.add _).set _ _ = MT
        intro HBT HGT
        have HBT : Hid (Bk MT 0 s ((ks.set 0 (a0 - n)) ++ [n])) := HBT
        have HGT : Hid (GAt w wz p g k MT) := HGT
        have Hb0 : Hid (((ks.set 0 (a0 - n)) ++ [n])[0]? = some (a0 - n)) := by
          show _ = _
          rw [List.getElem?_append_left (by rw [List.length_set, ← hm.out]; exact hm0), List.getElem?_set_self (by rw [← hm.out]; exact hm0)]
        have Hbk : Hid (((ks.set 0 (a0 - n)) ++ [n])[k]? = some n) := by
          show _ = _
          rw [List.getElem?_append_right (by rw [List.length_set, ← hm.out]; exact Nat.le_refl _)]
          simp [← hm.out]
        have hl0 : wz.cell? ⟨g, 0, none⟩ = some (.int .i64 2) := HGT.out.2 0 hm0
        have hwa : wrap64 (a0 - n) = a0 - n := by unfold wrap64; omega
        obtain ⟨F, hW, h2, h3, h4⟩ := HGT.out.1
        have hget := Get_W hW (r := 2) rfl (HBT.out.purse (i := 0) Hb0.out)
        have HGET := (show Hid _ from hget)
        clear hget hW h2 h3 h4
        go_wp2_with fail
        refine Calls.mono HGET.out ?_
        rintro e w3 ⟨rfl, hb⟩
        have HG3 : Hid (GAt w w3 p g k MT) := HGT.out.below hb
        have hl3 : w3.cell? ⟨g, 0, none⟩ = some (.int .i64 2) := HG3.out.2 0 hm0
        obtain ⟨F, hW, h2, h3, h4⟩ := HG3.out.1
        have hmv := Move_W hW (HBT.out.purse (i := 0) Hb0.out) (HBT.out.purse (i := k) Hbk.out) HBT.out.home HBT.out.home ⟨by omega, by omega⟩ ⟨h1, by omega⟩
        have HMV := (show Hid _ from hmv)
        have HP3 := (show Hid ((∀ b, F b → w.heap.size ≤ b) ∧ Below w.heap.size w w3 ∧ ∀ b, b = g → ¬ F b ∧ b < w3.heap.size) from ⟨h2, h3, h4⟩)
        clear hmv hW h2 h3 h4 hb HGT HGET hl0 hcz
        go_wp2_with fail
        refine Calls.mono HMV.out ?_
        rintro e w4 (⟨hx, -⟩ | ⟨-, -, hx, -⟩ | ⟨-, -, -, rfl, hW', hk'⟩)
        · omega
        · omega
        obtain ⟨h2, h3, h4⟩ := HP3.out
        have HG4 : Hid (GAt w w4 p g k _) := GAt.turn HG3.out.2 h2 h3 h4 hW' ⟨hk', fun _ h => .inl h⟩
        have HB4 := (show Hid _ from HBT.out.move (i := 0) (j := k) (by omega) Hb0.out Hbk.out)
        have hc4 := HQ0.out w4 HG4.out.base
        clear hW' hk' h2 h3 h4 HG3 HMV HP3 hl3
        revert HG4 HB4
        generalize (MT.set _ _).set _ _ = M4
        rw [show a0 - n + n = a0 by omega]
        intro HG4 HB4
        have HB4 : Hid (Bk M4 0 s ((((ks.set 0 (a0 - n)) ++ [n]).set 0 a0).set k 0)) := HB4
        have HG4 : Hid (GAt w w4 p g k M4) := HG4
        have Hc0 : Hid (((((ks.set 0 (a0 - n)) ++ [n]).set 0 a0).set k 0)[0]? = some a0) := by
          show _ = _
          rw [List.getElem?_set_ne (by omega), List.getElem?_set_self (by simp)]
        have Hck : Hid (((((ks.set 0 (a0 - n)) ++ [n]).set 0 a0).set k 0)[k]? = some 0) := by
          show _ = _
          rw [List.getElem?_set_self (by simp [← hm.out])]
        have hl4 : w4.cell? ⟨g, 0, none⟩ = some (.int .i64 2) := HG4.out.2 0 hm0
        obtain ⟨F, hW, h2, h3, h4⟩ := HG4.out.1
        have hget := Get_W hW (r := 2) rfl (HB4.out.purse (i := 0) Hc0.out)
        have HGET := (show Hid _ from hget)
        clear hget hW h2 h3 h4
        go_wp2_with fail
        refine Calls.mono HGET.out ?_
        rintro e w5 ⟨rfl, hb⟩
        have HG5 : Hid (GAt w w5 p g k M4) := HG4.out.below hb
        obtain ⟨F, hW, h2, h3, h4⟩ := HG5.out.1
        have hat := HB4.out.purse (i := k) Hck.out
        have hget := Get_W hW (hW.ok.at_wf hat) hat
        have HGET := (show Hid _ from hget)
        clear hget hW h2 h3 h4 hb hat HG4 hl4 hc4
        go_wp2_with fail
        refine Calls.mono HGET.out ?_
        rintro e wz ⟨rfl, hb⟩
        have HG6 : Hid (GAt w wz p g k M4) := HG5.out.below hb
        have HZ : Hid (ZAt w wz p g k s 1) := ZAt.of HG6.out HB4.out (by simp; rw [← hm.out]; omega) (by simp; rw [← hm.out]; omega) (fun x hx => by rw [Hck.out] at hx; exact (Option.some.inj hx).symm)
        have hcz := HQ0.out wz HG6.out.base
        clear hb HG5 HG6 HGET HB4 Hc0 Hck HBT Hb0 Hbk
        go_upto_block 2 with fail
      rotate_left
      all_goals
        clear hcz
        go_cut [] (fun wx => Hid (ZAt w wx p g k s 1))
        case first =>
          go_wp2_with fail
          go_loopw [25] (fun vi wr => ∃ j : Nat, vi = .int .i64 j ∧ j ≤ 100 ∧ Hid (ZAt w wr p g k s 1)) (fun vi _ => 100 - (intOf vi).toNat)
          case atStart => exact ⟨0, rfl, by omega, HZ⟩
          case round =>
            clear HZ
            obtain ⟨j, rfl, hj, HZ⟩ := hrel
            by_cases h1 : j < mo
            · have h1z : (j : Int) < (mo : Int) := by omega
              by_cases h2 : j < 100
              · have h2z : (j : Int) < 100 := by omega
                obtain ⟨y, hyj⟩ : ∃ y, os[j]? = some y := ⟨_, List.getElem?_eq_getElem (by have := hmo.out; omega)⟩
                obtain ⟨M, b, hG, hB, hb1, hb2, ht, hz⟩ := HZ.out
                obtain ⟨bo, oo, rfl, hco⟩ : ∃ bo oo, oa = some ⟨bo, oo, none⟩ ∧ wr.cell? ⟨bo, oo + j, none⟩ = some (.int .i64 y) := by
                  rcases Ho.out with h | ⟨bo, oo, h1, h2, h3⟩
                  · rw [h] at hyj; simp at hyj
                  · exact ⟨bo, oo, h1, (hG.base.cell (p := ⟨bo, oo + j, none⟩) h2).trans (h3 j y hyj)⟩
                obtain ⟨q, hq⟩ := rem_bound y hm0
                obtain ⟨hq1, hq2, hq3⟩ := hq.resolve_right (by omega)
                have kz : ¬ (k : Int) = 0 := by omega
                have kz2 : ((k : Int) == -1) = false := by simp
                obtain ⟨f, hf⟩ : ∃ f : Int, f = (q : Int) + 2 := ⟨_, rfl⟩
                have hcf : wr.cell? ⟨g, q, none⟩ = some (.int .i64 f) := by rw [hf]; exact hG.2 q hq2
                have hl0 : wr.cell? ⟨g, 0, none⟩ = some (.int .i64 2) := hG.2 0 hm0
                have HF := (show Hid (f = (q : Int) + 2) from hf)
                have HG := (show Hid (GAt w wr p g k M) from hG)
                have HB := (show Hid (Bk M 0 s b) from hB)
                have HT := (show Hid ((∀ (j : Nat) (x : Int), k ≤ j → b[j]? = some x → x = 0) ∧ k ≤ b.length ∧ b.length ≤ k + 1) from ⟨ht, hb1, hb2⟩)
                clear hG hB hb1 hb2 ht hz HZ hyj hq hf
                obtain ⟨x0, hx0⟩ : ∃ x0, b[0]? = some x0 := ⟨_, List.getElem?_eq_getElem (by have := HT.out.2.1; omega)⟩
                obtain ⟨xq, hxq⟩ : ∃ xq, b[q]? = some xq := ⟨_, List.getElem?_eq_getElem (by have := HT.out.2.1; omega)⟩
                have hat : M.at f = some (purseT 0 xq 1) := by rw [HF.out]; exact HB.out.purse hxq
                obtain ⟨F, hW, h2, h3, h4⟩ := HG.out.1
                have hmv := Move_W hW (HB.out.purse (i := 0) hx0) hat HB.out.home HB.out.home (HB.out.val hx0) (HB.out.val hxq)
                have HMV := (show Hid _ from hmv)
                have HP2 := (show Hid ((∀ b, F b → w.heap.size ≤ b) ∧ Below w.heap.size w wr ∧ ∀ b, b = g → ¬ F b ∧ b < wr.heap.size) from ⟨h2, h3, h4⟩)
                have H0 := (show Hid (b[0]? = some x0) from hx0)
                have Hq' := (show Hid (b[q]? = some xq) from hxq)
                clear hmv hW h2 h3 h4 hat hx0 hxq
                by_cases hf2 : q = 0
                · have e3 : (f != 2) = false := by rw [HF.out]; simp; omega
                  have Hf2 := (show Hid (q = 0) from hf2)
                  clear hf2
                  go_wp2_with fail
                  refine Calls.mono HMV.out ?_
                  rintro e w4 (⟨-, rfl, hb⟩ | ⟨hx, -⟩ | ⟨hx, -⟩)
                  rotate_left
                  · exact absurd (show (2 : Int) = f by have := HF.out; have := Hf2.out; omega) hx
                  · exact absurd (show (2 : Int) = f by have := HF.out; have := Hf2.out; omega) hx
                  have HG4 : Hid (GAt w w4 p g k M) := HG.out.below hb
                  have HZ4 : Hid (ZAt w w4 p g k s 1) := ⟨M, b, HG4.out, HB.out, HT.out.2.1, HT.out.2.2, HT.out.1, fun j x h1 h2 => by omega⟩
                  have hl4 : w4.cell? ⟨g, 0, none⟩ = some (.int .i64 2) := HG4.out.2 0 hm0
                  clear hb HG HMV HP2 HB HT
                  go_wp2_with fail
                  go_roundw
                  case rel => exact ⟨j + 1, by go_num, by omega, HZ4⟩
                  case measure => simp [intOf]; omega
                · have e3 : (f != 2) = true := by rw [HF.out]; simp; omega
                  have Hf2 := (show Hid (q ≠ 0) from hf2)
                  clear hf2
                  go_wp2_with fail
                  refine Calls.mono HMV.out ?_
                  rintro e w4 (⟨hx, -⟩ | ⟨-, -, hx, -⟩ | ⟨-, -, -, rfl, hW', hk'⟩)
                  · rcases hx with hx | hx
                    · exact absurd hx (by show ¬ (2 : Int) = f; have := HF.out; have := Hf2.out; omega)
                    · exact absurd rfl hx
                  · have h1 := two_sum b HB.out.nn (Ne.symm Hf2.out) H0.out Hq'.out
                    rw [HB.out.sum] at h1
                    omega
                  obtain ⟨h2, h3, h4⟩ := HP2.out
                  have HG4 : Hid (GAt w w4 p g k _) := GAt.turn HG.out.2 h2 h3 h4 hW' ⟨hk', fun _ h => .inl h⟩
                  have HZ4 : Hid (ZAt w w4 p g k s 1) := by
                    have hB4 := HB.out.move (i := 0) (j := q) (Ne.symm Hf2.out) H0.out Hq'.out
                    rw [← HF.out] at hB4
                    have hz := zmove (v := x0 + xq) (k := 1) HT.out.1 (fun i x h1 h2 => by omega) (j := q) hm0
                    exact ⟨_, _, HG4.out, hB4, by simp; exact HT.out.2.1, by simp; exact HT.out.2.2, hz.1, fun j x h1 h2 => by omega⟩
                  have hl4 : w4.cell? ⟨g, 0, none⟩ = some (.int .i64 2) := HG4.out.2 0 hm0
                  clear hW' hk' h2 h3 h4 HG HMV HP2 HB HT HG4
                  go_wp2_with fail
                  go_roundw
                  case rel => exact ⟨j + 1, by go_num, by omega, HZ4⟩
                  case measure => simp [intOf]; omega
              · have h2z : ¬ (j : Int) < 100 := by omega
                go_wp2_with fail
                go_meet
                case rel => exact HZ
            · have h1z : ¬ (j : Int) < (mo : Int) := by omega
              go_wp2_with fail
              go_meet
              case rel => exact HZ
        clear HZ
        have HZ : Hid (ZAt w wc p g k s 1) := hcut
        clear hcut
        go_wp2_with fail
        go_loopw [28] (fun vi wr => ∃ j : Nat, vi = .int .i64 j ∧ 1 ≤ j ∧ j ≤ k ∧ Hid (ZAt w wr p g k s j)) (fun vi _ => k - (intOf vi).toNat)
        case atStart => exact ⟨1, rfl, by omega, by omega, HZ⟩
        case round =>
          clear HZ
          obtain ⟨j, rfl, hj1, hjk, HZ⟩ := hrel
          obtain ⟨M, b, hG, hB, hb1, hb2, ht, hz⟩ := HZ.out
          have HG := (show Hid (GAt w wr p g k M) from hG)
          have HB := (show Hid (Bk M 0 s b) from hB)
          have HT := (show Hid ((∀ (j : Nat) (x : Int), k ≤ j → b[j]? = some x → x = 0) ∧ k ≤ b.length ∧ b.length ≤ k + 1 ∧ ∀ (i : Nat) (x : Int), 1 ≤ i → i < j → b[i]? = some x → x = 0) from ⟨ht, hb1, hb2, hz⟩)
          have hl0 : wr.cell? ⟨g, 0, none⟩ = some (.int .i64 2) := HG.out.2 0 hm0
          clear hG hB hb1 hb2 ht hz HZ
          by_cases hjm : j < k
          · have hjz : (j : Int) < (k : Int) := by omega
            have hlj : wr.cell? ⟨g, j, none⟩ = some (.int .i64 ((j : Int) + 2)) := HG.out.2 j hjm
            obtain ⟨x0, hx0⟩ : ∃ x0, b[0]? = some x0 := ⟨_, List.getElem?_eq_getElem (by have := HT.out.2.1; omega)⟩
            obtain ⟨xq, hxq⟩ : ∃ xq, b[j]? = some xq := ⟨_, List.getElem?_eq_getElem (by have := HT.out.2.1; omega)⟩
            obtain ⟨F, hW, h2, h3, h4⟩ := (HG.out.below (w' := wr.drew) below_drew).1
            have hmv := Move_W hW (HB.out.purse (i := 0) hx0) (HB.out.purse (i := j) hxq) HB.out.home HB.out.home (HB.out.val hx0) (HB.out.val hxq)
            have HMV := (show Hid _ from hmv)
            have HP2 := (show Hid ((∀ b, F b → w.heap.size ≤ b) ∧ Below w.heap.size w wr.drew ∧ ∀ b, b = g → ¬ F b ∧ b < wr.drew.heap.size) from ⟨h2, h3, h4⟩)
            have H0 := (show Hid (b[0]? = some x0) from hx0)
            have Hq' := (show Hid (b[j]? = some xq) from hxq)
            clear hmv hW h2 h3 h4 hx0 hxq
            go_wp2_with fail
            go_still_tail 8, (by kernel_rfl)
            change wpList _ _ _ _ _ wr.drew
            go_wp2_with fail
            refine Calls.mono HMV.out ?_
            rintro e w4 (⟨hx, -⟩ | ⟨-, -, hx, -⟩ | ⟨-, -, -, rfl, hW', hk'⟩)
            · rcases hx with hx | hx
              · exact absurd hx (by show ¬ (((0 : Nat) : Int) + 2 = (j : Int) + 2); omega)
              · exact absurd rfl hx
            · have h1 := two_sum b HB.out.nn (show 0 ≠ j by omega) H0.out Hq'.out
              rw [HB.out.sum] at h1
              omega
            obtain ⟨h2, h3, h4⟩ := HP2.out
            have HZ4 : Hid (ZAt w w4 p g k s (j + 1)) := by
              have hG4 := GAt.turn (HG.out.below (w' := wr.drew) below_drew).2 h2 h3 h4 hW' ⟨hk', fun _ h => .inl h⟩
              have hB4 := HB.out.move (i := 0) (j := j) (by omega) H0.out Hq'.out
              have hz := zmove (v := x0 + xq) HT.out.1 HT.out.2.2.2 (j := j) hm0
              exact ⟨_, _, hG4, hB4, by simp; exact HT.out.2.1, by simp; exact HT.out.2.2.1, hz.1, fun i x h1 h2 => hz.2 i x h1 (by omega)⟩
            clear hW' hk' h2 h3 h4 HG HMV HP2 HB HT
            go_wp2_with fail
            go_roundw
            case rel => exact ⟨j + 1, by go_num, by omega, by omega, HZ4⟩
            case measure => simp [intOf]; omega
          · have hjz : ¬ (j : Int) < (k : Int) := by omega
            obtain rfl : k = j := by omega
            have hat : M.at 2 = some (purseT 0 s 1) := ZAt.final HB.out (by have := HT.out.2.1; omega) HT.out.1 HT.out.2.2.2
            obtain ⟨F, hW, h2, h3, h4⟩ := HG.out.1
            have hget := Get_W hW (r := 2) rfl hat
            have HGET := (show Hid _ from hget)
            clear hget hW h2 h3 h4 hat
            go_wp2_with fail
            refine Calls.mono HGET.out ?_
            rintro e w4 ⟨rfl, hb⟩
            have HB4 : Hid (Below w.heap.size w w4) := HG.out.base.trans (hb.mono HG.out.base.size)
            clear hb HG HB HT HGET hl0
            go_wp2_with fail
            refine (lives10_W w4).mono ?_
            rintro e w5 ⟨rfl, hb⟩
            have HB5 : Hid (Below w.heap.size w w5) := HB4.out.trans (hb.mono HB4.out.size)
            clear hb HB4
            go_wp2_with fail
            go_ret
            exact ⟨rfl, HB5.out⟩
end Go.Proofs.Ytmefjkggibbhoaa
