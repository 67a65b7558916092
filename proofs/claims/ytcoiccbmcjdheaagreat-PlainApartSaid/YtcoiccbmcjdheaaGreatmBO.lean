/- A part of the proof, several texts in one: SameV, SuA, KpA. -/
import Derived.Test.YtcoiccbmcjdheaaGreatmBN
import Derived.Test.YtcoiccbmcjdheaaGreatmAG
import Derived.Test.YtcoiccbmcjdheaaGreatmBM
import Derived.Test.YtcoiccbmcjdheaaGreatmBK
import Derived.Test.YtcoiccbmcjdheaaGreatmBL
/- Are two values the same? At one value, whatever it holds and wherever it lies: yes. -/
namespace Go.Proofs.YtcoiccbmcjdheaaGreat
open Go.RowKit Go.ChangeMaps Go.MapKept

theorem bytesLess_same : ∀ l, Op.bytesLess l l = false
  | [] => rfl
  | x :: l => by
    have := bytesLess_same l
    simp [Op.bytesLess, this]
set_option maxRecDepth 8000 in
theorem cmpStr_W (w : World) (s : ByteArray) : Calls Tryz.prog 64 #[.string s, .string s] w fun e w' => e = .returned (.int .i64 0) ∧ w = w' := by
  have h1 := bytesLess_same s.toList
  go_enter Tryz.func64, Tryz.ntmps64
  go_wp2
  go_ret
  exact ⟨rfl, rfl⟩
set_option maxRecDepth 8000 in
theorem cmpRef_W (w : World) (a : Int) : Calls Tryz.prog 65 #[.int .i64 a, .int .i64 a] w fun e w' => e = .returned (.int .i64 0) ∧ w = w' := by
  have h1 : ¬ (a < a) := Int.lt_irrefl a
  have h2 : ¬ (a > a) := Int.lt_irrefl a
  go_enter Tryz.func65, Tryz.ntmps65
  go_wp2
  go_ret
  exact ⟨rfl, rfl⟩

set_option maxRecDepth 8000 in
theorem cmpfVal_nil2 (w : World) (pa pa2 : Option Addr) (c c2 : Nat) (f : Value) : Calls Tryz.prog 66 #[.slice pa 0 c, .slice pa2 0 c2, f] w fun e w' => e = .returned (.int .i64 0) ∧ w = w' := by
  go_enter Tryz.func66, Tryz.ntmps66
  go_wp2_with fail
  go_loopw [13] (fun vi wr => vi = .int .i64 0 ∧ wr = w) (fun _ _ => 0)
  case atStart => exact ⟨rfl, rfl⟩
  case round =>
    obtain ⟨rfl, rfl⟩ := hrel
    go_wp2_with fail
    go_ret
    exact ⟨rfl, rfl⟩
/-- Order at one value that is n deep. -/
def OrdC (n : Nat) : Prop := ∀ (v : Val) (raw1 raw2 : Value) (w : World) (F1 F2 : Nat → Prop), depV n v → SlAt w F1 raw1 v.l → SlAt w F2 raw2 v.l →
  Calls Tryz.prog 42 #[.agg (vcs v raw1), .agg (vcs v raw2)] w fun e w' => e = .returned (.int .i64 0) ∧ Below w.heap.size w w'

theorem execOp_ldVo17 (ρ : Operand → Value) (ty : TypeId) (pos : String) (af : Array Edge) (g : Option (Nat × Bool)) :
    execOp ρ { dst := some 17, op := .load 34 (.tmp 16), type := ty, pos := pos, after := af, guard := g } = ldV (ρ (.tmp 16)) := rfl
theorem execOp_ldVo25 (ρ : Operand → Value) (ty : TypeId) (pos : String) (af : Array Edge) (g : Option (Nat × Bool)) :
    execOp ρ { dst := some 25, op := .load 34 (.tmp 24), type := ty, pos := pos, after := af, guard := g } = ldV (ρ (.tmp 24)) := rfl
attribute [local go_sem ↓] execOp_ldVo17 execOp_ldVo25 in
set_option maxHeartbeats 4000000 in
set_option maxRecDepth 8000 in
theorem cmpfVal_G {n : Nat} (ih : OrdC n) {w : World} {F1 F2 : Nat → Prop} (l : List Val) (s1 s2 : Value) (hS1 : SlAt w F1 s1 l) (hS2 : SlAt w F2 s2 l) (hl : l.length ≤ 512) (hd : ∀ x ∈ l, depV n x) :
    Calls Tryz.prog 66 #[s1, s2, .func (.func 42) #[] #[]] w fun e w' => e = .returned (.int .i64 0) ∧ Below w.heap.size w w' := by
  obtain ⟨pa, c, rfl⟩ := hS1.form
  obtain ⟨pa2, c2, rfl⟩ := hS2.form
  have HS := (show Hid (SlAt w F1 (.slice pa l.length c) l ∧ SlAt w F2 (.slice pa2 l.length c2) l) from ⟨hS1, hS2⟩)
  have HD := (show Hid _ from hd)
  have IH := (show Hid (OrdC n) from ih)
  clear hS1 hS2 hd ih
  go_enter Tryz.func66, Tryz.ntmps66
  go_wp2_with fail
  go_loopw [13] (fun vi wr => ∃ k : Nat, vi = .int .i64 k ∧ k ≤ l.length ∧ Hid (Below w.heap.size w wr)) (fun vi _ => l.length - (intOf vi).toNat)
  case atStart => exact ⟨0, rfl, Nat.zero_le _, Below.refl _ _⟩
  case round =>
    obtain ⟨k, rfl, hk, HI⟩ := hrel
    by_cases hkl : k < l.length
    · have hkz : (k : Int) < (l.length : Int) := by omega
      have hkz2 : ¬ (k : Int) ≥ (l.length : Int) := by omega
      obtain ⟨x, hx⟩ : ∃ x, l[k]? = some x := ⟨_, List.getElem?_eq_getElem hkl⟩
      obtain ⟨b, o, c', raw, hpe, hrg, -, -, hSx⟩ := (HS.out.1.on HI.out).range hx
      cases hpe
      obtain ⟨b2, o2, c2', raw2, hpe2, hrg2, -, -, hSx2⟩ := (HS.out.2.on ((HI.out).trans ((Below.refl _ _).alloc HI.out.size (.cells (vcs x raw) 34)))).range hx
      cases hpe2
      obtain ⟨xk, xn, xs, xl, xr⟩ := x
      obtain ⟨qa, qc, rfl⟩ := hSx.form
      obtain ⟨qa2, qc2, rfl⟩ := hSx2.form
      have hld0 := loadV_mid hrg rfl
      have hld : (ldV (.pointer (some ⟨b, o + k * 5, none⟩))).run Tryz.prog wr = .ok (.value (.agg #[.int .u8 xk, .int .i64 xn, .string xs, .slice qa xl.length qc, .int .i64 xr])) wr := hld0
      have hld1 := loadV_mid hrg2 rfl
      have hld2 : (ldV (.pointer (some ⟨b2, o2 + k * 5, none⟩))).run Tryz.prog (wr.alloc (.cells #[.int .u8 xk, .int .i64 xn, .string xs, .slice qa xl.length qc, .int .i64 xr] 34)) = .ok (.value (.agg #[.int .u8 xk, .int .i64 xn, .string xs, .slice qa2 xl.length qc2, .int .i64 xr])) (wr.alloc (.cells #[.int .u8 xk, .int .i64 xn, .string xs, .slice qa xl.length qc, .int .i64 xr] 34)) := hld1
      have Hx := (show Hid (SlAt wr F1 (.slice qa xl.length qc) xl ∧ SlAt (wr.alloc (.cells #[.int .u8 xk, .int .i64 xn, .string xs, .slice qa xl.length qc, .int .i64 xr] 34)) F2 (.slice qa2 xl.length qc2) xl ∧ depV n ⟨xk, xn, xs, xl, xr⟩) from ⟨hSx, hSx2, HD.out _ (List.mem_of_getElem? hx)⟩)
      have hwk : wrap64 ((k : Int) + 1) = (k : Int) + 1 := by unfold wrap64; omega
      clear hld0 hld1 hx hrg hrg2 hSx hSx2
      go_wp2_with fail
      refine (IH.out ⟨xk, xn, xs, xl, xr⟩ _ _ _ _ _ Hx.out.2.2 ((Hx.out.1.on ((Below.refl _ _).alloc (Nat.le_refl _) _)).on ((Below.refl _ _).alloc (Nat.le_refl _) _)) (Hx.out.2.1.on ((Below.refl _ _).alloc (Nat.le_refl _) _))).mono ?_
      rintro e w5 ⟨rfl, hb5⟩
      have HI5 : Hid (Below w.heap.size w w5) := (HI.out.trans (((Below.refl _ _).alloc HI.out.size _).alloc (by have := HI.out.size; simp; omega) _)).trans (hb5.mono (by have := HI.out.size; simp; omega))
      clear hb5 HI Hx hld hld2
      go_wp2_with fail
      go_roundw
      case rel => exact ⟨k + 1, by go_num, by omega, HI5⟩
      case measure => simp [intOf]; omega
    · have hkz : ¬ (k : Int) < (l.length : Int) := by omega
      obtain rfl : k = l.length := by omega
      have hkk : ¬ (l.length : Int) < (l.length : Int) := by omega
      go_wp2_with fail
      go_ret
      exact ⟨rfl, HI.out⟩
set_option maxHeartbeats 4000000 in
set_option maxRecDepth 8000 in
theorem ord_step (n : Nat) (ih : ∀ m, n = m + 1 → OrdC m) : OrdC n := by
  intro v raw1 raw2 w F1 F2 hd hS1 hS2
  obtain ⟨pa, c, rfl⟩ := hS1.form
  obtain ⟨pa2, c2, rfl⟩ := hS2.form
  have hF : v.kind = 1 ∨ v.kind = 2 ∨ v.kind = 4 ∨ (v.kind ≠ 1 ∧ v.kind ≠ 2 ∧ v.kind ≠ 4) := by omega
  have HB : Hid (Below w.heap.size w ((w.alloc (.cells (vcs v (.slice pa v.l.length c)) 34)).alloc (.cells (vcs v (.slice pa2 v.l.length c2)) 34))) := ((Below.refl _ _).alloc (Nat.le_refl _) _).alloc (by simp) _
  have hl : ∀ w', Below w.heap.size w w' → Calls Tryz.prog 66 #[.slice pa v.l.length c, .slice pa2 v.l.length c2, .func (.func 42) #[] #[]] w' fun e w'' => e = .returned (.int .i64 0) ∧ Below w'.heap.size w' w'' := fun w' hb => by
    cases n with
    | zero =>
      have e : v.l = [] := hd
      have h1 := hS1.on hb
      have h2 := hS2.on hb
      rw [e] at h1 h2 ⊢
      exact (cmpfVal_nil2 w' pa pa2 c c2 _).mono fun e w'' ⟨h1, h2⟩ => ⟨h1, by rw [← h2]; exact Below.refl _ _⟩
    | succ m => exact cmpfVal_G (ih m rfl) v.l _ _ (hS1.on hb) (hS2.on hb) hd.1 hd.2
  obtain ⟨k, nn, s, l, r⟩ := v
  have HL := (show Hid _ from hl)
  clear hS1 hS2 hd hl ih
  simp only [vcs] at HB HL hF ⊢
  rcases hF with rfl | rfl | rfl | ⟨h1, h2, h4⟩
  · go_enter Tryz.func42, Tryz.ntmps42
    go_wp2_with fail
    refine (cmpI64_W _ nn).mono ?_
    rintro e _ ⟨rfl, rfl⟩
    go_wp2_with fail
    go_ret
    exact ⟨rfl, HB.out⟩
  · go_enter Tryz.func42, Tryz.ntmps42
    go_wp2_with fail
    refine (cmpStr_W _ s).mono ?_
    rintro e _ ⟨rfl, rfl⟩
    go_wp2_with fail
    go_ret
    exact ⟨rfl, HB.out⟩
  · go_enter Tryz.func42, Tryz.ntmps42
    go_wp2_with fail
    refine (cmpRef_W _ r).mono ?_
    rintro e _ ⟨rfl, rfl⟩
    go_wp2_with fail
    go_ret
    exact ⟨rfl, HB.out⟩
  · go_enter Tryz.func42, Tryz.ntmps42
    go_wp2_with fail
    refine Calls.mono (HL.out _ HB.out) ?_
    rintro e w3 ⟨rfl, hb⟩
    have HB3 : Hid (Below w.heap.size w w3) := HB.out.trans (hb.mono HB.out.size)
    clear hb HB HL
    go_wp2_with fail
    go_ret
    exact ⟨rfl, HB3.out⟩
theorem order_G (n : Nat) : OrdC n := by
  induction n with
  | zero => exact ord_step 0 (fun m h => by cases h)
  | succ n ih => exact ord_step (n + 1) (fun m h => by cases h; exact ih)

set_option maxHeartbeats 2000000 in
set_option maxRecDepth 8000 in
/-- One value is the same as itself, wherever it lies. -/
theorem vSame_G {w : World} {F1 F2 : Nat → Prop} (v : Val) (raw1 raw2 : Value) (hS1 : SlAt w F1 raw1 v.l) (hS2 : SlAt w F2 raw2 v.l) (hm : mayV v = true) : Calls Tryz.prog 20 #[.agg (vcs v raw1), .agg (vcs v raw2)] w fun e w' => e = .returned (.bool true) ∧ Below w.heap.size w w' := by
  obtain ⟨pa, c, rfl⟩ := hS1.form
  obtain ⟨pa2, c2, rfl⟩ := hS2.form
  have HM : Hid (∀ w', Below w.heap.size w w' → Calls Tryz.prog 27 #[.agg (vcs v (.slice pa v.l.length c))] w' (fun e w'' => e = .returned (.bool true) ∧ Below w'.heap.size w' w'') ∧ Calls Tryz.prog 27 #[.agg (vcs v (.slice pa2 v.l.length c2))] w' (fun e w'' => e = .returned (.bool true) ∧ Below w'.heap.size w' w'') ∧
      Calls Tryz.prog 42 #[.agg (vcs v (.slice pa v.l.length c)), .agg (vcs v (.slice pa2 v.l.length c2))] w' (fun e w'' => e = .returned (.int .i64 0) ∧ Below w'.heap.size w' w'')) := fun w' hb => by
    have h1 := vMay_G (hS1.on hb)
    have h2 := vMay_G (hS2.on hb)
    rw [hm] at h1 h2
    exact ⟨h1, h2, order_G 16 v _ _ w' _ _ (depV_may hm) (hS1.on hb) (hS2.on hb)⟩
  clear hS1 hS2 hm
  obtain ⟨k, n, s, l, r⟩ := v
  simp only [vcs] at HM ⊢
  generalize l.length = m at *
  go_enter Tryz.func20, Tryz.ntmps20
  go_wp2_with fail
  have HB0 : Hid (Below w.heap.size w ((w.alloc (.cells #[.int .u8 k, .int .i64 n, .string s, .slice pa m c, .int .i64 r] 34)).alloc (.cells #[.int .u8 k, .int .i64 n, .string s, .slice pa2 m c2, .int .i64 r] 34))) := ((Below.refl _ w).alloc (Nat.le_refl _) _).alloc (by simp) _
  refine Calls.mono (HM.out _ HB0.out).1 ?_
  rintro e w1 ⟨rfl, hb1⟩
  have HB1 : Hid (Below w.heap.size w w1) := HB0.out.trans (hb1.mono HB0.out.size)
  obtain ⟨⟨a0, a1, a2, a3, a4⟩, -⟩ := cells5 (below_blk hb1 (blk2_old w _ _))
  obtain ⟨⟨b0, b1, b2, b3, b4⟩, -⟩ := cells5 (below_blk hb1 (blk2_new w _ _))
  have HA := (show Hid _ from below_blk hb1 (blk2_old w _ _))
  have HC := (show Hid _ from below_blk hb1 (blk2_new w _ _))
  clear hb1 HB0
  go_wp2_with fail
  refine Calls.mono (HM.out _ HB1.out).2.1 ?_
  rintro e w2 ⟨rfl, hb2⟩
  have HB2 : Hid (Below w.heap.size w w2) := HB1.out.trans (hb2.mono HB1.out.size)
  have hA2 := below_blk hb2 HA.out
  have hC2 := below_blk hb2 HC.out
  clear a0 a1 a2 a3 a4 b0 b1 b2 b3 b4
  obtain ⟨⟨a0, a1, a2, a3, a4⟩, -⟩ := cells5 hA2
  obtain ⟨⟨b0, b1, b2, b3, b4⟩, -⟩ := cells5 hC2
  clear hb2 hA2 hC2 HA HC HB1
  go_wp2_with fail
  refine Calls.mono (HM.out _ HB2.out).2.2 ?_
  rintro e w3 ⟨rfl, hb3⟩
  have HB3 : Hid (Below w.heap.size w w3) := HB2.out.trans (hb3.mono HB2.out.size)
  clear hb3 a0 a1 a2 a3 a4 b0 b1 b2 b3 b4
  go_wp2_with fail
  go_ret
  exact ⟨rfl, HB3.out⟩
end Go.Proofs.YtcoiccbmcjdheaaGreat
/- Helpers of PlainSums: a fresh world, numbers compared. -/
namespace Go.Proofs.YtcoiccbmcjdheaaGreat
open Go.RowKit Go.ChangeMaps Go.MapKept

set_option maxRecDepth 8000 in
theorem fresh08_W (w : World) : Calls Tryz.prog 6 #[] w fun e w' => ∃ p, e = .returned (.pointer (some ⟨p, 0, none⟩)) ∧ Own w w' p AM0 := by
  go_enter Tryz.func6, Tryz.ntmps6
  go_wp2_with fail
  refine (New_W w none 0 [] (.inl rfl)).mono ?_
  rintro e w1 hpost
  obtain ⟨p, F, rfl, hW, hF, hb⟩ := (Or.resolve_right hpost (fun h => h.1 atree)).2
  clear hpost
  have HO : Hid (Own w w1 p AM0) := ⟨F, hW, fun b h => hF b h, hb⟩
  clear hW hF hb
  go_wp2_with fail
  go_ret
  exact ⟨p, rfl, HO.out⟩

set_option maxRecDepth 8000 in
theorem vorder_num (w : World) (n : Int) (pv : Option Addr) (cv : Nat) : Calls Tryz.prog 42 #[.agg #[.int .u8 1, .int .i64 n, .string ⟨#[]⟩, .slice pv 0 cv, .int .i64 0], .agg #[.int .u8 1, .int .i64 n, .string ⟨#[]⟩, .slice none 0 0, .int .i64 0]] w fun e w' => e = .returned (.int .i64 0) ∧ Below w.heap.size w w' := by
  have HB : Hid (Below w.heap.size w ((w.alloc (.cells #[.int .u8 1, .int .i64 n, .string ⟨#[]⟩, .slice pv 0 cv, .int .i64 0] 34)).alloc (.cells #[.int .u8 1, .int .i64 n, .string ⟨#[]⟩, .slice none 0 0, .int .i64 0] 34))) := ((Below.refl _ _).alloc (Nat.le_refl _) _).alloc (by simp) _
  go_enter Tryz.func42, Tryz.ntmps42
  go_wp2_with fail
  refine (cmpI64_W _ n).mono ?_
  rintro e _ ⟨rfl, rfl⟩
  go_wp2_with fail
  go_ret
  exact ⟨rfl, HB.out⟩

set_option maxRecDepth 8000 in
theorem vSame_num (w : World) (n : Int) (pv : Option Addr) (cv : Nat) : Calls Tryz.prog 20 #[.agg #[.int .u8 1, .int .i64 n, .string ⟨#[]⟩, .slice pv 0 cv, .int .i64 0], .agg #[.int .u8 1, .int .i64 n, .string ⟨#[]⟩, .slice none 0 0, .int .i64 0]] w fun e w' => e = .returned (.bool true) ∧ Below w.heap.size w w' := by
  have HM : Hid (∀ (pv : Option Addr) (cv : Nat) (w : World), Calls Tryz.prog 27 #[.agg #[.int .u8 1, .int .i64 n, .string ⟨#[]⟩, .slice pv 0 cv, .int .i64 0]] w fun e w' => e = .returned (.bool true) ∧ Below w.heap.size w w') := fun pv cv w => by
    have h := vMay_G (v := numV n) (SlAt.nil w (fun _ => False) pv cv)
    rw [(refsV0 1 n (.inr rfl)).2] at h
    exact h
  go_enter Tryz.func20, Tryz.ntmps20
  go_wp2_with fail
  refine (HM.out _ _ _).mono ?_
  rintro e w1 ⟨rfl, hb1⟩
  have HB1 : Hid (Below w.heap.size w w1) := (((Below.refl _ w).alloc (Nat.le_refl _) _).alloc (by simp) _).trans (hb1.mono (by simp; omega))
  obtain ⟨⟨a0, a1, a2, a3, a4⟩, -⟩ := cells5 (below_blk hb1 (blk2_old w _ _))
  obtain ⟨⟨b0, b1, b2, b3, b4⟩, -⟩ := cells5 (below_blk hb1 (blk2_new w _ _))
  have HA := (show Hid _ from below_blk hb1 (blk2_old w _ _))
  have HC := (show Hid _ from below_blk hb1 (blk2_new w _ _))
  clear hb1
  go_wp2_with fail
  refine (HM.out _ _ _).mono ?_
  rintro e w2 ⟨rfl, hb2⟩
  have HB2 : Hid (Below w.heap.size w w2) := HB1.out.trans (hb2.mono HB1.out.size)
  have hA2 := below_blk hb2 HA.out
  have hC2 := below_blk hb2 HC.out
  clear a0 a1 a2 a3 a4 b0 b1 b2 b3 b4
  obtain ⟨⟨a0, a1, a2, a3, a4⟩, -⟩ := cells5 hA2
  obtain ⟨⟨b0, b1, b2, b3, b4⟩, -⟩ := cells5 hC2
  clear hb2 hA2 hC2 HA HC HB1
  go_wp2_with fail
  refine (vorder_num _ n _ _).mono ?_
  rintro e w3 ⟨rfl, hb3⟩
  have HB3 : Hid (Below w.heap.size w w3) := HB2.out.trans (hb3.mono HB2.out.size)
  clear hb3 a0 a1 a2 a3 a4 b0 b1 b2 b3 b4
  go_wp2_with fail
  go_ret
  exact ⟨rfl, HB3.out⟩

end Go.Proofs.YtcoiccbmcjdheaaGreat
/- PlainKeeps: the world with its cell, log, promise and keeper, and what each call makes of it. -/
namespace Go.Proofs.YtcoiccbmcjdheaaGreat
open Go.RowKit Go.ChangeMaps Go.MapKept

/-- The world holds c in its cell, vs in its log, f (if fu) in its promise; nothing of it lies in the blocks B. -/
def KAt (w : World) (p : Nat) (B : Nat → Prop) (c : Val) (vs : List Val) (fu : Bool) (f : Val) (wr : World) : Prop :=
  ∃ M F raw vals rawp, IsW wr p M F ∧ (∀ b, F b → w.heap.size ≤ b) ∧ Below w.heap.size w wr ∧ (M.at 1 = some (cellT 0 c raw) ∧ M.at 2 = some (qT 2 0 vs vals) ∧ M.at 3 = some (prT 0 f rawp fu) ∧ M.at 4 = some (kpT 0 3)) ∧ sideB M 0 = true ∧
    (mayV c = true ∧ mayV (listV vs) = true ∧ (∀ x ∈ vs, mayV x = true ∧ refsV x = []) ∧ mayV f = true ∧ (fu = false → f = nilV ∧ rawp = .slice none 0 0)) ∧ ∀ b, B b → ¬ F b ∧ b < wr.heap.size
/-- The blocks B hold what they held. -/
def Same (B : Nat → Prop) (w w' : World) : Prop := ∀ b, B b → w'.heap[b]? = w.heap[b]?
section
variable {w wr w' : World} {p : Nat} {B : Nat → Prop} {c f : Val} {vs : List Val} {fu : Bool}
theorem KAt.base (h : KAt w p B c vs fu f wr) : Below w.heap.size w wr := by
  obtain ⟨M, F, _, _, _, h1, h2, h3, -⟩ := h
  exact h3
theorem KAt.below (h : KAt w p B c vs fu f wr) (hb : Below wr.heap.size wr w') : KAt w p B c vs fu f w' := by
  obtain ⟨M, F, r1, r2, r3, h1, h2, h3, h4, h5, h6, h7⟩ := h
  exact ⟨M, F, r1, r2, r3, h1.below hb, h2, h3.trans (hb.mono h3.size), h4, h5, h6, fun b hB => ⟨(h7 b hB).1, Nat.lt_of_lt_of_le (h7 b hB).2 hb.size⟩⟩
/-- What is new is none of the world's. -/
theorem KAt.news (h : KAt w p B c vs fu f wr) (hb : Below wr.heap.size wr w') : KAt w p (fun b => B b ∨ (wr.heap.size ≤ b ∧ b < w'.heap.size)) c vs fu f w' := by
  obtain ⟨M, F, r1, r2, r3, h1, h2, h3, h4, h5, h6, h7⟩ := h
  refine ⟨M, F, r1, r2, r3, h1.below hb, h2, h3.trans (hb.mono h3.size), h4, h5, h6, fun b hB => ?_⟩
  rcases hB with hB | hB
  · exact ⟨(h7 b hB).1, Nat.lt_of_lt_of_le (h7 b hB).2 hb.size⟩
  · exact ⟨fun e => by have := h1.lt b e; omega, hB.2⟩
theorem KAt.fewer {B' : Nat → Prop} (h : KAt w p B c vs fu f wr) (hB : ∀ b, B' b → B b) : KAt w p B' c vs fu f wr := by
  obtain ⟨M, F, r1, r2, r3, h1, h2, h3, h4, h5, h6, h7⟩ := h
  exact ⟨M, F, r1, r2, r3, h1, h2, h3, h4, h5, h6, fun b hb => h7 b (hB b hb)⟩
theorem KAt.lt (h : KAt w p B c vs fu f wr) {b : Nat} (hb : B b) : b < wr.heap.size := by
  obtain ⟨M, F, r1, r2, r3, h1, h2, h3, h4, h5, h6, h7⟩ := h
  exact (h7 b hb).2
theorem Same.trans {w1 w2 w3 : World} {B : Nat → Prop} (h : Same B w1 w2) (k : Same B w2 w3) : Same B w1 w3 := fun b hb => (k b hb).trans (h b hb)
theorem Same.mono {w1 w2 : World} {B B' : Nat → Prop} (h : Same B w1 w2) (k : ∀ b, B' b → B b) : Same B' w1 w2 := fun b hb => h b (k b hb)
theorem KAt.same (h : KAt w p B c vs fu f wr) (hb : Below wr.heap.size wr w') : Same B wr w' := fun b hB => hb.block b (h.lt hB)
theorem SlAt.same {w w' : World} {FS B : Nat → Prop} {s : Value} {l : List Val} (h : SlAt w FS s l) (hS : Same B w w') (hB : ∀ b, FS b → B b) : SlAt w' FS s l := h.of_blocks (fun b hb => hS b (hB b hb)) (fun _ h => h)

theorem K_acts {N : WM} {F : Nat → Prop} (h2 : ∀ b, F b → w.heap.size ≤ b) (h3 : Below w.heap.size w wr) (h7 : ∀ b, B b → ¬ F b ∧ b < wr.heap.size) (ha : Acts wr p F N w') :
    ∃ F', IsW w' p N F' ∧ (∀ b, F' b → w.heap.size ≤ b) ∧ Below w.heap.size w w' ∧ (∀ b, B b → ¬ F' b ∧ b < w'.heap.size) ∧ Same B wr w' := by
  obtain ⟨hk, F', hW', hF'⟩ := ha
  refine ⟨F', hW', fun b hb => ?_, h3.trans (hk.below h3.size h2), fun b hB => ⟨fun e => ?_, Nat.lt_of_lt_of_le (h7 b hB).2 hk.size⟩, fun b hB => hk.block b (h7 b hB).2 (h7 b hB).1⟩
  · rcases hF' b hb with h | h
    · exact h2 b h
    · exact Nat.le_trans h3.size h
  · rcases hF' b e with h | h
    · exact (h7 b hB).1 h
    · have := (h7 b hB).2; omega
theorem norefs {M : WM} {x : Val} (h : refsV x = []) : ∀ r ∈ refsV x, (Lit.int .i64 r).wf = true ∧ (M.at r).isSome = true := fun r hr => by rw [h] at hr; cases hr

/-- The keeper is given x. -/
theorem keep_K (h : KAt w p B c vs fu f wr) {x : Val} {pv : Option Addr} {n cv : Nat} {FB : Nat → Prop} (hS : SlAt wr FB (.slice pv n cv) x.l) (hm : mayV x = true) (hr : refsV x = []) :
    Calls Tryz.prog 14 #[.pointer (some ⟨p, 0, none⟩), .int .i64 4, .agg (vcs x (.slice pv n cv))] wr fun e w' => ∃ c8 f', e = .returned (.int .i64 c8) ∧ KAt w p B c vs true f' w' ∧ Same B wr w' ∧ ((fu = true ∧ c8 = 83 ∧ f' = f) ∨ (fu = false ∧ c8 = 0 ∧ f' = x)) := by
  obtain ⟨M, F, r1, r2, r3, h1, h2, h3, ⟨a1, a2, a3, a4⟩, h5, ⟨m1, m2, m3, m4, m5⟩, h7⟩ := h
  refine (plGive_A (fun w1 hb => act_11_8 (h1.below hb) (by decide) (by decide) a4 a3 m4 h5 (hS.on hb) hm (norefs hr))).mono ?_
  rintro e w'' ⟨v, k, N, rfl, ⟨-, hx⟩, ha⟩
  rcases hx with ⟨hf, rfl, rfl⟩ | ⟨hf, rfl, raw', rfl⟩
  · obtain ⟨F', q1, q2, q3, q4, q5⟩ := K_acts h2 h3 h7 ha
    subst hf
    exact ⟨_, _, rfl, ⟨_, F', r1, r2, r3, q1, q2, q3, ⟨a1, a2, a3, a4⟩, h5, ⟨m1, m2, m3, m4, m5⟩, q4⟩, q5, .inl ⟨rfl, rfl, rfl⟩⟩
  · obtain ⟨F', q1, q2, q3, q4, q5⟩ := K_acts h2 h3 h7 ha
    exact ⟨_, x, rfl, ⟨_, F', r1, r2, raw', q1, q2, q3, ⟨by rw [WM.set_at_ne _ _ (by decide)]; exact a1, by rw [WM.set_at_ne _ _ (by decide)]; exact a2, WM.set_at_self _ a3, by rw [WM.set_at_ne _ _ (by decide)]; exact a4⟩, h5, ⟨m1, m2, m3, hm, fun e => by cases e⟩, q4⟩, q5, .inr ⟨hf, rfl, rfl⟩⟩
/-- x is put into the cell. -/
theorem put_K (h : KAt w p B c vs fu f wr) {x : Val} {pv : Option Addr} {n cv : Nat} {FB : Nat → Prop} (hS : SlAt wr FB (.slice pv n cv) x.l) (hm : mayV x = true) (hr : refsV x = []) :
    Calls Tryz.prog 13 #[.pointer (some ⟨p, 0, none⟩), .int .i64 1, .agg (vcs x (.slice pv n cv))] wr fun e w' => e = .returned (.int .i64 0) ∧ KAt w p B x vs fu f w' ∧ Same B wr w' := by
  obtain ⟨M, F, r1, r2, r3, h1, h2, h3, ⟨a1, a2, a3, a4⟩, h5, ⟨m1, m2, m3, m4, m5⟩, h7⟩ := h
  refine (plPut_A (fun w1 hb => act_1_2 (h1.below hb) (by decide) a1 m1 h5 (hS.on hb) hm (norefs hr))).mono ?_
  rintro e w'' ⟨v, k, N, rfl, ⟨-, rfl, raw', rfl⟩, ha⟩
  obtain ⟨F', q1, q2, q3, q4, q5⟩ := K_acts h2 h3 h7 ha
  exact ⟨rfl, ⟨_, F', raw', r2, r3, q1, q2, q3, ⟨WM.set_at_self _ a1, by rw [WM.set_at_ne _ _ (by decide)]; exact a2, by rw [WM.set_at_ne _ _ (by decide)]; exact a3, by rw [WM.set_at_ne _ _ (by decide)]; exact a4⟩, h5, ⟨hm, m2, m3, m4, m5⟩, q4⟩, q5⟩
/-- The log is given x. -/
theorem log_K (h : KAt w p B c vs fu f wr) {x : Val} {pv : Option Addr} {n cv : Nat} {FB : Nat → Prop} (hS : SlAt wr FB (.slice pv n cv) x.l) (hm : mayV x = true) (hr : refsV x = []) :
    Calls Tryz.prog 14 #[.pointer (some ⟨p, 0, none⟩), .int .i64 2, .agg (vcs x (.slice pv n cv))] wr fun e w' => ∃ c8 vs', e = .returned (.int .i64 c8) ∧ KAt w p B c vs' fu f w' ∧ Same B wr w' ∧ ((mayV (listV (vs ++ [x])) = true ∧ c8 = 0 ∧ vs' = vs ++ [x]) ∨ (mayV (listV (vs ++ [x])) = false ∧ c8 = 8 ∧ vs' = vs)) := by
  obtain ⟨M, F, r1, r2, r3, h1, h2, h3, ⟨a1, a2, a3, a4⟩, h5, ⟨m1, m2, m3, m4, m5⟩, h7⟩ := h
  have hlen := may_list_len m2
  have hheld : ∀ r ∈ heldL (qT 2 0 vs r2), (Lit.int .i64 r).wf = true ∧ (M.at r).isSome = true := fun r hr => by
    simp only [heldL, List.mem_append, List.mem_flatMap] at hr
    rcases hr with hr | ⟨x, hx, hr⟩
    · rw [(refsV0 0 0 (.inl ⟨rfl, rfl⟩)).1] at hr
      cases hr
    · rw [(m3 x hx).2] at hr
      cases hr
  refine (plGive_A (fun w1 hb => act_2_8 (h1.below hb) (by decide) a2 h5 hheld (fun x hx => (m3 x hx).1) (by omega) (hS.on hb) hm (norefs hr))).mono ?_
  rintro e w'' ⟨v, k, N, rfl, ⟨-, hx⟩, ha⟩
  rcases hx with ⟨hy, rfl, vals', rfl⟩ | ⟨hy, rfl, rfl⟩
  · obtain ⟨F', q1, q2, q3, q4, q5⟩ := K_acts h2 h3 h7 ha
    exact ⟨_, _, rfl, ⟨_, F', r1, vals', r3, q1, q2, q3, ⟨by rw [WM.set_at_ne _ _ (by decide)]; exact a1, WM.set_at_self _ a2, by rw [WM.set_at_ne _ _ (by decide)]; exact a3, by rw [WM.set_at_ne _ _ (by decide)]; exact a4⟩, h5, ⟨m1, hy, fun y hy => by
      rcases List.mem_append.1 hy with hy | hy
      · exact m3 y hy
      · rw [List.mem_singleton.1 hy]
        exact ⟨hm, hr⟩, m4, m5⟩, q4⟩, q5, .inl ⟨hy, rfl, rfl⟩⟩
  · obtain ⟨F', q1, q2, q3, q4, q5⟩ := K_acts h2 h3 h7 ha
    exact ⟨_, _, rfl, ⟨_, F', r1, r2, r3, q1, q2, q3, ⟨a1, a2, a3, a4⟩, h5, ⟨m1, m2, m3, m4, m5⟩, q4⟩, q5, .inr ⟨hy, rfl, rfl⟩⟩
/-- What a get answers: x, in blocks FS that are none of the world's. -/
def GotK (w : World) (p : Nat) (B : Nat → Prop) (c : Val) (vs : List Val) (fu : Bool) (f : Val) (wr : World) (x : Val) (n : Int) (e : Ending) (w' : World) : Prop :=
  ∃ pv cv FS, e = .returned (.tuple #[.agg (vcs x (.slice pv x.l.length cv)), .int .i64 n]) ∧ KAt w p (fun b => B b ∨ FS b) c vs fu f w' ∧ Same B wr w' ∧ SlAt w' FS (.slice pv x.l.length cv) x.l
theorem got_K {M : WM} {F : Nat → Prop} {r1 r2 r3 : Value} {r : Int} {x : Val} {n : Int} (h1 : IsW wr p M F) (h2 : ∀ b, F b → w.heap.size ≤ b) (h3 : Below w.heap.size w wr) (h4 : M.at 1 = some (cellT 0 c r1) ∧ M.at 2 = some (qT 2 0 vs r2) ∧ M.at 3 = some (prT 0 f r3 fu) ∧ M.at 4 = some (kpT 0 3)) (h5 : sideB M 0 = true)
    (h6 : mayV c = true ∧ mayV (listV vs) = true ∧ (∀ x ∈ vs, mayV x = true ∧ refsV x = []) ∧ mayV f = true ∧ (fu = false → f = nilV ∧ r3 = .slice none 0 0)) (h7 : ∀ b, B b → ¬ F b ∧ b < wr.heap.size)
    (hD : ∀ w1, Below wr.heap.size wr w1 → Calls Tryz.prog 38 #[.pointer (some ⟨p, 0, none⟩), .int .i64 r, .int .u8 1, .agg (vcs nilV (.slice none 0 0))] w1 (ActPost w1 p F (fun v c N => v = x ∧ c = n ∧ N = M))) :
    Calls Tryz.prog 24 #[.pointer (some ⟨p, 0, none⟩), .int .i64 r] wr (GotK w p B c vs fu f wr x n) := by
  refine (plGet_A h1.lt hD).mono ?_
  rintro e w'' ⟨v, pv, cv, k, N, F', rfl, ⟨rfl, rfl, rfl⟩, hk, hW', hF', hS⟩
  have ha : Acts wr p F N w'' := ⟨hk, F', hW', hF'⟩
  obtain ⟨F2, q1, q2, q3, q4, q5⟩ := K_acts h2 h3 h7 ha
  have hS' := SlAt.lt hS
  refine ⟨pv, cv, _, rfl, ⟨N, F', r1, r2, r3, hW', fun b hb => ?_, q3, h4, h5, h6, fun b hb => ?_⟩, q5, hS'⟩
  · rcases hF' b hb with h | h
    · exact h2 b h
    · exact Nat.le_trans h3.size h
  · rcases hb with hb | hb
    · refine ⟨fun e => ?_, Nat.lt_of_lt_of_le (h7 b hb).2 hk.size⟩
      rcases hF' b e with h | h
      · exact (h7 b hb).1 h
      · have := (h7 b hb).2; omega
    · exact ⟨hb.1.1.2, hb.2⟩
theorem getc_K (h : KAt w p B c vs fu f wr) : Calls Tryz.prog 24 #[.pointer (some ⟨p, 0, none⟩), .int .i64 1] wr (GotK w p B c vs fu f wr c 0) := by
  obtain ⟨M, F, r1, r2, r3, h1, h2, h3, h4, h5, h6, h7⟩ := h
  exact got_K h1 h2 h3 h4 h5 h6 h7 (fun w1 hb => act_1_1 (h1.below hb) (by decide) h4.1 h6.1)
theorem getg_K (h : KAt w p B c vs fu f wr) : Calls Tryz.prog 24 #[.pointer (some ⟨p, 0, none⟩), .int .i64 2] wr (GotK w p B c vs fu f wr (listV vs) 0) := by
  obtain ⟨M, F, r1, r2, r3, h1, h2, h3, h4, h5, h6, h7⟩ := h
  have := may_list_len h6.2.1
  exact got_K h1 h2 h3 h4 h5 h6 h7 (fun w1 hb => act_2_1 (h1.below hb) (by decide) h4.2.1 (fun x hx => (h6.2.2.1 x hx).1) (by omega))
theorem getp_K (h : KAt w p B c vs true f wr) : Calls Tryz.prog 24 #[.pointer (some ⟨p, 0, none⟩), .int .i64 3] wr (GotK w p B c vs true f wr f 0) := by
  obtain ⟨M, F, r1, r2, r3, h1, h2, h3, h4, h5, h6, h7⟩ := h
  exact got_K h1 h2 h3 h4 h5 h6 h7 (fun w1 hb => act_10_1 (h1.below hb) (by decide) h4.2.2.1 h6.2.2.2.1)
theorem geto_K (h : KAt w p B c vs false f wr) : Calls Tryz.prog 24 #[.pointer (some ⟨p, 0, none⟩), .int .i64 3] wr (GotK w p B c vs false f wr nilV 82) := by
  obtain ⟨M, F, r1, r2, r3, h1, h2, h3, h4, h5, h6, h7⟩ := h
  obtain ⟨rfl, rfl⟩ := h6.2.2.2.2 rfl
  exact got_K h1 h2 h3 h4 h5 h6 h7 (fun w1 hb => act_10_1n (h1.below hb) (by decide) h4.2.2.1)
end
/-! ### how it begins -/
def KM1 (x : Val) (a : Value) : WM := AM0.add (cellT 0 x a)
def KM2 (x : Val) (a : Value) : WM := (KM1 x a).add (lt 2 0 0 0 0 0 0 0 0 false)
theorem km2_no (x : Val) (a : Value) : ∀ q v, ((KM2 x a).add (lt 10 0 0 0 0 0 0 0 0 false)).at q = some v → q ≠ 0 → v.kind = 11 → v.tgt ≠ (KM2 x a).last + 1 := by
  intro q v hv _ hk
  exfalso
  have hv : List.lookup q [((1 : Int), cellT 0 x a), (2, lt 2 0 0 0 0 0 0 0 0 false), (3, lt 10 0 0 0 0 0 0 0 0 false)] = some v := hv
  simp only [List.lookup_cons, List.lookup_nil] at hv
  split at hv
  · cases hv
    exact absurd (show (1 : Int) = 11 from hk) (by decide)
  split at hv
  · cases hv
    exact absurd (show (2 : Int) = 11 from hk) (by decide)
  split at hv
  · cases hv
    exact absurd (show (10 : Int) = 11 from hk) (by decide)
  · cases hv
variable {w wr : World} {p : Nat}
theorem cell_K (h : Own w wr p AM0) {x : Val} {raw : Value} {FB : Nat → Prop} (hS : SlAt wr FB raw x.l) (hm : mayV x = true) (hr : refsV x = []) :
    Calls Tryz.prog 9 #[.pointer (some ⟨p, 0, none⟩), .int .i64 0, .agg (vcs x raw)] wr fun e w' => e = .returned (.tuple #[.int .i64 1, .int .i64 0]) ∧ ∃ a, Own w w' p (KM1 x a) := by
  obtain ⟨F, hW, h2, h3⟩ := h
  refine (Cell_G hW (by decide) (h := 0) (by decide) x raw hS hm (norefs hr)).mono ?_
  rintro e w3 (⟨-, rfl, t, F', ⟨vl', rfl⟩, hW', hg⟩ | ⟨hx, -, -⟩)
  · exact ⟨rfl, vl', Own.turn h2 h3 hW' hg⟩
  · exact absurd (by decide) hx
theorem logn_K {x : Val} {a : Value} (h : Own w wr p (KM1 x a)) : Calls Tryz.prog 10 #[.pointer (some ⟨p, 0, none⟩), .int .i64 0] wr fun e w' => e = .returned (.tuple #[.int .i64 2, .int .i64 0]) ∧ Own w w' p (KM2 x a) := by
  obtain ⟨F, hW, h2, h3⟩ := h
  refine (Log_G hW (by show (1 : Int) + 1 ≤ 1099511627776; decide) (h := 0) (by show (0 : Int) ≤ 0 ∧ (0 : Int) < 1; decide)).mono ?_
  rintro e w3 (⟨-, rfl, t, F', rfl, hW', hg⟩ | ⟨hx, -, -⟩)
  · exact ⟨rfl, Own.turn h2 h3 hW' hg⟩
  · exact absurd (by show (1 : Int) < 512; decide) hx
theorem prom_K {x : Val} {a : Value} (h : Own w wr p (KM2 x a)) (hm : mayV x = true) : Calls Tryz.prog 23 #[.pointer (some ⟨p, 0, none⟩), .int .i64 0] wr fun e w' => e = .returned (.tuple #[.int .i64 3, .int .i64 4, .int .i64 0]) ∧ KAt w p (fun _ => False) x [] false nilV w' := by
  obtain ⟨F, hW, h2, h3⟩ := h
  refine (Promise_G hW (by show (2 : Int) + 2 ≤ 1099511627776; decide) (by show (0 : Int) ≤ 2; decide) (h := 0) (by show (0 : Int) ≤ 0 ∧ (0 : Int) < 1; decide) (by show (2 : Int) + 2 ≤ 512; decide) (by show (0 : Int) ≤ 2; decide) rfl rfl rfl rfl (km2_no x a)).mono ?_
  rintro e w3 ⟨rfl, F', hW', hg⟩
  have hO := Own.turn h2 h3 hW' hg
  obtain ⟨F2, q1, q2, q3⟩ := hO
  exact ⟨rfl, _, F2, a, .slice none 0 0, .slice none 0 0, q1, q2, q3, ⟨rfl, rfl, rfl, rfl⟩, rfl, ⟨hm, rfl, fun x hx => (by cases hx), rfl, fun _ => ⟨rfl, rfl⟩⟩, fun b hb => hb.elim⟩
end Go.Proofs.YtcoiccbmcjdheaaGreat
