/- A part of the proof, several texts in one: SameV, SuA, QuA. -/
import Derived.Test.YtcoiccbmcjdheaaGreatmBJ
import Derived.Test.YtcoiccbmcjdheaaGreatmAG
import Derived.Test.YtcoiccbmcjdheaaGreatmBI
/- Are two values the same? At one value, whatever it holds and wherever it lies: yes. -/
namespace Go.Proofs.YtcoiccbmcjdheaaGreat
open Go.RowKit Go.ChangeMaps Go.MapKept

theorem bytesLess_same : ∀ l, Op.bytesLess l l = false
  | [] => rfl
  | x :: l => by
    have := bytesLess_same l
    simp [Op.bytesLess, this]
set_option maxRecDepth 8000 in
theorem cmpStr_W (w : World) (s : ByteArray) : Calls Tryz.prog 64 #[.string s, .string s] w fun e w' => e = .returned (.int .i64 0) ∧ w = w' := by
  have h1 := bytesLess_same s.toList
  go_enter Tryz.func64, Tryz.ntmps64
  go_wp2
  go_ret
  exact ⟨rfl, rfl⟩
set_option maxRecDepth 8000 in
theorem cmpRef_W (w : World) (a : Int) : Calls Tryz.prog 65 #[.int .i64 a, .int .i64 a] w fun e w' => e = .returned (.int .i64 0) ∧ w = w' := by
  have h1 : ¬ (a < a) := Int.lt_irrefl a
  have h2 : ¬ (a > a) := Int.lt_irrefl a
  go_enter Tryz.func65, Tryz.ntmps65
  go_wp2
  go_ret
  exact ⟨rfl, rfl⟩

set_option maxRecDepth 8000 in
theorem cmpfVal_nil2 (w : World) (pa pa2 : Option Addr) (c c2 : Nat) (f : Value) : Calls Tryz.prog 66 #[.slice pa 0 c, .slice pa2 0 c2, f] w fun e w' => e = .returned (.int .i64 0) ∧ w = w' := by
  go_enter Tryz.func66, Tryz.ntmps66
  go_wp2_with fail
  go_loopw [13] (fun vi wr => vi = .int .i64 0 ∧ wr = w) (fun _ _ => 0)
  case atStart => exact ⟨rfl, rfl⟩
  case round =>
    obtain ⟨rfl, rfl⟩ := hrel
    go_wp2_with fail
    go_ret
    exact ⟨rfl, rfl⟩
/-- Order at one value that is n deep. -/
def OrdC (n : Nat) : Prop := ∀ (v : Val) (raw1 raw2 : Value) (w : World) (F1 F2 : Nat → Prop), depV n v → SlAt w F1 raw1 v.l → SlAt w F2 raw2 v.l →
  Calls Tryz.prog 42 #[.agg (vcs v raw1), .agg (vcs v raw2)] w fun e w' => e = .returned (.int .i64 0) ∧ Below w.heap.size w w'

theorem execOp_ldVo17 (ρ : Operand → Value) (ty : TypeId) (pos : String) (af : Array Edge) (g : Option (Nat × Bool)) :
    execOp ρ { dst := some 17, op := .load 34 (.tmp 16), type := ty, pos := pos, after := af, guard := g } = ldV (ρ (.tmp 16)) := rfl
theorem execOp_ldVo25 (ρ : Operand → Value) (ty : TypeId) (pos : String) (af : Array Edge) (g : Option (Nat × Bool)) :
    execOp ρ { dst := some 25, op := .load 34 (.tmp 24), type := ty, pos := pos, after := af, guard := g } = ldV (ρ (.tmp 24)) := rfl
attribute [local go_sem ↓] execOp_ldVo17 execOp_ldVo25 in
set_option maxHeartbeats 4000000 in
set_option maxRecDepth 8000 in
theorem cmpfVal_G {n : Nat} (ih : OrdC n) {w : World} {F1 F2 : Nat → Prop} (l : List Val) (s1 s2 : Value) (hS1 : SlAt w F1 s1 l) (hS2 : SlAt w F2 s2 l) (hl : l.length ≤ 512) (hd : ∀ x ∈ l, depV n x) :
    Calls Tryz.prog 66 #[s1, s2, .func (.func 42) #[] #[]] w fun e w' => e = .returned (.int .i64 0) ∧ Below w.heap.size w w' := by
  obtain ⟨pa, c, rfl⟩ := hS1.form
  obtain ⟨pa2, c2, rfl⟩ := hS2.form
  have HS := (show Hid (SlAt w F1 (.slice pa l.length c) l ∧ SlAt w F2 (.slice pa2 l.length c2) l) from ⟨hS1, hS2⟩)
  have HD := (show Hid _ from hd)
  have IH := (show Hid (OrdC n) from ih)
  clear hS1 hS2 hd ih
  go_enter Tryz.func66, Tryz.ntmps66
  go_wp2_with fail
  go_loopw [13] (fun vi wr => ∃ k : Nat, vi = .int .i64 k ∧ k ≤ l.length ∧ Hid (Below w.heap.size w wr)) (fun vi _ => l.length - (intOf vi).toNat)
  case atStart => exact ⟨0, rfl, Nat.zero_le _, Below.refl _ _⟩
  case round =>
    obtain ⟨k, rfl, hk, HI⟩ := hrel
    by_cases hkl : k < l.length
    · have hkz : (k : Int) < (l.length : Int) := by omega
      have hkz2 : ¬ (k : Int) ≥ (l.length : Int) := by omega
      obtain ⟨x, hx⟩ : ∃ x, l[k]? = some x := ⟨_, List.getElem?_eq_getElem hkl⟩
      obtain ⟨b, o, c', raw, hpe, hrg, -, -, hSx⟩ := (HS.out.1.on HI.out).range hx
      cases hpe
      obtain ⟨b2, o2, c2', raw2, hpe2, hrg2, -, -, hSx2⟩ := (HS.out.2.on ((HI.out).trans ((Below.refl _ _).alloc HI.out.size (.cells (vcs x raw) 34)))).range hx
      cases hpe2
      obtain ⟨xk, xn, xs, xl, xr⟩ := x
      obtain ⟨qa, qc, rfl⟩ := hSx.form
      obtain ⟨qa2, qc2, rfl⟩ := hSx2.form
      have hld0 := loadV_mid hrg rfl
      have hld : (ldV (.pointer (some ⟨b, o + k * 5, none⟩))).run Tryz.prog wr = .ok (.value (.agg #[.int .u8 xk, .int .i64 xn, .string xs, .slice qa xl.length qc, .int .i64 xr])) wr := hld0
      have hld1 := loadV_mid hrg2 rfl
      have hld2 : (ldV (.pointer (some ⟨b2, o2 + k * 5, none⟩))).run Tryz.prog (wr.alloc (.cells #[.int .u8 xk, .int .i64 xn, .string xs, .slice qa xl.length qc, .int .i64 xr] 34)) = .ok (.value (.agg #[.int .u8 xk, .int .i64 xn, .string xs, .slice qa2 xl.length qc2, .int .i64 xr])) (wr.alloc (.cells #[.int .u8 xk, .int .i64 xn, .string xs, .slice qa xl.length qc, .int .i64 xr] 34)) := hld1
      have Hx := (show Hid (SlAt wr F1 (.slice qa xl.length qc) xl ∧ SlAt (wr.alloc (.cells #[.int .u8 xk, .int .i64 xn, .string xs, .slice qa xl.length qc, .int .i64 xr] 34)) F2 (.slice qa2 xl.length qc2) xl ∧ depV n ⟨xk, xn, xs, xl, xr⟩) from ⟨hSx, hSx2, HD.out _ (List.mem_of_getElem? hx)⟩)
      have hwk : wrap64 ((k : Int) + 1) = (k : Int) + 1 := by unfold wrap64; omega
      clear hld0 hld1 hx hrg hrg2 hSx hSx2
      go_wp2_with fail
      refine (IH.out ⟨xk, xn, xs, xl, xr⟩ _ _ _ _ _ Hx.out.2.2 ((Hx.out.1.on ((Below.refl _ _).alloc (Nat.le_refl _) _)).on ((Below.refl _ _).alloc (Nat.le_refl _) _)) (Hx.out.2.1.on ((Below.refl _ _).alloc (Nat.le_refl _) _))).mono ?_
      rintro e w5 ⟨rfl, hb5⟩
      have HI5 : Hid (Below w.heap.size w w5) := (HI.out.trans (((Below.refl _ _).alloc HI.out.size _).alloc (by have := HI.out.size; simp; omega) _)).trans (hb5.mono (by have := HI.out.size; simp; omega))
      clear hb5 HI Hx hld hld2
      go_wp2_with fail
      go_roundw
      case rel => exact ⟨k + 1, by go_num, by omega, HI5⟩
      case measure => simp [intOf]; omega
    · have hkz : ¬ (k : Int) < (l.length : Int) := by omega
      obtain rfl : k = l.length := by omega
      have hkk : ¬ (l.length : Int) < (l.length : Int) := by omega
      go_wp2_with fail
      go_ret
      exact ⟨rfl, HI.out⟩
set_option maxHeartbeats 4000000 in
set_option maxRecDepth 8000 in
theorem ord_step (n : Nat) (ih : ∀ m, n = m + 1 → OrdC m) : OrdC n := by
  intro v raw1 raw2 w F1 F2 hd hS1 hS2
  obtain ⟨pa, c, rfl⟩ := hS1.form
  obtain ⟨pa2, c2, rfl⟩ := hS2.form
  have hF : v.kind = 1 ∨ v.kind = 2 ∨ v.kind = 4 ∨ (v.kind ≠ 1 ∧ v.kind ≠ 2 ∧ v.kind ≠ 4) := by omega
  have HB : Hid (Below w.heap.size w ((w.alloc (.cells (vcs v (.slice pa v.l.length c)) 34)).alloc (.cells (vcs v (.slice pa2 v.l.length c2)) 34))) := ((Below.refl _ _).alloc (Nat.le_refl _) _).alloc (by simp) _
  have hl : ∀ w', Below w.heap.size w w' → Calls Tryz.prog 66 #[.slice pa v.l.length c, .slice pa2 v.l.length c2, .func (.func 42) #[] #[]] w' fun e w'' => e = .returned (.int .i64 0) ∧ Below w'.heap.size w' w'' := fun w' hb => by
    cases n with
    | zero =>
      have e : v.l = [] := hd
      have h1 := hS1.on hb
      have h2 := hS2.on hb
      rw [e] at h1 h2 ⊢
      exact (cmpfVal_nil2 w' pa pa2 c c2 _).mono fun e w'' ⟨h1, h2⟩ => ⟨h1, by rw [← h2]; exact Below.refl _ _⟩
    | succ m => exact cmpfVal_G (ih m rfl) v.l _ _ (hS1.on hb) (hS2.on hb) hd.1 hd.2
  obtain ⟨k, nn, s, l, r⟩ := v
  have HL := (show Hid _ from hl)
  clear hS1 hS2 hd hl ih
  simp only [vcs] at HB HL hF ⊢
  rcases hF with rfl | rfl | rfl | ⟨h1, h2, h4⟩
  · go_enter Tryz.func42, Tryz.ntmps42
    go_wp2_with fail
    refine (cmpI64_W _ nn).mono ?_
    rintro e _ ⟨rfl, rfl⟩
    go_wp2_with fail
    go_ret
    exact ⟨rfl, HB.out⟩
  · go_enter Tryz.func42, Tryz.ntmps42
    go_wp2_with fail
    refine (cmpStr_W _ s).mono ?_
    rintro e _ ⟨rfl, rfl⟩
    go_wp2_with fail
    go_ret
    exact ⟨rfl, HB.out⟩
  · go_enter Tryz.func42, Tryz.ntmps42
    go_wp2_with fail
    refine (cmpRef_W _ r).mono ?_
    rintro e _ ⟨rfl, rfl⟩
    go_wp2_with fail
    go_ret
    exact ⟨rfl, HB.out⟩
  · go_enter Tryz.func42, Tryz.ntmps42
    go_wp2_with fail
    refine Calls.mono (HL.out _ HB.out) ?_
    rintro e w3 ⟨rfl, hb⟩
    have HB3 : Hid (Below w.heap.size w w3) := HB.out.trans (hb.mono HB.out.size)
    clear hb HB HL
    go_wp2_with fail
    go_ret
    exact ⟨rfl, HB3.out⟩
theorem order_G (n : Nat) : OrdC n := by
  induction n with
  | zero => exact ord_step 0 (fun m h => by cases h)
  | succ n ih => exact ord_step (n + 1) (fun m h => by cases h; exact ih)

set_option maxHeartbeats 2000000 in
set_option maxRecDepth 8000 in
/-- One value is the same as itself, wherever it lies. -/
theorem vSame_G {w : World} {F1 F2 : Nat → Prop} (v : Val) (raw1 raw2 : Value) (hS1 : SlAt w F1 raw1 v.l) (hS2 : SlAt w F2 raw2 v.l) (hm : mayV v = true) : Calls Tryz.prog 20 #[.agg (vcs v raw1), .agg (vcs v raw2)] w fun e w' => e = .returned (.bool true) ∧ Below w.heap.size w w' := by
  obtain ⟨pa, c, rfl⟩ := hS1.form
  obtain ⟨pa2, c2, rfl⟩ := hS2.form
  have HM : Hid (∀ w', Below w.heap.size w w' → Calls Tryz.prog 27 #[.agg (vcs v (.slice pa v.l.length c))] w' (fun e w'' => e = .returned (.bool true) ∧ Below w'.heap.size w' w'') ∧ Calls Tryz.prog 27 #[.agg (vcs v (.slice pa2 v.l.length c2))] w' (fun e w'' => e = .returned (.bool true) ∧ Below w'.heap.size w' w'') ∧
      Calls Tryz.prog 42 #[.agg (vcs v (.slice pa v.l.length c)), .agg (vcs v (.slice pa2 v.l.length c2))] w' (fun e w'' => e = .returned (.int .i64 0) ∧ Below w'.heap.size w' w'')) := fun w' hb => by
    have h1 := vMay_G (hS1.on hb)
    have h2 := vMay_G (hS2.on hb)
    rw [hm] at h1 h2
    exact ⟨h1, h2, order_G 16 v _ _ w' _ _ (depV_may hm) (hS1.on hb) (hS2.on hb)⟩
  clear hS1 hS2 hm
  obtain ⟨k, n, s, l, r⟩ := v
  simp only [vcs] at HM ⊢
  generalize l.length = m at *
  go_enter Tryz.func20, Tryz.ntmps20
  go_wp2_with fail
  have HB0 : Hid (Below w.heap.size w ((w.alloc (.cells #[.int .u8 k, .int .i64 n, .string s, .slice pa m c, .int .i64 r] 34)).alloc (.cells #[.int .u8 k, .int .i64 n, .string s, .slice pa2 m c2, .int .i64 r] 34))) := ((Below.refl _ w).alloc (Nat.le_refl _) _).alloc (by simp) _
  refine Calls.mono (HM.out _ HB0.out).1 ?_
  rintro e w1 ⟨rfl, hb1⟩
  have HB1 : Hid (Below w.heap.size w w1) := HB0.out.trans (hb1.mono HB0.out.size)
  obtain ⟨⟨a0, a1, a2, a3, a4⟩, -⟩ := cells5 (below_blk hb1 (blk2_old w _ _))
  obtain ⟨⟨b0, b1, b2, b3, b4⟩, -⟩ := cells5 (below_blk hb1 (blk2_new w _ _))
  have HA := (show Hid _ from below_blk hb1 (blk2_old w _ _))
  have HC := (show Hid _ from below_blk hb1 (blk2_new w _ _))
  clear hb1 HB0
  go_wp2_with fail
  refine Calls.mono (HM.out _ HB1.out).2.1 ?_
  rintro e w2 ⟨rfl, hb2⟩
  have HB2 : Hid (Below w.heap.size w w2) := HB1.out.trans (hb2.mono HB1.out.size)
  have hA2 := below_blk hb2 HA.out
  have hC2 := below_blk hb2 HC.out
  clear a0 a1 a2 a3 a4 b0 b1 b2 b3 b4
  obtain ⟨⟨a0, a1, a2, a3, a4⟩, -⟩ := cells5 hA2
  obtain ⟨⟨b0, b1, b2, b3, b4⟩, -⟩ := cells5 hC2
  clear hb2 hA2 hC2 HA HC HB1
  go_wp2_with fail
  refine Calls.mono (HM.out _ HB2.out).2.2 ?_
  rintro e w3 ⟨rfl, hb3⟩
  have HB3 : Hid (Below w.heap.size w w3) := HB2.out.trans (hb3.mono HB2.out.size)
  clear hb3 a0 a1 a2 a3 a4 b0 b1 b2 b3 b4
  go_wp2_with fail
  go_ret
  exact ⟨rfl, HB3.out⟩
end Go.Proofs.YtcoiccbmcjdheaaGreat
/- Helpers of PlainSums: a fresh world, numbers compared. -/
namespace Go.Proofs.YtcoiccbmcjdheaaGreat
open Go.RowKit Go.ChangeMaps Go.MapKept

set_option maxRecDepth 8000 in
theorem fresh08_W (w : World) : Calls Tryz.prog 6 #[] w fun e w' => ∃ p, e = .returned (.pointer (some ⟨p, 0, none⟩)) ∧ Own w w' p AM0 := by
  go_enter Tryz.func6, Tryz.ntmps6
  go_wp2_with fail
  refine (New_W w none 0 [] (.inl rfl)).mono ?_
  rintro e w1 hpost
  obtain ⟨p, F, rfl, hW, hF, hb⟩ := (Or.resolve_right hpost (fun h => h.1 atree)).2
  clear hpost
  have HO : Hid (Own w w1 p AM0) := ⟨F, hW, fun b h => hF b h, hb⟩
  clear hW hF hb
  go_wp2_with fail
  go_ret
  exact ⟨p, rfl, HO.out⟩

set_option maxRecDepth 8000 in
theorem vorder_num (w : World) (n : Int) (pv : Option Addr) (cv : Nat) : Calls Tryz.prog 42 #[.agg #[.int .u8 1, .int .i64 n, .string ⟨#[]⟩, .slice pv 0 cv, .int .i64 0], .agg #[.int .u8 1, .int .i64 n, .string ⟨#[]⟩, .slice none 0 0, .int .i64 0]] w fun e w' => e = .returned (.int .i64 0) ∧ Below w.heap.size w w' := by
  have HB : Hid (Below w.heap.size w ((w.alloc (.cells #[.int .u8 1, .int .i64 n, .string ⟨#[]⟩, .slice pv 0 cv, .int .i64 0] 34)).alloc (.cells #[.int .u8 1, .int .i64 n, .string ⟨#[]⟩, .slice none 0 0, .int .i64 0] 34))) := ((Below.refl _ _).alloc (Nat.le_refl _) _).alloc (by simp) _
  go_enter Tryz.func42, Tryz.ntmps42
  go_wp2_with fail
  refine (cmpI64_W _ n).mono ?_
  rintro e _ ⟨rfl, rfl⟩
  go_wp2_with fail
  go_ret
  exact ⟨rfl, HB.out⟩

set_option maxRecDepth 8000 in
theorem vSame_num (w : World) (n : Int) (pv : Option Addr) (cv : Nat) : Calls Tryz.prog 20 #[.agg #[.int .u8 1, .int .i64 n, .string ⟨#[]⟩, .slice pv 0 cv, .int .i64 0], .agg #[.int .u8 1, .int .i64 n, .string ⟨#[]⟩, .slice none 0 0, .int .i64 0]] w fun e w' => e = .returned (.bool true) ∧ Below w.heap.size w w' := by
  have HM : Hid (∀ (pv : Option Addr) (cv : Nat) (w : World), Calls Tryz.prog 27 #[.agg #[.int .u8 1, .int .i64 n, .string ⟨#[]⟩, .slice pv 0 cv, .int .i64 0]] w fun e w' => e = .returned (.bool true) ∧ Below w.heap.size w w') := fun pv cv w => by
    have h := vMay_G (v := numV n) (SlAt.nil w (fun _ => False) pv cv)
    rw [(refsV0 1 n (.inr rfl)).2] at h
    exact h
  go_enter Tryz.func20, Tryz.ntmps20
  go_wp2_with fail
  refine (HM.out _ _ _).mono ?_
  rintro e w1 ⟨rfl, hb1⟩
  have HB1 : Hid (Below w.heap.size w w1) := (((Below.refl _ w).alloc (Nat.le_refl _) _).alloc (by simp) _).trans (hb1.mono (by simp; omega))
  obtain ⟨⟨a0, a1, a2, a3, a4⟩, -⟩ := cells5 (below_blk hb1 (blk2_old w _ _))
  obtain ⟨⟨b0, b1, b2, b3, b4⟩, -⟩ := cells5 (below_blk hb1 (blk2_new w _ _))
  have HA := (show Hid _ from below_blk hb1 (blk2_old w _ _))
  have HC := (show Hid _ from below_blk hb1 (blk2_new w _ _))
  clear hb1
  go_wp2_with fail
  refine (HM.out _ _ _).mono ?_
  rintro e w2 ⟨rfl, hb2⟩
  have HB2 : Hid (Below w.heap.size w w2) := HB1.out.trans (hb2.mono HB1.out.size)
  have hA2 := below_blk hb2 HA.out
  have hC2 := below_blk hb2 HC.out
  clear a0 a1 a2 a3 a4 b0 b1 b2 b3 b4
  obtain ⟨⟨a0, a1, a2, a3, a4⟩, -⟩ := cells5 hA2
  obtain ⟨⟨b0, b1, b2, b3, b4⟩, -⟩ := cells5 hC2
  clear hb2 hA2 hC2 HA HC HB1
  go_wp2_with fail
  refine (vorder_num _ n _ _).mono ?_
  rintro e w3 ⟨rfl, hb3⟩
  have HB3 : Hid (Below w.heap.size w w3) := HB2.out.trans (hb3.mono HB2.out.size)
  clear hb3 a0 a1 a2 a3 a4 b0 b1 b2 b3 b4
  go_wp2_with fail
  go_ret
  exact ⟨rfl, HB3.out⟩

end Go.Proofs.YtcoiccbmcjdheaaGreat
/- PlainQueue: the world with its queue, and what each call makes of it. -/
namespace Go.Proofs.YtcoiccbmcjdheaaGreat
open Go.RowKit Go.ChangeMaps Go.MapKept

/-- A list whose values may all be, and hold no references. -/
def Light (l : List Val) : Prop := ∀ x ∈ l, mayV x = true ∧ refsV x = []
/-- The world holds the queue, and nothing of it lies in the blocks B. -/
def QAt (w : World) (p : Nat) (B : Nat → Prop) (vs : List Val) (wr : World) : Prop :=
  ∃ M F vals, IsW wr p M F ∧ (∀ b, F b → w.heap.size ≤ b) ∧ Below w.heap.size w wr ∧ M.at 1 = some (qT 4 0 vs vals) ∧ sideB M 0 = true ∧ mayV (listV vs) = true ∧ ∀ b, B b → ¬ F b ∧ b < wr.heap.size
variable {w wr w' : World} {p : Nat} {B : Nat → Prop} {vs : List Val}
theorem QAt.base (h : QAt w p B vs wr) : Below w.heap.size w wr := by
  obtain ⟨M, F, vals, h1, h2, h3, -⟩ := h
  exact h3
theorem QAt.may (h : QAt w p B vs wr) : mayV (listV vs) = true := by
  obtain ⟨M, F, vals, h1, h2, h3, h4, h5, h6, -⟩ := h
  exact h6
theorem QAt.below (h : QAt w p B vs wr) (hb : Below wr.heap.size wr w') : QAt w p B vs w' := by
  obtain ⟨M, F, vals, h1, h2, h3, h4, h5, h6, h7⟩ := h
  exact ⟨M, F, vals, h1.below hb, h2, h3.trans (hb.mono h3.size), h4, h5, h6, fun b hB => ⟨(h7 b hB).1, Nat.lt_of_lt_of_le (h7 b hB).2 hb.size⟩⟩
theorem QAt.fewer {B' : Nat → Prop} (h : QAt w p B vs wr) (hB : ∀ b, B' b → B b) : QAt w p B' vs wr := by
  obtain ⟨M, F, vals, h1, h2, h3, h4, h5, h6, h7⟩ := h
  exact ⟨M, F, vals, h1, h2, h3, h4, h5, h6, fun b hb => h7 b (hB b hb)⟩
/-- A new block is none of the world's. -/
theorem QAt.alloc (h : QAt w p B vs wr) (o : Obj) : QAt w p (fun b => B b ∨ b = wr.heap.size) vs (wr.alloc o) := by
  obtain ⟨M, F, vals, h1, h2, h3, h4, h5, h6, h7⟩ := h
  have hb : Below wr.heap.size wr (wr.alloc o) := (Below.refl _ _).alloc (Nat.le_refl _) _
  refine ⟨M, F, vals, h1.below hb, h2, h3.trans (hb.mono h3.size), h4, h5, h6, fun b hB => ?_⟩
  rcases hB with hB | rfl
  · exact ⟨(h7 b hB).1, Nat.lt_of_lt_of_le (h7 b hB).2 hb.size⟩
  · exact ⟨fun e => Nat.lt_irrefl _ (h1.lt _ e), by simp⟩
/-- A cell of a law's own. -/
theorem QAt.cell (h : QAt w p B vs wr) {b : Nat} (hb : B b) (hw : w.heap.size ≤ b) (v : Value) : QAt w p B vs (wr.setCell ⟨b, 0, none⟩ v) := by
  obtain ⟨M, F, vals, h1, h2, h3, h4, h5, h6, h7⟩ := h
  have hk : Keeps (fun y => y = b) wr (wr.setCell ⟨b, 0, none⟩ v) := Keeps.setCell (S := fun y => y = b) wr ⟨b, 0, none⟩ v rfl
  exact ⟨M, F, vals, h1.keeps hk (fun y hy e => (h7 b hb).1 (e ▸ hy)), h2, h3.trans (hk.below h3.size (fun y hy => by omega)), h4, h5, h6, fun y hy => ⟨(h7 y hy).1, Nat.lt_of_lt_of_le (h7 y hy).2 hk.size⟩⟩
theorem QAt.acts {N : WM} {F : Nat → Prop} {vals : Value} {vs' : List Val} (h2 : ∀ b, F b → w.heap.size ≤ b) (h3 : Below w.heap.size w wr) (h7 : ∀ b, B b → ¬ F b ∧ b < wr.heap.size) (ha : Acts wr p F N w') (h4 : N.at 1 = some (qT 4 0 vs' vals)) (h5 : sideB N 0 = true) (h6 : mayV (listV vs') = true) :
    QAt w p B vs' w' ∧ ∀ b, B b → w'.heap[b]? = wr.heap[b]? := by
  obtain ⟨hk, F', hW', hF'⟩ := ha
  refine ⟨⟨N, F', vals, hW', fun b hb => ?_, h3.trans (hk.below h3.size h2), h4, h5, h6, fun b hB => ⟨fun e => ?_, Nat.lt_of_lt_of_le (h7 b hB).2 hk.size⟩⟩, fun b hB => hk.block b (h7 b hB).2 (h7 b hB).1⟩
  · rcases hF' b hb with h | h
    · exact h2 b h
    · exact Nat.le_trans h3.size h
  · rcases hF' b e with h | h
    · exact (h7 b hB).1 h
    · have := (h7 b hB).2; omega

def GiveQ (w : World) (p : Nat) (B : Nat → Prop) (vs : List Val) (x : Val) (wr : World) (e : Ending) (w' : World) : Prop :=
  ∃ c vs', e = .returned (.int .i64 c) ∧ QAt w p B vs' w' ∧ (∀ b, B b → w'.heap[b]? = wr.heap[b]?) ∧ ((mayV (listV (vs ++ [x])) = true ∧ c = 0 ∧ vs' = vs ++ [x]) ∨ (mayV (listV (vs ++ [x])) = false ∧ c = 8 ∧ vs' = vs))
theorem give_Q (h : QAt w p B vs wr) (hl : Light vs) {x : Val} {pv : Option Addr} {n c : Nat} {FB : Nat → Prop} (hS : SlAt wr FB (.slice pv n c) x.l) (hm : mayV x = true) (hr : refsV x = []) :
    Calls Tryz.prog 14 #[.pointer (some ⟨p, 0, none⟩), .int .i64 1, .agg (vcs x (.slice pv n c))] wr (GiveQ w p B vs x wr) := by
  obtain ⟨M, F, vals, h1, h2, h3, h4, h5, h6, h7⟩ := h
  have hlen := may_list_len h6
  refine (plGive_A (fun w1 hb => act_4_8 (h1.below hb) (by decide) h4 h5 (heldq vs vals (fun y hy => (hl y hy).2) _) (fun y hy => (hl y hy).1) (by omega) (hS.on hb) hm (fun r hh => by rw [hr] at hh; cases hh))).mono ?_
  rintro e w'' ⟨v, k, N, rfl, ⟨-, hx⟩, ha⟩
  rcases hx with ⟨hy, rfl, vals', rfl⟩ | ⟨hy, rfl, rfl⟩
  · obtain ⟨q1, q2⟩ := QAt.acts h2 h3 h7 ha (WM.set_at_self _ h4) h5 hy
    exact ⟨_, _, rfl, q1, q2, .inl ⟨hy, rfl, rfl⟩⟩
  · obtain ⟨q1, q2⟩ := QAt.acts h2 h3 h7 ha h4 h5 h6
    exact ⟨_, _, rfl, q1, q2, .inr ⟨hy, rfl, rfl⟩⟩
def TakeQ (w : World) (p : Nat) (B : Nat → Prop) (vs : List Val) (m : Int) (wr : World) (e : Ending) (w' : World) : Prop :=
  ∃ v pv cv c vs' FS, e = .returned (.tuple #[.agg (vcs v (.slice pv v.l.length cv)), .int .i64 c]) ∧ QAt w p B vs' w' ∧ (∀ b, B b → w'.heap[b]? = wr.heap[b]?) ∧ SlAt w' FS (.slice pv v.l.length cv) v.l ∧ (∀ b, B b → ¬ FS b) ∧
    ((m < 0 ∧ v = nilV ∧ c = 2 ∧ vs' = vs) ∨ ((vs.length : Int) < m ∧ v = nilV ∧ c = 81 ∧ vs' = vs) ∨ (0 ≤ m ∧ m ≤ vs.length ∧ v = listV (vs.take m.toNat) ∧ c = 0 ∧ vs' = vs.drop m.toNat))
theorem take_Q (h : QAt w p B vs wr) (hl : Light vs) (m : Int) :
    Calls Tryz.prog 19 #[.pointer (some ⟨p, 0, none⟩), .int .i64 1, .int .i64 m] wr (TakeQ w p B vs m wr) := by
  obtain ⟨M, F, vals, h1, h2, h3, h4, h5, h6, h7⟩ := h
  refine (plTake_A (m := m) h1.lt (fun w1 hb => act_4_4 (h1.below hb) (by decide) h4 h5 (heldq vs vals (fun y hy => (hl y hy).2) _) h6 (fun y hy => (hl y hy).1) m)).mono ?_
  rintro e w'' ⟨v, pv, cv, n, N, F', rfl, hX, hk, hW', hF', hS⟩
  have ha : Acts wr p F N w'' := ⟨hk, F', hW', hF'⟩
  have hne : ∀ b, B b → ¬ TyB w'' (fun y => wr.heap.size ≤ y ∧ ¬ F' y) b := fun b hB e => by have := (h7 b hB).2; have := e.1.1; omega
  rcases hX with ⟨hy, rfl, rfl, rfl⟩ | ⟨hy, rfl, rfl, rfl⟩ | ⟨hy, hy2, rfl, rfl, vals', rfl⟩
  · obtain ⟨q1, q2⟩ := QAt.acts h2 h3 h7 ha h4 h5 h6
    exact ⟨_, pv, cv, _, _, _, rfl, q1, q2, hS, hne, .inl ⟨hy, rfl, rfl, rfl⟩⟩
  · obtain ⟨q1, q2⟩ := QAt.acts h2 h3 h7 ha h4 h5 h6
    exact ⟨_, pv, cv, _, _, _, rfl, q1, q2, hS, hne, .inr (.inl ⟨hy, rfl, rfl, rfl⟩)⟩
  · obtain ⟨q1, q2⟩ := QAt.acts h2 h3 h7 ha (WM.set_at_self _ h4) h5 (mayList_drop h6 _)
    exact ⟨_, pv, cv, _, _, _, rfl, q1, q2, hS, hne, .inr (.inr ⟨hy, hy2, rfl, rfl, rfl⟩)⟩
theorem len_Q (h : QAt w p B vs wr) (hl : Light vs) : Calls Tryz.prog 22 #[.pointer (some ⟨p, 0, none⟩), .int .i64 1] wr fun e w' => e = .returned (.tuple #[.int .i64 vs.length, .int .i64 0]) ∧ Below wr.heap.size wr w' := by
  obtain ⟨M, F, vals, h1, h2, h3, h4, h5, h6, h7⟩ := h
  have hlen := may_list_len h6
  exact Len_q h1 (by decide) h4 (fun y hy => (hl y hy).1) (by omega)
/-- A fresh world, and a law's boxes beside it. -/
def OwnB (w : World) (p : Nat) (B : Nat → Prop) (wr : World) : Prop := ∃ F, IsW wr p AM0 F ∧ (∀ b, F b → w.heap.size ≤ b) ∧ Below w.heap.size w wr ∧ ∀ b, B b → ¬ F b ∧ b < wr.heap.size
theorem OwnB.of (h : Own w wr p AM0) (hB : ∀ b, B b → b < w.heap.size) (o : Obj) : OwnB w p (fun b => B b ∨ b = wr.heap.size) (wr.alloc o) := by
  obtain ⟨F, h1, h2, h3⟩ := h
  have hb : Below wr.heap.size wr (wr.alloc o) := (Below.refl _ _).alloc (Nat.le_refl _) _
  refine ⟨F, h1.below hb, h2, h3.trans (hb.mono h3.size), fun b hb' => ?_⟩
  rcases hb' with hb' | rfl
  · exact ⟨fun e => by have := h2 b e; have := hB b hb'; omega, Nat.lt_of_lt_of_le (Nat.lt_of_lt_of_le (hB b hb') h3.size) hb.size⟩
  · exact ⟨fun e => Nat.lt_irrefl _ (h1.lt _ e), by simp⟩
theorem OwnB.below (h : OwnB w p B wr) (hb : Below wr.heap.size wr w') : OwnB w p B w' := by
  obtain ⟨F, h1, h2, h3, h4⟩ := h
  exact ⟨F, h1.below hb, h2, h3.trans (hb.mono h3.size), fun b hB => ⟨(h4 b hB).1, Nat.lt_of_lt_of_le (h4 b hB).2 hb.size⟩⟩
theorem OwnB.below0 (h : OwnB w p B wr) : Below w.heap.size w wr := by
  obtain ⟨F, h1, h2, h3, h4⟩ := h
  exact h3
theorem start_Q (h : OwnB w p B wr) : Calls Tryz.prog 11 #[.pointer (some ⟨p, 0, none⟩), .int .i64 0] wr fun e w' => e = .returned (.tuple #[.int .i64 1, .int .i64 0]) ∧ QAt w p B [] w' ∧ ∀ b, B b → w'.heap[b]? = wr.heap[b]? := by
  obtain ⟨F, hW, hF, hb, hB⟩ := h
  refine (Queue_G hW (by decide) (h := 0) (by decide)).mono ?_
  rintro e w3 (⟨-, rfl, t, F', rfl, hW', hg⟩ | ⟨hx, -, -⟩)
  · refine ⟨rfl, ⟨_, F', _, hW', fun b hb' => ?_, hb.trans (Keeps.below hg.1 hb.size hF), rfl, rfl, rfl, fun b hb' => ⟨fun e => ?_, Nat.lt_of_lt_of_le (hB b hb').2 hg.1.size⟩⟩, fun b hb' => hg.1.block b (hB b hb').2 (hB b hb').1⟩
    · rcases hg.2 b hb' with h | h
      · exact hF b h
      · exact Nat.le_trans hb.size h
    · rcases hg.2 b e with h | h
      · exact (hB b hb').1 h
      · have := (hB b hb').2; omega
  · exact absurd (by decide) hx
end Go.Proofs.YtcoiccbmcjdheaaGreat
