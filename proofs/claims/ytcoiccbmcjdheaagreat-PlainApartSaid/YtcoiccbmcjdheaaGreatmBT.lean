/- A part of the proof, several texts in one: QuC, RSame. -/
import Derived.Test.YtcoiccbmcjdheaaGreatmBS
import Derived.Test.YtcoiccbmcjdheaaGreatmAJ
import Derived.Test.YtcoiccbmcjdheaaGreatmBO
/- PlainQueue: the closure that takes. The drawn region is written by gen_quc.py. -/
namespace Go.Proofs.YtcoiccbmcjdheaaGreat
open Go.RowKit Go.ChangeMaps Go.MapKept

/-- What the law's boxes hold. -/
structure QBx (b2 b5 b6 b8 b9 p : Nat) (s : Value) (i o : Nat) (w : World) : Prop where
  hl : w.heap[b2]? = some (.cells #[s] 22 (0, 0))
  hw : w.heap[b5]? = some (.cells #[.pointer (some ⟨p, 0, none⟩)] 23 (0, 0))
  hq : w.heap[b6]? = some (.cells #[.int .i64 1] 28 (0, 0))
  hi : w.heap[b8]? = some (.cells #[.int .i64 i] 3 (0, 0))
  ho : w.heap[b9]? = some (.cells #[.int .i64 o] 3 (0, 0))
def QBs (b2 b5 b6 b8 b9 : Nat) (b : Nat) : Prop := b = b2 ∨ b = b5 ∨ b = b6 ∨ b = b8 ∨ b = b9
variable {b2 b5 b6 b8 b9 p i o : Nat} {s : Value} {w w' : World}
theorem QBx.same (h : QBx b2 b5 b6 b8 b9 p s i o w) (hb : ∀ b, QBs b2 b5 b6 b8 b9 b → w'.heap[b]? = w.heap[b]?) : QBx b2 b5 b6 b8 b9 p s i o w' :=
  ⟨(hb _ (.inl rfl)).trans h.hl, (hb _ (.inr (.inl rfl))).trans h.hw, (hb _ (.inr (.inr (.inl rfl)))).trans h.hq, (hb _ (.inr (.inr (.inr (.inl rfl))))).trans h.hi, (hb _ (.inr (.inr (.inr (.inr rfl))))).trans h.ho⟩
theorem QBx.below (h : QBx b2 b5 b6 b8 b9 p s i o w) (hb : Below w.heap.size w w') : QBx b2 b5 b6 b8 b9 p s i o w' :=
  ⟨below_blk hb h.hl, below_blk hb h.hw, below_blk hb h.hq, below_blk hb h.hi, below_blk hb h.ho⟩
theorem QBx.out (h : QBx b2 b5 b6 b8 b9 p s i o w) (h2 : b2 ≠ b9) (h5 : b5 ≠ b9) (h6 : b6 ≠ b9) (h8 : b8 ≠ b9) (o' : Nat) : QBx b2 b5 b6 b8 b9 p s i o' (w.setCell ⟨b9, 0, none⟩ (.int .i64 o')) :=
  ⟨(Below.heap_setCell w ⟨b9, 0, none⟩ _ _ h2).trans h.hl, (Below.heap_setCell w ⟨b9, 0, none⟩ _ _ h5).trans h.hw, (Below.heap_setCell w ⟨b9, 0, none⟩ _ _ h6).trans h.hq, (Below.heap_setCell w ⟨b9, 0, none⟩ _ _ h8).trans h.hi, by rw [blk_setCell h.ho]; rfl⟩
/-- The law's state: l's values from o up to i are in the queue. -/
structure QSt (w0 : World) (b2 b5 b6 b8 b9 p : Nat) (s : Value) (l : List Val) (i o : Nat) (w : World) : Prop where
  qq : QAt w0 p (QBs b2 b5 b6 b8 b9) ((l.take i).drop o) w
  qb : QBx b2 b5 b6 b8 b9 p s i o w
  io : o ≤ i
  il : i ≤ l.length
def CloQ (w0 : World) (b2 b5 b6 b8 b9 p : Nat) (s : Value) (l : List Val) (i o : Nat) (m : Int) (e : Ending) (w' : World) : Prop :=
  e = .returned (.bool true) ∧ ∃ o', QSt w0 b2 b5 b6 b8 b9 p s l i o' w' ∧ (m = (i : Int) - o → o' = i)
/-- In the closure's loop: k of them are looked at. -/
structure QLp (w0 : World) (b2 b5 b6 b8 b9 bv p : Nat) (s : Value) (l : List Val) (i o m k : Nat) (pv : Option Addr) (cv : Nat) (FS : Nat → Prop) (w : World) : Prop where
  qq : QAt w0 p (QBs b2 b5 b6 b8 b9) ((l.take i).drop (o + m)) w
  qb : QBx b2 b5 b6 b8 b9 p s i (o + k) w
  qv : w.heap[bv]? = some (.cells #[.int .u8 3, .int .i64 0, .string ⟨#[]⟩, .slice pv m cv, .int .i64 0] 34 (0, 0))
  hv : bv ≠ b9
  qt : SlAt w FS (.slice pv m cv) (((l.take i).drop o).take m)
  qf : ¬ FS b9
  hm : o + m ≤ i
  il : i ≤ l.length
theorem QLp_at {l : List Val} {m k : Nat} (hm : o + m ≤ i) (hi : i ≤ l.length) (hk : k < m) : ∃ x, l[o + k]? = some x ∧ (((l.take i).drop o).take m)[k]? = some x := by
  refine ⟨_, List.getElem?_eq_getElem (by omega), ?_⟩
  rw [List.getElem?_take, if_pos hk, List.getElem?_drop, List.getElem?_take, if_pos (by omega)]
  exact List.getElem?_eq_getElem (by omega)
theorem range_on {w w' : World} {b o : Nat} {cs : List Value} (h : w.rangeAt b o cs) (hb : Below w.heap.size w w') (hlt : b < w.heap.size) : w'.rangeAt b o cs := fun j v hv => (hb.cell (p := ⟨b, o + j, none⟩) hlt).trans (h j v hv)
theorem k_lt {K o k m i n : Nat} (hK : K = o + k) (hk : k < m) (hm : o + m ≤ i) (hi : i ≤ n) : (K : Int) < (n : Int) := by omega
theorem ld_on {w w' : World} {b o : Nat} {x : Val} {raw : Value} (h : w.rangeAt b o (vcs x raw).toList) (hb : Below w.heap.size w w') (hlt : b < w.heap.size) : (ldV (.pointer (some ⟨b, o, none⟩))).run Tryz.prog w' = .ok (.value (.agg (vcs x raw))) w' := by
  have := loadV_mid (range_on h hb hlt) (by simp [vcs])
  rwa [Array.toArray_toList] at this
theorem QLp.below {w0 : World} {bv m k : Nat} {pv : Option Addr} {cv : Nat} {FS : Nat → Prop} {l : List Val} (h : QLp w0 b2 b5 b6 b8 b9 bv p s l i o m k pv cv FS w) (hb : Below w.heap.size w w') : QLp w0 b2 b5 b6 b8 b9 bv p s l i o m k pv cv FS w' :=
  ⟨h.qq.below hb, h.qb.below hb, below_blk hb h.qv, h.hv, h.qt.on hb, h.qf, h.hm, h.il⟩
theorem QLp.step {w0 : World} {bv m k : Nat} {pv : Option Addr} {cv : Nat} {FS : Nat → Prop} {l : List Val} (h : QLp w0 b2 b5 b6 b8 b9 bv p s l i o m k pv cv FS w) (n2 : b2 ≠ b9) (n5 : b5 ≠ b9) (n6 : b6 ≠ b9) (n8 : b8 ≠ b9) (hb9 : w0.heap.size ≤ b9) :
    QLp w0 b2 b5 b6 b8 b9 bv p s l i o m (k + 1) pv cv FS (w.setCell ⟨b9, 0, none⟩ (.int .i64 (((o + k : Nat) : Int) + 1))) := by
  have hk : Keeps (fun y => y = b9) w (w.setCell ⟨b9, 0, none⟩ (.int .i64 (((o + k : Nat) : Int) + 1))) := Keeps.setCell (S := fun y => y = b9) w ⟨b9, 0, none⟩ _ rfl
  exact ⟨h.qq.cell (.inr (.inr (.inr (.inr rfl)))) hb9 _, h.qb.out n2 n5 n6 n8 (o + (k + 1)), (Below.heap_setCell w ⟨b9, 0, none⟩ _ _ h.hv).trans h.qv, h.hv, h.qt.keeps hk (fun b e hF => h.qf (by have : b = b9 := e; rw [← this]; exact hF)), h.qf, h.hm, h.il⟩
-- region 11 head
theorem execOp_ldVq54 (ρ : Operand → Value) (ty : TypeId) (pos : String) (af : Array Edge) (g : Option (Nat × Bool)) :
    execOp ρ { dst := some 54, op := .load 34 (.tmp 53), type := ty, pos := pos, after := af, guard := g } = ldV (ρ (.tmp 53)) := rfl
theorem execOp_ldVq58 (ρ : Operand → Value) (ty : TypeId) (pos : String) (af : Array Edge) (g : Option (Nat × Bool)) :
    execOp ρ { dst := some 58, op := .load 34 (.tmp 57), type := ty, pos := pos, after := af, guard := g } = ldV (ρ (.tmp 57)) := rfl
def QuPhi (bv bt ot mn cv bl ol ln cl k K : Nat) (xk xn xr : Int) (xs : ByteArray) (rawt rawl : Value) (j : Nat) (v : Value) (_ : World) : Prop :=
  match j with
  | 0 => v = .pointer (some ⟨bv, 3, none⟩)
  | 1 => v = .slice (some ⟨bt, ot, none⟩) mn cv
  | 2 => v = .int .i64 k
  | 3 => v = .pointer (some ⟨bt, ot + k * 5, none⟩)
  | 4 => v = .agg #[.int .u8 xk, .int .i64 xn, .string xs, rawt, .int .i64 xr]
  | 5 => v = .slice (some ⟨bl, ol, none⟩) ln cl
  | 6 => v = .int .i64 (K : Int)
  | 7 => v = .pointer (some ⟨bl, ol + K * 5, none⟩)
  | 8 => v = .agg #[.int .u8 xk, .int .i64 xn, .string xs, rawl, .int .i64 xr]
  | 9 => v = .bool true
  | _ => True
-- region 11 head end
set_option maxHeartbeats 4000000 in
set_option maxRecDepth 20000 in
theorem clo_W {w0 : World} {F0 : Nat → Prop} {pa : Option Addr} {cl : Nat} {l : List Val} (hSl : SlAt w0 F0 (.slice pa l.length cl) l) (hlt : Light l) (hlen : l.length ≤ 100) (n2 : b2 ≠ b9) (n5 : b5 ≠ b9) (n6 : b6 ≠ b9) (n8 : b8 ≠ b9) (hb9 : w0.heap.size ≤ b9)
    (h : QSt w0 b2 b5 b6 b8 b9 p (.slice pa l.length cl) l i o w) (m : Int) :
    Calls Tryz.prog 18 #[.int .i64 m, .pointer (some ⟨b5, 0, none⟩), .pointer (some ⟨b6, 0, none⟩), .pointer (some ⟨b8, 0, none⟩), .pointer (some ⟨b9, 0, none⟩), .pointer (some ⟨b2, 0, none⟩)] w (CloQ w0 b2 b5 b6 b8 b9 p (.slice pa l.length cl) l i o m) := by
  have hvl : ((l.take i).drop o).length = i - o := by simp; have := h.il; omega
  have hlv : Light ((l.take i).drop o) := fun x hx => hlt x (List.mem_of_mem_take (List.mem_of_mem_drop hx))
  have HT := (show Hid _ from take_Q h.qq hlv m)
  have H := (show Hid _ from h)
  have HS := (show Hid (SlAt w0 F0 (.slice pa l.length cl) l ∧ Light l ∧ l.length ≤ 100 ∧ w0.heap.size ≤ b9 ∧ (b2 ≠ b9 ∧ b5 ≠ b9 ∧ b6 ≠ b9 ∧ b8 ≠ b9)) from ⟨hSl, hlt, hlen, hb9, n2, n5, n6, n8⟩)
  have c5 := cell_blk h.qb.hw 0
  have c6 := cell_blk h.qb.hq 0
  have hio := h.io
  have hil := h.il
  have hwi : wrap64 ((i : Int) - (o : Int)) = (i : Int) - (o : Int) := by unfold wrap64; omega
  clear hSl hlt n2 n5 n6 n8 hb9 h hlv
  go_enter Tryz.func18, Tryz.ntmps18
  go_wp2_with fail
  refine Calls.mono HT.out ?_
  rintro e w1 ⟨v, pv, cv, c, vs', FS, rfl, hq, hsame, hSv, hne, hcase⟩
  rcases hcase with ⟨hm, rfl, rfl, rfl⟩ | ⟨hm, rfl, rfl, rfl⟩ | ⟨hm, hm2, rfl, rfl, rfl⟩
  · have HE : Hid (QSt w0 b2 b5 b6 b8 b9 p (.slice pa l.length cl) l i o (w1.alloc (.cells #[.int .u8 0, .int .i64 0, .string ⟨#[]⟩, .slice pv 0 cv, .int .i64 0] 34))) :=
      ⟨hq.below ((Below.refl _ _).alloc (Nat.le_refl _) _), (H.out.qb.same hsame).below ((Below.refl _ _).alloc (Nat.le_refl _) _), hio, hil⟩
    clear HT hq hsame hSv hne c5 c6
    simp only [vcs, List.length_nil]
    go_wp2_with fail
    go_ret
    exact ⟨rfl, o, HE.out, fun e => by omega⟩
  · have HE : Hid (QSt w0 b2 b5 b6 b8 b9 p (.slice pa l.length cl) l i o (w1.alloc (.cells #[.int .u8 0, .int .i64 0, .string ⟨#[]⟩, .slice pv 0 cv, .int .i64 0] 34))) :=
      ⟨hq.below ((Below.refl _ _).alloc (Nat.le_refl _) _), (H.out.qb.same hsame).below ((Below.refl _ _).alloc (Nat.le_refl _) _), hio, hil⟩
    have c8 := cell_blk HE.out.qb.hi 0
    have c9 := cell_blk HE.out.qb.ho 0
    rw [hvl] at hm
    have hm0 : ¬ m < 0 := by omega
    have hm1 : m > (i : Int) - (o : Int) := by omega
    clear HT hq hsame hSv hne c5 c6
    simp only [vcs, List.length_nil] at c8 c9 ⊢
    go_wp2_with fail
    go_ret
    exact ⟨rfl, o, HE.out, fun e => by omega⟩
  · rw [hvl] at hm2
    obtain ⟨mn, rfl⟩ := Int.eq_ofNat_of_zero_le hm
    have htl : (((l.take i).drop o).take mn).length = mn := by rw [List.length_take, hvl]; omega
    have hm1 : ¬ (mn : Int) > (i : Int) - (o : Int) := by omega
    have HL : Hid (QLp w0 b2 b5 b6 b8 b9 w1.heap.size p (.slice pa l.length cl) l i o mn 0 pv cv FS (w1.alloc (.cells #[.int .u8 3, .int .i64 0, .string ⟨#[]⟩, .slice pv mn cv, .int .i64 0] 34))) := by
      have hb : Below w1.heap.size w1 (w1.alloc (.cells #[.int .u8 3, .int .i64 0, .string ⟨#[]⟩, .slice pv mn cv, .int .i64 0] 34)) := (Below.refl _ _).alloc (Nat.le_refl _) _
      have hq' := hq.below hb
      have hb' := (H.out.qb.same hsame).below hb
      have hS' := hSv.on hb
      simp only [listV, Int.toNat_natCast, htl] at hS' hq'
      rw [List.drop_drop] at hq'
      exact ⟨hq', hb', blk_new _ _, fun e => by have := blk_lt (H.out.qb.same hsame).ho; omega, hS', hne _ (.inr (.inr (.inr (.inr rfl)))), by omega, hil⟩
    have c8 := cell_blk HL.out.qb.hi 0
    have c9 := cell_blk HL.out.qb.ho 0
    clear HT hq hsame hSv hne c5 c6
    simp only [vcs, listV, Int.toNat_natCast, htl, Nat.add_zero] at c8 c9 ⊢
    go_upto_region 2 with fail
    revert HL c8 c9
    generalize w1.alloc _ = w2
    generalize w1.heap.size = bv
    intro HL c8 c9
    have v0 := cell_blk HL.out.qv 0
    have v3 := cell_blk HL.out.qv 3
    have hm0 : ¬ (mn : Int) < 0 := by omega
    clear w1
    go_wp2_with fail
    go_loopw [10] (fun vi wr => ∃ k : Nat, vi = .int .i64 k ∧ k ≤ mn ∧ Hid (QLp w0 b2 b5 b6 b8 b9 bv p (.slice pa l.length cl) l i o mn k pv cv FS wr)) (fun vi _ => mn - (intOf vi).toNat)
    case atStart => exact ⟨0, rfl, Nat.zero_le _, HL.out⟩
    case round =>
      clear HL c8 c9 v0 v3
      obtain ⟨k, rfl, hk, HL⟩ := hrel
      have v3 := cell_blk HL.out.qv 3
      have c9 := cell_blk HL.out.qb.ho 0
      have f9 := frozen_blk HL.out.qb.ho 0
      by_cases hkm : k < mn
      · have hkz : (k : Int) < (mn : Int) := by omega
        have hwk : wrap64 ((k : Int) + 1) = (k : Int) + 1 := by unfold wrap64; omega
        obtain ⟨K, hK⟩ : ∃ K, K = o + k := ⟨_, rfl⟩
        have hwo : wrap64 ((K : Int) + 1) = (K : Int) + 1 := by have := HL.out.hm; unfold wrap64; omega
        obtain ⟨x, hx1, hx2⟩ := QLp_at (o := o) (i := i) (l := l) HL.out.hm HL.out.il hkm
        obtain ⟨bt, ot, ct, rawt, hpt, hrt, hlt1, -, hSt⟩ := HL.out.qt.range hx2
        rw [htl] at hpt
        cases hpt
        obtain ⟨bl, ol, cl', rawl, hpl, hrl, hlt2, -, hSl⟩ := (HS.out.1.on HL.out.qq.base).range hx1
        cases hpl
        have hmx := HS.out.2.1 x (List.mem_of_getElem? hx1)
        have hob : wr.heap[b9]? = some (.cells #[.int .i64 (K : Int)] 3 (0, 0)) := by
          rw [hK]
          exact HL.out.qb.ho
        have hrl' : wr.rangeAt bl (ol + K * 5) (vcs x rawl).toList := by
          rw [hK]
          exact hrl
        have HR : Hid (wr.heap[bv]? = some (.cells #[.int .u8 3, .int .i64 0, .string ⟨#[]⟩, .slice (some ⟨bt, ot, none⟩) mn cv, .int .i64 0] 34 (0, 0)) ∧ wr.heap[b2]? = some (.cells #[.slice (some ⟨bl, ol, none⟩) l.length cl] 22 (0, 0)) ∧ wr.heap[b9]? = some (.cells #[.int .i64 (K : Int)] 3 (0, 0)) ∧
            (∀ w', Below wr.heap.size wr w' → (ldV (.pointer (some ⟨bt, ot + k * 5, none⟩))).run Tryz.prog w' = .ok (.value (.agg (vcs x rawt))) w') ∧ (∀ w', Below wr.heap.size wr w' → (ldV (.pointer (some ⟨bl, ol + K * 5, none⟩))).run Tryz.prog w' = .ok (.value (.agg (vcs x rawl))) w') ∧
            ∀ w', Below wr.heap.size wr w' → Calls Tryz.prog 20 #[.agg (vcs x rawt), .agg (vcs x rawl)] w' fun e w'' => e = .returned (.bool true) ∧ Below w'.heap.size w' w'') :=
          ⟨HL.out.qv, HL.out.qb.hl, hob, fun w' hb => ld_on hrt hb hlt1, fun w' hb => ld_on hrl' hb hlt2, fun w' hb => vSame_G x rawt rawl (hSt.on hb) (hSl.on hb) hmx.1⟩
        have hkl : (K : Int) < (l.length : Int) := k_lt hK hkm HL.out.hm HL.out.il
        obtain ⟨xk, xn, xs, xl, xr⟩ := x
        clear hob hrl' hx1 hx2 hrt hrl hSt hSl hmx hlt1 hlt2
        have HK := (show Hid _ from hK)
        clear c9 hK
        go_upto_region 11 with fail
        simp only [vcs] at HR
        clear v3
        -- region 11
        refine wp_region_growK 10 (by kernel_rfl) rfl (by kernel_rfl) (by kernel_rfl) (fun a b => Below a.heap.size a b) (QuPhi bv bt ot mn cv bl ol l.length cl k K xk xn xr xs rawt rawl) (fun w' => Below wr.heap.size wr w') (fun j v w w' _ h => h) below_drew (fun a b h hR => h.trans (hR.mono h.size)) ?_ ?_ ?_
        · intro j q g b hq hgd
          have hj : j < 10 := (List.getElem?_eq_some_iff.1 hq).1
          match j, hj with
          | 0, _ => cases hq; cases hgd
          | 1, _ => cases hq; cases hgd
          | 2, _ => cases hq; cases hgd
          | 3, _ => cases hq; cases hgd
          | 4, _ => cases hq; cases hgd
          | 5, _ => cases hq; cases hgd
          | 6, _ => cases hq; cases hgd
          | 7, _ => cases hq; cases hgd
          | 8, _ => cases hq; cases hgd
          | 9, _ => cases hq; cases hgd
        · intro j q a w7 hq hC hG
          have hj : j < 10 := (List.getElem?_eq_some_iff.1 hq).1
          match j, hj with
            | 0, _ =>
              cases hq
              have h8 : a.tmps.getD 8 undef = .pointer (some ⟨bv, 0, none⟩) := hG.fr 8 (by simp)
              have h8' : a.tmps[8]?.getD undef = .pointer (some ⟨bv, 0, none⟩) := by rw [← h8]; simp [Array.getD_eq_getD_getElem?]
              unfold Oper.wp
              simp [go_sem, Act.eval, h8']
              exact ⟨_, rfl, Below.refl _ _, rfl⟩
            | 1, _ =>
              cases hq
              have h50 : a.tmps.getD 50 undef = .pointer (some ⟨bv, 3, none⟩) := hG.dep ⟨0, .data⟩ (by simp) rfl _ rfl
              have h50' : a.tmps[50]?.getD undef = .pointer (some ⟨bv, 3, none⟩) := by rw [← h50]; simp [Array.getD_eq_getD_getElem?]
              have c3 : w7.cell? ⟨bv, 3, none⟩ = some (.slice (some ⟨bt, ot, none⟩) mn cv) := by rw [cell_blk (below_blk hC HR.out.1)]; rfl
              unfold Oper.wp
              simp [go_sem, Act.eval, h50', c3]
              exact ⟨_, rfl, Below.refl _ _, rfl⟩
            | 2, _ =>
              cases hq
              have h10 : a.tmps.getD 10 undef = .int .i64 k := hG.fr 10 (by simp)
              have h10' : a.tmps[10]?.getD undef = .int .i64 k := by rw [← h10]; simp [Array.getD_eq_getD_getElem?]
              unfold Oper.wp
              simp [go_sem, Act.eval, h10']
              exact ⟨_, rfl, Below.refl _ _, rfl⟩
            | 3, _ =>
              cases hq
              have h51 : a.tmps.getD 51 undef = .slice (some ⟨bt, ot, none⟩) mn cv := hG.dep ⟨1, .data⟩ (by simp) rfl _ rfl
              have h51' : a.tmps[51]?.getD undef = .slice (some ⟨bt, ot, none⟩) mn cv := by rw [← h51]; simp [Array.getD_eq_getD_getElem?]
              have h52 : a.tmps.getD 52 undef = .int .i64 k := hG.dep ⟨2, .data⟩ (by simp) rfl _ rfl
              have h52' : a.tmps[52]?.getD undef = .int .i64 k := by rw [← h52]; simp [Array.getD_eq_getD_getElem?]
              unfold Oper.wp
              simp [go_sem, Act.eval, h51', h52', hkz]
              exact ⟨_, rfl, Below.refl _ _, rfl⟩
            | 4, _ =>
              cases hq
              have h53 : a.tmps.getD 53 undef = .pointer (some ⟨bt, ot + k * 5, none⟩) := hG.dep ⟨3, .data⟩ (by simp) rfl _ rfl
              have h53' : a.tmps[53]?.getD undef = .pointer (some ⟨bt, ot + k * 5, none⟩) := by rw [← h53]; simp [Array.getD_eq_getD_getElem?]
              refine step_g (.agg #[.int .u8 xk, .int .i64 xn, .string xs, rawt, .int .i64 xr]) ?_ (Below.refl _ _) rfl
              rw [execOp_ldVq54]
              show (ldV (a.tmps.getD 53 undef)).run _ _ = _
              rw [h53]
              exact HR.out.2.2.2.1 _ hC
            | 5, _ =>
              cases hq
              have h5 : a.tmps.getD 5 undef = .pointer (some ⟨b2, 0, none⟩) := hG.fr 5 (by simp)
              have h5' : a.tmps[5]?.getD undef = .pointer (some ⟨b2, 0, none⟩) := by rw [← h5]; simp [Array.getD_eq_getD_getElem?]
              have c3 : w7.cell? ⟨b2, 0, none⟩ = some (.slice (some ⟨bl, ol, none⟩) l.length cl) := by rw [cell_blk (below_blk hC HR.out.2.1)]; rfl
              unfold Oper.wp
              simp [go_sem, Act.eval, h5', c3]
              exact ⟨_, rfl, Below.refl _ _, rfl⟩
            | 6, _ =>
              cases hq
              have h4 : a.tmps.getD 4 undef = .pointer (some ⟨b9, 0, none⟩) := hG.fr 4 (by simp)
              have h4' : a.tmps[4]?.getD undef = .pointer (some ⟨b9, 0, none⟩) := by rw [← h4]; simp [Array.getD_eq_getD_getElem?]
              have c3 : w7.cell? ⟨b9, 0, none⟩ = some (.int .i64 (K : Int)) := by rw [cell_blk (below_blk hC HR.out.2.2.1)]; rfl
              unfold Oper.wp
              simp [go_sem, Act.eval, h4', c3]
              exact ⟨_, rfl, Below.refl _ _, rfl⟩
            | 7, _ =>
              cases hq
              have h55 : a.tmps.getD 55 undef = .slice (some ⟨bl, ol, none⟩) l.length cl := hG.dep ⟨5, .data⟩ (by simp) rfl _ rfl
              have h55' : a.tmps[55]?.getD undef = .slice (some ⟨bl, ol, none⟩) l.length cl := by rw [← h55]; simp [Array.getD_eq_getD_getElem?]
              have h56 : a.tmps.getD 56 undef = .int .i64 (K : Int) := hG.dep ⟨6, .data⟩ (by simp) rfl _ rfl
              have h56' : a.tmps[56]?.getD undef = .int .i64 (K : Int) := by rw [← h56]; simp [Array.getD_eq_getD_getElem?]
              unfold Oper.wp
              simp [go_sem, Act.eval, h55', h56', hkl]
              exact ⟨_, rfl, Below.refl _ _, rfl⟩
            | 8, _ =>
              cases hq
              have h57 : a.tmps.getD 57 undef = .pointer (some ⟨bl, ol + K * 5, none⟩) := hG.dep ⟨7, .data⟩ (by simp) rfl _ rfl
              have h57' : a.tmps[57]?.getD undef = .pointer (some ⟨bl, ol + K * 5, none⟩) := by rw [← h57]; simp [Array.getD_eq_getD_getElem?]
              refine step_g (.agg #[.int .u8 xk, .int .i64 xn, .string xs, rawl, .int .i64 xr]) ?_ (Below.refl _ _) rfl
              rw [execOp_ldVq58]
              show (ldV (a.tmps.getD 57 undef)).run _ _ = _
              rw [h57]
              exact HR.out.2.2.2.2.1 _ hC
            | 9, _ =>
              cases hq
              have h54 : a.tmps.getD 54 undef = .agg #[.int .u8 xk, .int .i64 xn, .string xs, rawt, .int .i64 xr] := hG.dep ⟨4, .data⟩ (by simp) rfl _ rfl
              have h54' : a.tmps[54]?.getD undef = .agg #[.int .u8 xk, .int .i64 xn, .string xs, rawt, .int .i64 xr] := by rw [← h54]; simp [Array.getD_eq_getD_getElem?]
              have h58 : a.tmps.getD 58 undef = .agg #[.int .u8 xk, .int .i64 xn, .string xs, rawl, .int .i64 xr] := hG.dep ⟨8, .data⟩ (by simp) rfl _ rfl
              have h58' : a.tmps[58]?.getD undef = .agg #[.int .u8 xk, .int .i64 xn, .string xs, rawl, .int .i64 xr] := by rw [← h58]; simp [Array.getD_eq_getD_getElem?]
              unfold Oper.wp
              simp [go_sem, callFunc, Act.eval, Tryz.func20, h54', h58']
              refine Calls.mono (HR.out.2.2.2.2.2 _ hC) ?_
              rintro e w8 ⟨rfl, hb8⟩
              exact ⟨_, rfl, hb8, rfl⟩
        · intro a w7 hC hdf hsz hfr hphi
          have e0 : a.tmps.getD 50 undef = .pointer (some ⟨bv, 3, none⟩) := hphi 0 _ rfl
          have e1 : a.tmps.getD 51 undef = .slice (some ⟨bt, ot, none⟩) mn cv := hphi 1 _ rfl
          have e2 : a.tmps.getD 52 undef = .int .i64 k := hphi 2 _ rfl
          have e3 : a.tmps.getD 53 undef = .pointer (some ⟨bt, ot + k * 5, none⟩) := hphi 3 _ rfl
          have e4 : a.tmps.getD 54 undef = .agg #[.int .u8 xk, .int .i64 xn, .string xs, rawt, .int .i64 xr] := hphi 4 _ rfl
          have e5 : a.tmps.getD 55 undef = .slice (some ⟨bl, ol, none⟩) l.length cl := hphi 5 _ rfl
          have e6 : a.tmps.getD 56 undef = .int .i64 (K : Int) := hphi 6 _ rfl
          have e7 : a.tmps.getD 57 undef = .pointer (some ⟨bl, ol + K * 5, none⟩) := hphi 7 _ rfl
          have e8 : a.tmps.getD 58 undef = .agg #[.int .u8 xk, .int .i64 xn, .string xs, rawl, .int .i64 xr] := hphi 8 _ rfl
          have e9 : a.tmps.getD 59 undef = .bool true := hphi 9 _ rfl
          have ha := act_of hdf hsz hfr
          simp only [List.take_succ_cons, List.take_zero, List.filterMap_cons, List.filterMap_nil, List.foldl_cons, List.foldl_nil, List.setIfInBounds_toArray, List.set_cons_zero, List.set_cons_succ, e0, e1, e2, e3, e4, e5, e6, e7, e8, e9] at ha
          clear hdf hsz hfr hphi e0 e1 e2 e3 e4 e5 e6 e7 e8 e9
          subst ha
        -- region 11 end
          have HL7 : Hid (QLp w0 b2 b5 b6 b8 b9 bv p (.slice (some ⟨bl, ol, none⟩) l.length cl) l i o mn k (some ⟨bt, ot, none⟩) cv FS w7) := HL.out.below hC
          have c9 : w7.cell? ⟨b9, 0, none⟩ = some (.int .i64 (K : Int)) := by
            rw [cell_blk HL7.out.qb.ho, HK.out]
            rfl
          have f9' := frozen_blk HL7.out.qb.ho 0
          have HL8 : Hid (QLp w0 b2 b5 b6 b8 b9 bv p (.slice (some ⟨bl, ol, none⟩) l.length cl) l i o mn (k + 1) (some ⟨bt, ot, none⟩) cv FS (w7.setCell ⟨b9, 0, none⟩ (.int .i64 ((K : Int) + 1)))) := by
            rw [HK.out]
            exact HL7.out.step HS.out.2.2.2.2.1 HS.out.2.2.2.2.2.1 HS.out.2.2.2.2.2.2.1 HS.out.2.2.2.2.2.2.2 HS.out.2.2.2.1
          clear hC HR HL HL7 f9
          refine ⟨rfl, ?_⟩
          unfold Oper.wp
          simp [execOp, go_sem, Act.eval, wpTailG]
          refine ‹∀ (a : Act) (w : World), Code.wp Tryz.prog _ _ a w → _› _ _ ?_
          go_wp2_with fail
          go_roundw
          case rel => exact ⟨k + 1, by go_num, by omega, HL8.out⟩
          case measure => simp [intOf]; omega
      · have hkz : ¬ (k : Int) < (mn : Int) := by omega
        obtain rfl : k = mn := by omega
        have HE : Hid (QSt w0 b2 b5 b6 b8 b9 p (.slice pa l.length cl) l i (o + k) wr) := ⟨HL.out.qq, HL.out.qb, HL.out.hm, hil⟩
        clear HL c9 f9
        go_wp2_with fail
        go_ret
        exact ⟨rfl, o + k, HE.out, fun e => by omega⟩
end Go.Proofs.YtcoiccbmcjdheaaGreat
/- posternref02's order, Order, Same, SameAll: at one value, wherever it lies: the same. -/
namespace Go.Proofs.YtcoiccbmcjdheaaGreat
open Go.RowKit Go.ChangeMaps Go.MapKept

/-- Order's answer at one value in two places. -/
def ROrd (v : Val) : Prop := ∀ (raw1 raw2 : Value) (w : World) (F1 F2 : Nat → Prop), SlAt w F1 raw1 v.l → SlAt w F2 raw2 v.l →
  Calls Tryz.prog 61 #[.agg (vcs v raw1), .agg (vcs v raw2)] w fun e w' => e = .returned (.int .i64 0) ∧ Below w.heap.size w w'
theorem execOp_ldRoR1273 (ρ : Operand → Value) (ty : TypeId) (pos : String) (af : Array Edge) (g : Option (Nat × Bool)) :
    execOp ρ { dst := some 73, op := .load 34 (.tmp 72), type := ty, pos := pos, after := af, guard := g } = ldV (ρ (.tmp 72)) := rfl
theorem execOp_ldRoR1278 (ρ : Operand → Value) (ty : TypeId) (pos : String) (af : Array Edge) (g : Option (Nat × Bool)) :
    execOp ρ { dst := some 78, op := .load 34 (.tmp 77), type := ty, pos := pos, after := af, guard := g } = ldV (ρ (.tmp 77)) := rfl
def RoR12 (r0 b o c b2 o2 c2 i ln : Nat) (rc rl : Value) (j : Nat) (v : Value) (_ : World) : Prop :=
  match j with
  | 0 => v = .pointer (some ⟨r0, 3, none⟩)
  | 1 => v = .slice (some ⟨b, o, none⟩) ln c
  | 2 => v = .int .i64 i
  | 3 => v = .pointer (some ⟨b, o + i * 5, none⟩)
  | 4 => v = rc
  | 5 => v = .pointer (some ⟨r0 + 1, 3, none⟩)
  | 6 => v = .slice (some ⟨b2, o2, none⟩) ln c2
  | 7 => v = .int .i64 i
  | 8 => v = .pointer (some ⟨b2, o2 + i * 5, none⟩)
  | 9 => v = rl
  | _ => True
set_option maxHeartbeats 4000000 in
set_option maxRecDepth 8000 in
theorem rord_step (v : Val) (hr : ∀ x ∈ v.l, ROrd x) (hl : v.l.length ≤ 512) : ROrd v := by
  intro raw1 raw2 w F1 F2 hS1 hS2
  obtain ⟨k, nn, s, l, r⟩ := v
  simp only at hr hl hS1 hS2
  obtain ⟨pa, c, rfl⟩ := hS1.form
  obtain ⟨pa2, c2, rfl⟩ := hS2.form
  have hsl := bytesLess_same s.toList
  have HS := (show Hid (∀ w', Below w.heap.size w w' → SlAt w' F1 (.slice pa l.length c) l ∧ SlAt w' F2 (.slice pa2 l.length c2) l) from fun w' hb => ⟨hS1.on hb, hS2.on hb⟩)
  have HR := (show Hid (∀ x ∈ l, ROrd x) from hr)
  have HL : Hid (l.length ≤ 512) := hl
  clear hS1 hS2 hr hl
  simp only [vcs]
  go_enter Tryz.func61, Tryz.ntmps61
  go_wp2_with fail
  have HB0 : Hid (Below w.heap.size w ((w.alloc (.cells #[.int .u8 k, .int .i64 nn, .string s, .slice pa l.length c, .int .i64 r] 34)).alloc (.cells #[.int .u8 k, .int .i64 nn, .string s, .slice pa2 l.length c2, .int .i64 r] 34)) ∧
      ((w.alloc (.cells #[.int .u8 k, .int .i64 nn, .string s, .slice pa l.length c, .int .i64 r] 34)).alloc (.cells #[.int .u8 k, .int .i64 nn, .string s, .slice pa2 l.length c2, .int .i64 r] 34)).heap[w.heap.size]? = some (.cells #[.int .u8 k, .int .i64 nn, .string s, .slice pa l.length c, .int .i64 r] 34 (0, 0)) ∧
      ((w.alloc (.cells #[.int .u8 k, .int .i64 nn, .string s, .slice pa l.length c, .int .i64 r] 34)).alloc (.cells #[.int .u8 k, .int .i64 nn, .string s, .slice pa2 l.length c2, .int .i64 r] 34)).heap[w.heap.size + 1]? = some (.cells #[.int .u8 k, .int .i64 nn, .string s, .slice pa2 l.length c2, .int .i64 r] 34 (0, 0))) :=
    ⟨((Below.refl _ w).alloc (Nat.le_refl _) _).alloc (by simp) _, blk2_old w _ _, blk2_new w _ _⟩
  go_loopw [5] (fun vi wr => ∃ i : Nat, vi = .int .i64 i ∧ i ≤ l.length ∧ Hid (Below w.heap.size w wr ∧ wr.heap[w.heap.size]? = some (.cells #[.int .u8 k, .int .i64 nn, .string s, .slice pa l.length c, .int .i64 r] 34 (0, 0)) ∧ wr.heap[w.heap.size + 1]? = some (.cells #[.int .u8 k, .int .i64 nn, .string s, .slice pa2 l.length c2, .int .i64 r] 34 (0, 0)))) (fun vi _ => l.length - (intOf vi).toNat)
  case atStart => exact ⟨0, rfl, Nat.zero_le _, HB0.out⟩
  case round =>
    obtain ⟨i, rfl, hi, HI⟩ := hrel
    have d3 : wr.cell? ⟨w.heap.size, 3, none⟩ = some (.slice pa l.length c) := by rw [cell_blk HI.out.2.1]; rfl
    have d4 : wr.cell? ⟨w.heap.size + 1, 3, none⟩ = some (.slice pa2 l.length c2) := by rw [cell_blk HI.out.2.2]; rfl
    by_cases hjl : i < l.length
    · have hjz : (i : Int) < (l.length : Int) := by omega
      obtain ⟨x, hx⟩ : ∃ x, l[i]? = some x := ⟨_, List.getElem?_eq_getElem hjl⟩
      obtain ⟨b, o, cq, raw, hpe, hrg, hlt, -, hSx⟩ := (HS.out wr HI.out.1).1.range hx
      cases hpe
      obtain ⟨b2, o2, cq2, raw2, hpe2, hrg2, hlt2, -, hSx2⟩ := (HS.out wr HI.out.1).2.range hx
      cases hpe2
      have Hx := (show Hid (SlAt wr F1 raw x.l ∧ SlAt wr F2 raw2 x.l ∧ ROrd x ∧ (∀ w', Below wr.heap.size wr w' → (ldV (.pointer (some ⟨b, o + i * 5, none⟩))).run Tryz.prog w' = .ok (.value (.agg (vcs x raw))) w') ∧ (∀ w', Below wr.heap.size wr w' → (ldV (.pointer (some ⟨b2, o2 + i * 5, none⟩))).run Tryz.prog w' = .ok (.value (.agg (vcs x raw2))) w')) from ⟨hSx, hSx2, HR.out x (List.mem_of_getElem? hx), fun w' h => ld_on hrg h hlt, fun w' h => ld_on hrg2 h hlt2⟩)
      have hwk : wrap64 ((i : Int) + 1) = (i : Int) + 1 := by have := HL.out; unfold wrap64; omega
      clear hx hrg hrg2 hSx hSx2 hlt hlt2
      go_upto_region 12 with fail
      clear d3 d4
      refine wp_region_growK 10 (by kernel_rfl) rfl (by kernel_rfl) (by kernel_rfl) (fun a b => Below a.heap.size a b) (RoR12 w.heap.size b o c b2 o2 c2 i l.length (.agg (vcs x raw)) (.agg (vcs x raw2))) (fun w' => Below wr.heap.size wr w') (fun j v w w' _ h => h) below_drew (fun a b h hR => h.trans (hR.mono h.size)) ?_ ?_ ?_
      · intro j q g b hq hgd
        have hj : j < 10 := (List.getElem?_eq_some_iff.1 hq).1
        match j, hj with
        | 0, _ => cases hq; cases hgd
        | 1, _ => cases hq; cases hgd
        | 2, _ => cases hq; cases hgd
        | 3, _ => cases hq; cases hgd
        | 4, _ => cases hq; cases hgd
        | 5, _ => cases hq; cases hgd
        | 6, _ => cases hq; cases hgd
        | 7, _ => cases hq; cases hgd
        | 8, _ => cases hq; cases hgd
        | 9, _ => cases hq; cases hgd
      · intro j q a w7 hq hC hG
        have hj : j < 10 := (List.getElem?_eq_some_iff.1 hq).1
        match j, hj with
        | 0, _ =>
          cases hq
          have h2 : a.tmps.getD 2 undef = .pointer (some ⟨w.heap.size, 0, none⟩) := hG.fr 2 (by simp)
          have h2' : a.tmps[2]?.getD undef = .pointer (some ⟨w.heap.size, 0, none⟩) := by rw [← h2]; simp [Array.getD_eq_getD_getElem?]
          unfold Oper.wp
          simp [go_sem, Act.eval, h2']
          exact ⟨_, rfl, Below.refl _ _, rfl⟩
        | 1, _ =>
          cases hq
          have h69 : a.tmps.getD 69 undef = .pointer (some ⟨w.heap.size, 3, none⟩) := hG.dep ⟨0, .data⟩ (by simp) rfl _ rfl
          have h69' : a.tmps[69]?.getD undef = .pointer (some ⟨w.heap.size, 3, none⟩) := by rw [← h69]; simp [Array.getD_eq_getD_getElem?]
          have c3 : w7.cell? ⟨w.heap.size, 3, none⟩ = some (.slice (some ⟨b, o, none⟩) l.length c) := by rw [cell_blk (below_blk hC HI.out.2.1)]; rfl
          unfold Oper.wp
          simp [go_sem, Act.eval, h69', c3]
          exact ⟨_, rfl, Below.refl _ _, rfl⟩
        | 2, _ =>
          cases hq
          have h5 : a.tmps.getD 5 undef = .int .i64 i := hG.fr 5 (by simp)
          have h5' : a.tmps[5]?.getD undef = .int .i64 i := by rw [← h5]; simp [Array.getD_eq_getD_getElem?]
          unfold Oper.wp
          simp [go_sem, Act.eval, h5']
          exact ⟨_, rfl, Below.refl _ _, rfl⟩
        | 3, _ =>
          cases hq
          have h70 : a.tmps.getD 70 undef = .slice (some ⟨b, o, none⟩) l.length c := hG.dep ⟨1, .data⟩ (by simp) rfl _ rfl
          have h70' : a.tmps[70]?.getD undef = .slice (some ⟨b, o, none⟩) l.length c := by rw [← h70]; simp [Array.getD_eq_getD_getElem?]
          have h71 : a.tmps.getD 71 undef = .int .i64 i := hG.dep ⟨2, .data⟩ (by simp) rfl _ rfl
          have h71' : a.tmps[71]?.getD undef = .int .i64 i := by rw [← h71]; simp [Array.getD_eq_getD_getElem?]
          unfold Oper.wp
          simp [go_sem, Act.eval, h70', h71', hjz]
          exact ⟨_, rfl, Below.refl _ _, rfl⟩
        | 4, _ =>
          cases hq
          have h72 : a.tmps.getD 72 undef = .pointer (some ⟨b, o + i * 5, none⟩) := hG.dep ⟨3, .data⟩ (by simp) rfl _ rfl
          refine step_g (.agg (vcs x raw)) ?_ (Below.refl _ _) rfl
          rw [execOp_ldRoR1273]
          show (ldV (a.tmps.getD 72 undef)).run _ _ = _
          rw [h72]
          exact Hx.out.2.2.2.1 _ hC
        | 5, _ =>
          cases hq
          have h3 : a.tmps.getD 3 undef = .pointer (some ⟨w.heap.size + 1, 0, none⟩) := hG.fr 3 (by simp)
          have h3' : a.tmps[3]?.getD undef = .pointer (some ⟨w.heap.size + 1, 0, none⟩) := by rw [← h3]; simp [Array.getD_eq_getD_getElem?]
          unfold Oper.wp
          simp [go_sem, Act.eval, h3']
          exact ⟨_, rfl, Below.refl _ _, rfl⟩
        | 6, _ =>
          cases hq
          have h74 : a.tmps.getD 74 undef = .pointer (some ⟨w.heap.size + 1, 3, none⟩) := hG.dep ⟨5, .data⟩ (by simp) rfl _ rfl
          have h74' : a.tmps[74]?.getD undef = .pointer (some ⟨w.heap.size + 1, 3, none⟩) := by rw [← h74]; simp [Array.getD_eq_getD_getElem?]
          have c3 : w7.cell? ⟨w.heap.size + 1, 3, none⟩ = some (.slice (some ⟨b2, o2, none⟩) l.length c2) := by rw [cell_blk (below_blk hC HI.out.2.2)]; rfl
          unfold Oper.wp
          simp [go_sem, Act.eval, h74', c3]
          exact ⟨_, rfl, Below.refl _ _, rfl⟩
        | 7, _ =>
          cases hq
          have h5 : a.tmps.getD 5 undef = .int .i64 i := hG.fr 5 (by simp)
          have h5' : a.tmps[5]?.getD undef = .int .i64 i := by rw [← h5]; simp [Array.getD_eq_getD_getElem?]
          unfold Oper.wp
          simp [go_sem, Act.eval, h5']
          exact ⟨_, rfl, Below.refl _ _, rfl⟩
        | 8, _ =>
          cases hq
          have h75 : a.tmps.getD 75 undef = .slice (some ⟨b2, o2, none⟩) l.length c2 := hG.dep ⟨6, .data⟩ (by simp) rfl _ rfl
          have h75' : a.tmps[75]?.getD undef = .slice (some ⟨b2, o2, none⟩) l.length c2 := by rw [← h75]; simp [Array.getD_eq_getD_getElem?]
          have h76 : a.tmps.getD 76 undef = .int .i64 i := hG.dep ⟨7, .data⟩ (by simp) rfl _ rfl
          have h76' : a.tmps[76]?.getD undef = .int .i64 i := by rw [← h76]; simp [Array.getD_eq_getD_getElem?]
          unfold Oper.wp
          simp [go_sem, Act.eval, h75', h76', hjz]
          exact ⟨_, rfl, Below.refl _ _, rfl⟩
        | 9, _ =>
          cases hq
          have h77 : a.tmps.getD 77 undef = .pointer (some ⟨b2, o2 + i * 5, none⟩) := hG.dep ⟨8, .data⟩ (by simp) rfl _ rfl
          refine step_g (.agg (vcs x raw2)) ?_ (Below.refl _ _) rfl
          rw [execOp_ldRoR1278]
          show (ldV (a.tmps.getD 77 undef)).run _ _ = _
          rw [h77]
          exact Hx.out.2.2.2.2 _ hC
      intro a w7 hC hdf hsz hfr hphi
      have e0 : a.tmps.getD 69 undef = .pointer (some ⟨w.heap.size, 3, none⟩) := hphi 0 _ rfl
      have e1 : a.tmps.getD 70 undef = .slice (some ⟨b, o, none⟩) l.length c := hphi 1 _ rfl
      have e2 : a.tmps.getD 71 undef = .int .i64 i := hphi 2 _ rfl
      have e3 : a.tmps.getD 72 undef = .pointer (some ⟨b, o + i * 5, none⟩) := hphi 3 _ rfl
      have e4 : a.tmps.getD 73 undef = .agg (vcs x raw) := hphi 4 _ rfl
      have e5 : a.tmps.getD 74 undef = .pointer (some ⟨w.heap.size + 1, 3, none⟩) := hphi 5 _ rfl
      have e6 : a.tmps.getD 75 undef = .slice (some ⟨b2, o2, none⟩) l.length c2 := hphi 6 _ rfl
      have e7 : a.tmps.getD 76 undef = .int .i64 i := hphi 7 _ rfl
      have e8 : a.tmps.getD 77 undef = .pointer (some ⟨b2, o2 + i * 5, none⟩) := hphi 8 _ rfl
      have e9 : a.tmps.getD 78 undef = .agg (vcs x raw2) := hphi 9 _ rfl
      have ha := act_of hdf hsz hfr
      simp only [List.take_succ_cons, List.take_zero, List.filterMap_cons, List.filterMap_nil, List.foldl_cons, List.foldl_nil, List.setIfInBounds_toArray, List.set_cons_zero, List.set_cons_succ, e0, e1, e2, e3, e4, e5, e6, e7, e8, e9] at ha
      clear hdf hsz hfr hphi e0 e1 e2 e3 e4 e5 e6 e7 e8 e9
      subst ha
      refine ⟨rfl, ?_⟩
      unfold Oper.wp
      simp [go_sem, callFunc, Act.eval, Tryz.func61]
      refine (Hx.out.2.2.1 _ _ _ _ _ (Hx.out.1.on hC) (Hx.out.2.1.on hC)).mono ?_
      rintro e w8 ⟨rfl, hb8⟩
      have hC8 : Below wr.heap.size wr w8 := hC.trans (hb8.mono hC.size)
      have HI8 := (show Hid (Below w.heap.size w w8 ∧ _ ∧ _) from ⟨HI.out.1.trans (hC8.mono HI.out.1.size), below_blk hC8 HI.out.2.1, below_blk hC8 HI.out.2.2⟩)
      clear hC8 hC hb8 HI Hx
      refine ⟨rfl, ?_⟩
      unfold Oper.wp
      simp [execOp, go_sem, Act.eval, wpTailG]
      refine ‹∀ (a : Act) (w : World), Code.wp Tryz.prog _ _ a w → _› _ _ ?_
      go_wp2_with fail
      go_roundw
      case rel => exact ⟨i + 1, by go_num, by omega, HI8.out⟩
      case measure => rw [hwk]; exact measL hjl
    · have hjz : ¬ (i : Int) < (l.length : Int) := by omega
      obtain rfl : i = l.length := by omega
      have HB := (show Hid (Below w.heap.size w wr) from HI.out.1)
      have hkk : ¬ (l.length : Int) < (l.length : Int) := by omega
      clear HI
      go_wp2_with fail
      go_ret
      exact ⟨rfl, HB.out⟩
theorem rord_dep : ∀ (n : Nat) (v : Val), depV n v → ROrd v
  | 0, v, h => rord_step v (fun x hx => by rw [show v.l = [] from h] at hx; cases hx) (by rw [show v.l = [] from h]; simp)
  | n + 1, v, h => rord_step v (fun x hx => rord_dep n x (h.2 x hx)) h.1

set_option maxHeartbeats 2000000 in
set_option maxRecDepth 8000 in
theorem rOrder_G {w : World} {F1 F2 : Nat → Prop} (v : Val) (raw1 raw2 : Value) (hS1 : SlAt w F1 raw1 v.l) (hS2 : SlAt w F2 raw2 v.l) (hm : mayV v = true) : Calls Tryz.prog 40 #[.agg (vcs v raw1), .agg (vcs v raw2)] w fun e w' => e = .returned (.tuple #[.int .i64 0, .int .i64 0]) ∧ Below w.heap.size w w' := by
  obtain ⟨pa, c, rfl⟩ := hS1.form
  obtain ⟨pa2, c2, rfl⟩ := hS2.form
  have HM : Hid (∀ w', Below w.heap.size w w' → Calls Tryz.prog 60 #[.agg (vcs v (.slice pa v.l.length c))] w' (fun e w'' => e = .returned (.bool true) ∧ Below w'.heap.size w' w'') ∧ Calls Tryz.prog 60 #[.agg (vcs v (.slice pa2 v.l.length c2))] w' (fun e w'' => e = .returned (.bool true) ∧ Below w'.heap.size w' w'') ∧
      Calls Tryz.prog 61 #[.agg (vcs v (.slice pa v.l.length c)), .agg (vcs v (.slice pa2 v.l.length c2))] w' (fun e w'' => e = .returned (.int .i64 0) ∧ Below w'.heap.size w' w'')) := fun w' hb =>
    ⟨rMay_G (hS1.on hb) hm, rMay_G (hS2.on hb) hm, rord_dep 16 v (depV_may hm) _ _ w' _ _ (hS1.on hb) (hS2.on hb)⟩
  clear hS1 hS2 hm
  obtain ⟨k, n, s, l, r⟩ := v
  simp only [vcs] at HM ⊢
  generalize l.length = m at *
  go_enter Tryz.func40, Tryz.ntmps40
  go_wp2_with fail
  have HB0 : Hid (Below w.heap.size w ((w.alloc (.cells #[.int .u8 k, .int .i64 n, .string s, .slice pa m c, .int .i64 r] 34)).alloc (.cells #[.int .u8 k, .int .i64 n, .string s, .slice pa2 m c2, .int .i64 r] 34))) := ((Below.refl _ w).alloc (Nat.le_refl _) _).alloc (by simp) _
  refine Calls.mono (HM.out _ HB0.out).1 ?_
  rintro e w1 ⟨rfl, hb1⟩
  have HB1 : Hid (Below w.heap.size w w1) := HB0.out.trans (hb1.mono HB0.out.size)
  obtain ⟨⟨a0, a1, a2, a3, a4⟩, -⟩ := cells5 (below_blk hb1 (blk2_old w _ _))
  obtain ⟨⟨b0, b1, b2, b3, b4⟩, -⟩ := cells5 (below_blk hb1 (blk2_new w _ _))
  have HA := (show Hid _ from below_blk hb1 (blk2_old w _ _))
  have HC := (show Hid _ from below_blk hb1 (blk2_new w _ _))
  clear hb1 HB0
  go_wp2_with fail
  refine Calls.mono (HM.out _ HB1.out).2.1 ?_
  rintro e w2 ⟨rfl, hb2⟩
  have HB2 : Hid (Below w.heap.size w w2) := HB1.out.trans (hb2.mono HB1.out.size)
  have hA2 := below_blk hb2 HA.out
  have hC2 := below_blk hb2 HC.out
  clear a0 a1 a2 a3 a4 b0 b1 b2 b3 b4
  obtain ⟨⟨a0, a1, a2, a3, a4⟩, -⟩ := cells5 hA2
  obtain ⟨⟨b0, b1, b2, b3, b4⟩, -⟩ := cells5 hC2
  clear hb2 hA2 hC2 HA HC HB1
  go_wp2_with fail
  refine Calls.mono (HM.out _ HB2.out).2.2 ?_
  rintro e w3 ⟨rfl, hb3⟩
  have HB3 : Hid (Below w.heap.size w w3) := HB2.out.trans (hb3.mono HB2.out.size)
  clear hb3 a0 a1 a2 a3 a4 b0 b1 b2 b3 b4
  go_wp2_with fail
  go_ret2
  exact ⟨rfl, HB3.out⟩
set_option maxRecDepth 8000 in
/-- One value is the same as itself, wherever it lies. -/
theorem rSame_G {w : World} {F1 F2 : Nat → Prop} (v : Val) (raw1 raw2 : Value) (hS1 : SlAt w F1 raw1 v.l) (hS2 : SlAt w F2 raw2 v.l) (hm : mayV v = true) : Calls Tryz.prog 16 #[.agg (vcs v raw1), .agg (vcs v raw2)] w fun e w' => e = .returned (.bool true) ∧ Below w.heap.size w w' := by
  have HM : Hid (∀ w', Below w.heap.size w w' → Calls Tryz.prog 40 #[.agg (vcs v raw1), .agg (vcs v raw2)] w' (fun e w'' => e = .returned (.tuple #[.int .i64 0, .int .i64 0]) ∧ Below w'.heap.size w' w'')) := fun w' hb => rOrder_G v raw1 raw2 (hS1.on hb) (hS2.on hb) hm
  obtain ⟨pa, c, rfl⟩ := hS1.form
  obtain ⟨pa2, c2, rfl⟩ := hS2.form
  clear hS1 hS2 hm
  obtain ⟨k, n, s, l, r⟩ := v
  simp only [vcs] at HM ⊢
  generalize l.length = m at *
  go_enter Tryz.func16, Tryz.ntmps16
  go_wp2_with fail
  have HB0 : Hid (Below w.heap.size w ((w.alloc (.cells #[.int .u8 k, .int .i64 n, .string s, .slice pa m c, .int .i64 r] 34)).alloc (.cells #[.int .u8 k, .int .i64 n, .string s, .slice pa2 m c2, .int .i64 r] 34))) := ((Below.refl _ w).alloc (Nat.le_refl _) _).alloc (by simp) _
  refine Calls.mono (HM.out _ HB0.out) ?_
  rintro e w1 ⟨rfl, hb1⟩
  have HB1 : Hid (Below w.heap.size w w1) := HB0.out.trans (hb1.mono HB0.out.size)
  clear hb1 HB0
  go_wp2_with fail
  go_ret
  exact ⟨rfl, HB1.out⟩

theorem execOp_ldRsR620 (ρ : Operand → Value) (ty : TypeId) (pos : String) (af : Array Edge) (g : Option (Nat × Bool)) :
    execOp ρ { dst := some 20, op := .load 34 (.tmp 19), type := ty, pos := pos, after := af, guard := g } = ldV (ρ (.tmp 19)) := rfl
theorem execOp_ldRsR624 (ρ : Operand → Value) (ty : TypeId) (pos : String) (af : Array Edge) (g : Option (Nat × Bool)) :
    execOp ρ { dst := some 24, op := .load 34 (.tmp 23), type := ty, pos := pos, after := af, guard := g } = ldV (ρ (.tmp 23)) := rfl
def RsR6 (b o c b2 o2 c2 i ln : Nat) (rc rl : Value) (j : Nat) (v : Value) (_ : World) : Prop :=
  match j with
  | 0 => v = .slice (some ⟨b, o, none⟩) ln c
  | 1 => v = .int .i64 i
  | 2 => v = .pointer (some ⟨b, o + i * 5, none⟩)
  | 3 => v = rc
  | 4 => v = .slice (some ⟨b2, o2, none⟩) ln c2
  | 5 => v = .int .i64 i
  | 6 => v = .pointer (some ⟨b2, o2 + i * 5, none⟩)
  | 7 => v = rl
  | _ => True
set_option maxHeartbeats 4000000 in
set_option maxRecDepth 8000 in
theorem rSameAll_G {w : World} {F1 F2 : Nat → Prop} (l : List Val) (raw1 raw2 : Value) (hS1 : SlAt w F1 raw1 l) (hS2 : SlAt w F2 raw2 l) (hm : ∀ x ∈ l, mayV x = true) (hl : l.length < 1099511627776) : Calls Tryz.prog 17 #[raw1, raw2] w fun e w' => e = .returned (.bool true) ∧ Below w.heap.size w w' := by
  obtain ⟨pa, c, rfl⟩ := hS1.form
  obtain ⟨pa2, c2, rfl⟩ := hS2.form
  have HS := (show Hid (∀ w', Below w.heap.size w w' → SlAt w' F1 (.slice pa l.length c) l ∧ SlAt w' F2 (.slice pa2 l.length c2) l) from fun w' hb => ⟨hS1.on hb, hS2.on hb⟩)
  have HR := (show Hid (∀ x ∈ l, mayV x = true) from hm)
  have HL : Hid (l.length < 1099511627776) := hl
  clear hS1 hS2 hm hl
  go_enter Tryz.func17, Tryz.ntmps17
  go_wp2_with fail
  go_loopw [5] (fun vi wr => ∃ i : Nat, vi = .int .i64 i ∧ i ≤ l.length ∧ Hid (Below w.heap.size w wr)) (fun vi _ => l.length - (intOf vi).toNat)
  case atStart => exact ⟨0, rfl, Nat.zero_le _, Below.refl _ _⟩
  case round =>
    obtain ⟨i, rfl, hi, HI⟩ := hrel
    by_cases hjl : i < l.length
    · have hjz : (i : Int) < (l.length : Int) := by omega
      obtain ⟨x, hx⟩ : ∃ x, l[i]? = some x := ⟨_, List.getElem?_eq_getElem hjl⟩
      obtain ⟨b, o, cq, raw, hpe, hrg, hlt, -, hSx⟩ := (HS.out wr HI.out).1.range hx
      cases hpe
      obtain ⟨b2, o2, cq2, raw2, hpe2, hrg2, hlt2, -, hSx2⟩ := (HS.out wr HI.out).2.range hx
      cases hpe2
      have Hx := (show Hid (SlAt wr F1 raw x.l ∧ SlAt wr F2 raw2 x.l ∧ mayV x = true ∧ (∀ w', Below wr.heap.size wr w' → (ldV (.pointer (some ⟨b, o + i * 5, none⟩))).run Tryz.prog w' = .ok (.value (.agg (vcs x raw))) w') ∧ (∀ w', Below wr.heap.size wr w' → (ldV (.pointer (some ⟨b2, o2 + i * 5, none⟩))).run Tryz.prog w' = .ok (.value (.agg (vcs x raw2))) w')) from ⟨hSx, hSx2, HR.out x (List.mem_of_getElem? hx), fun w' h => ld_on hrg h hlt, fun w' h => ld_on hrg2 h hlt2⟩)
      have hwk : wrap64 ((i : Int) + 1) = (i : Int) + 1 := by have := HL.out; unfold wrap64; omega
      clear hx hrg hrg2 hSx hSx2 hlt hlt2
      go_upto_region 6 with fail
      refine wp_region_growK 8 (by kernel_rfl) rfl (by kernel_rfl) (by kernel_rfl) (fun a b => Below a.heap.size a b) (RsR6 b o c b2 o2 c2 i l.length (.agg (vcs x raw)) (.agg (vcs x raw2))) (fun w' => Below wr.heap.size wr w') (fun j v w w' _ h => h) below_drew (fun a b h hR => h.trans (hR.mono h.size)) ?_ ?_ ?_
      · intro j q g b hq hgd
        have hj : j < 8 := (List.getElem?_eq_some_iff.1 hq).1
        match j, hj with
        | 0, _ => cases hq; cases hgd
        | 1, _ => cases hq; cases hgd
        | 2, _ => cases hq; cases hgd
        | 3, _ => cases hq; cases hgd
        | 4, _ => cases hq; cases hgd
        | 5, _ => cases hq; cases hgd
        | 6, _ => cases hq; cases hgd
        | 7, _ => cases hq; cases hgd
      · intro j q a w7 hq hC hG
        have hj : j < 8 := (List.getElem?_eq_some_iff.1 hq).1
        match j, hj with
        | 0, _ =>
          cases hq
          have h0 : a.tmps.getD 0 undef = .slice (some ⟨b, o, none⟩) l.length c := hG.fr 0 (by simp)
          have h0' : a.tmps[0]?.getD undef = .slice (some ⟨b, o, none⟩) l.length c := by rw [← h0]; simp [Array.getD_eq_getD_getElem?]
          unfold Oper.wp
          simp [go_sem, Act.eval, h0']
          exact ⟨_, rfl, Below.refl _ _, rfl⟩
        | 1, _ =>
          cases hq
          have h5 : a.tmps.getD 5 undef = .int .i64 i := hG.fr 5 (by simp)
          have h5' : a.tmps[5]?.getD undef = .int .i64 i := by rw [← h5]; simp [Array.getD_eq_getD_getElem?]
          unfold Oper.wp
          simp [go_sem, Act.eval, h5']
          exact ⟨_, rfl, Below.refl _ _, rfl⟩
        | 2, _ =>
          cases hq
          have h17 : a.tmps.getD 17 undef = .slice (some ⟨b, o, none⟩) l.length c := hG.dep ⟨0, .data⟩ (by simp) rfl _ rfl
          have h17' : a.tmps[17]?.getD undef = .slice (some ⟨b, o, none⟩) l.length c := by rw [← h17]; simp [Array.getD_eq_getD_getElem?]
          have h18 : a.tmps.getD 18 undef = .int .i64 i := hG.dep ⟨1, .data⟩ (by simp) rfl _ rfl
          have h18' : a.tmps[18]?.getD undef = .int .i64 i := by rw [← h18]; simp [Array.getD_eq_getD_getElem?]
          unfold Oper.wp
          simp [go_sem, Act.eval, h17', h18', hjz]
          exact ⟨_, rfl, Below.refl _ _, rfl⟩
        | 3, _ =>
          cases hq
          have h19 : a.tmps.getD 19 undef = .pointer (some ⟨b, o + i * 5, none⟩) := hG.dep ⟨2, .data⟩ (by simp) rfl _ rfl
          refine step_g (.agg (vcs x raw)) ?_ (Below.refl _ _) rfl
          rw [execOp_ldRsR620]
          show (ldV (a.tmps.getD 19 undef)).run _ _ = _
          rw [h19]
          exact Hx.out.2.2.2.1 _ hC
        | 4, _ =>
          cases hq
          have h1 : a.tmps.getD 1 undef = .slice (some ⟨b2, o2, none⟩) l.length c2 := hG.fr 1 (by simp)
          have h1' : a.tmps[1]?.getD undef = .slice (some ⟨b2, o2, none⟩) l.length c2 := by rw [← h1]; simp [Array.getD_eq_getD_getElem?]
          unfold Oper.wp
          simp [go_sem, Act.eval, h1']
          exact ⟨_, rfl, Below.refl _ _, rfl⟩
        | 5, _ =>
          cases hq
          have h5 : a.tmps.getD 5 undef = .int .i64 i := hG.fr 5 (by simp)
          have h5' : a.tmps[5]?.getD undef = .int .i64 i := by rw [← h5]; simp [Array.getD_eq_getD_getElem?]
          unfold Oper.wp
          simp [go_sem, Act.eval, h5']
          exact ⟨_, rfl, Below.refl _ _, rfl⟩
        | 6, _ =>
          cases hq
          have h21 : a.tmps.getD 21 undef = .slice (some ⟨b2, o2, none⟩) l.length c2 := hG.dep ⟨4, .data⟩ (by simp) rfl _ rfl
          have h21' : a.tmps[21]?.getD undef = .slice (some ⟨b2, o2, none⟩) l.length c2 := by rw [← h21]; simp [Array.getD_eq_getD_getElem?]
          have h22 : a.tmps.getD 22 undef = .int .i64 i := hG.dep ⟨5, .data⟩ (by simp) rfl _ rfl
          have h22' : a.tmps[22]?.getD undef = .int .i64 i := by rw [← h22]; simp [Array.getD_eq_getD_getElem?]
          unfold Oper.wp
          simp [go_sem, Act.eval, h21', h22', hjz]
          exact ⟨_, rfl, Below.refl _ _, rfl⟩
        | 7, _ =>
          cases hq
          have h23 : a.tmps.getD 23 undef = .pointer (some ⟨b2, o2 + i * 5, none⟩) := hG.dep ⟨6, .data⟩ (by simp) rfl _ rfl
          refine step_g (.agg (vcs x raw2)) ?_ (Below.refl _ _) rfl
          rw [execOp_ldRsR624]
          show (ldV (a.tmps.getD 23 undef)).run _ _ = _
          rw [h23]
          exact Hx.out.2.2.2.2 _ hC
      intro a w7 hC hdf hsz hfr hphi
      have e0 : a.tmps.getD 17 undef = .slice (some ⟨b, o, none⟩) l.length c := hphi 0 _ rfl
      have e1 : a.tmps.getD 18 undef = .int .i64 i := hphi 1 _ rfl
      have e2 : a.tmps.getD 19 undef = .pointer (some ⟨b, o + i * 5, none⟩) := hphi 2 _ rfl
      have e3 : a.tmps.getD 20 undef = .agg (vcs x raw) := hphi 3 _ rfl
      have e4 : a.tmps.getD 21 undef = .slice (some ⟨b2, o2, none⟩) l.length c2 := hphi 4 _ rfl
      have e5 : a.tmps.getD 22 undef = .int .i64 i := hphi 5 _ rfl
      have e6 : a.tmps.getD 23 undef = .pointer (some ⟨b2, o2 + i * 5, none⟩) := hphi 6 _ rfl
      have e7 : a.tmps.getD 24 undef = .agg (vcs x raw2) := hphi 7 _ rfl
      have ha := act_of hdf hsz hfr
      simp only [List.take_succ_cons, List.take_zero, List.filterMap_cons, List.filterMap_nil, List.foldl_cons, List.foldl_nil, List.setIfInBounds_toArray, List.set_cons_zero, List.set_cons_succ, e0, e1, e2, e3, e4, e5, e6, e7] at ha
      clear hdf hsz hfr hphi e0 e1 e2 e3 e4 e5 e6 e7
      subst ha
      refine ⟨rfl, ?_⟩
      unfold Oper.wp
      simp [go_sem, callFunc, Act.eval, Tryz.func16]
      refine (rSame_G x raw raw2 (Hx.out.1.on hC) (Hx.out.2.1.on hC) Hx.out.2.2.1).mono ?_
      rintro e w8 ⟨rfl, hb8⟩
      have hC8 : Below wr.heap.size wr w8 := hC.trans (hb8.mono hC.size)
      have HI8 : Hid (Below w.heap.size w w8) := HI.out.trans (hC8.mono HI.out.size)
      clear hC8 hC hb8 HI Hx
      refine ⟨rfl, ?_⟩
      unfold Oper.wp
      simp [execOp, go_sem, Act.eval, wpTailG]
      refine ‹∀ (a : Act) (w : World), Code.wp Tryz.prog _ _ a w → _› _ _ ?_
      go_wp2_with fail
      go_roundw
      case rel => exact ⟨i + 1, by go_num, by omega, HI8.out⟩
      case measure => rw [hwk]; exact measL hjl
    · have hjz : ¬ (i : Int) < (l.length : Int) := by omega
      obtain rfl : i = l.length := by omega
      have HB := (show Hid (Below w.heap.size w wr) from HI.out)
      have hkk : ¬ (l.length : Int) < (l.length : Int) := by omega
      clear HI
      go_wp2_with fail
      go_ret
      exact ⟨rfl, HB.out⟩
end Go.Proofs.YtcoiccbmcjdheaaGreat
