/- A part of the proof, several texts in one: Aw. -/
import Derived.Test.YtcoiccbmcjdheaaGreatmBH
import Derived.Test.YtcoiccbmcjdheaaGreatmAF
import Derived.Test.YtcoiccbmcjdheaaGreatmBL
/- awake of posternlaw08: it is true. Printed by gen_awake.py. -/
namespace Go.Proofs.YtcoiccbmcjdheaaGreat
open Go.RowKit Go.ChangeMaps Go.MapKept

def AM0 : WM := WM.new []
def AM1 (a : Value) : WM := makeM AM0 (cellT 0 (numV 1) a)
def AM2 (a : Value) : WM := makeM (AM1 a) (lt 4 0 0 0 0 0 0 0 0 false)
def AM3 (a b : Value) : WM := (AM2 a).set 2 (qT 4 0 ([] ++ [numV 5]) b)
def AM4 (a b c : Value) : WM := (AM3 a b).set 2 (qT 4 0 ((([] : List Val) ++ [numV 5]).drop (1 : Int).toNat) c)
theorem atree : TreeOk [] := ⟨by decide, fun i p h => by simp at h⟩
theorem aat1 (a : Value) : (AM2 a).at 1 = some (cellT 0 (numV 1) a) := rfl
theorem aat2 (a : Value) : (AM2 a).at 2 = some (qT 4 0 [] (.slice none 0 0)) := rfl
theorem aat3 (a b : Value) : (AM3 a b).at 2 = some (qT 4 0 ([] ++ [numV 5]) b) := rfl
theorem aat4 (a b c : Value) : (AM4 a b c).at 2 = some (qT 4 0 [] c) := rfl
theorem Own.acts {w w1 w2 : World} {p : Nat} {N : WM} {F : Nat → Prop} (h2 : ∀ b, F b → w.heap.size ≤ b) (h3 : Below w.heap.size w w1) (ha : Acts w1 p F N w2) : Own w w2 p N := by
  obtain ⟨hk, F', hW', hF'⟩ := ha
  exact ⟨F', hW', fun b hb => by
    rcases hF' b hb with h | h
    · exact h2 b h
    · exact Nat.le_trans h3.size h, Keeps.below hk h3.size h2 |> fun x => h3.trans x⟩
theorem Own.below0 {w w1 : World} {p : Nat} {N : WM} (h : Own w w1 p N) : Below w.heap.size w w1 := by
  obtain ⟨F, -, -, h⟩ := h
  exact h
theorem heldq (vs : List Val) (a : Value) (h : ∀ x ∈ vs, refsV x = []) : ∀ (M : WM), ∀ r ∈ heldL (qT 4 0 vs a), (Lit.int .i64 r).wf = true ∧ (M.at r).isSome = true := by
  intro M r hr
  simp only [heldL, List.mem_append, List.mem_flatMap] at hr
  rcases hr with hr | ⟨x, hx, hr⟩
  · rw [(refsV0 0 0 (.inl ⟨rfl, rfl⟩)).1] at hr
    cases hr
  · rw [h x hx] at hr
    cases hr
theorem execOp_ldVa56 (ρ : Operand → Value) (ty : TypeId) (pos : String) (af : Array Edge) (g : Option (Nat × Bool)) :
    execOp ρ { dst := some 56, op := .load 34 (.tmp 7), type := ty, pos := pos, after := af, guard := g } = ldV (ρ (.tmp 7)) := rfl
def AwPhi (p : Nat) (pv : Option Addr) (cv : Nat) (j : Nat) (v : Value) (_ : World) : Prop :=
  match j with
  | 0 => v = .int .i64 0
  | 1 => v = .bool false
  | 2 => v = .bool false
  | 3 => v = .int .i64 0
  | 4 => v = .bool false
  | 5 => v = .bool false
  | 6 => v = .bool false
  | 7 => v = .int .i64 0
  | 8 => v = .bool false
  | 9 => v = .bool false
  | 10 => v = .bool false
  | 11 => v = .int .i64 1
  | 12 => v = .bool false
  | 13 => v = .bool false
  | 14 => v = .bool false
  | 15 => v = .int .i64 2
  | 16 => v = .bool false
  | 17 => v = .bool false
  | 18 => v = .bool false
  | 19 => v = .agg #[.int .u8 1, .int .i64 1, .string ⟨#[]⟩, .slice pv 0 cv, .int .i64 0]
  | 20 => v = .agg #[.int .u8 1, .int .i64 1, .string ⟨#[]⟩, .slice none 0 0, .int .i64 0]
  | 21 => v = .bool true
  | 22 => v = .bool false
  | 23 => v = .bool false
  | 24 => v = .bool false
  | 25 => v = .pointer (some ⟨p, 0, none⟩)
  | 26 => v = .int .i64 2
  | 27 => v = .agg #[.int .u8 1, .int .i64 5, .string ⟨#[]⟩, .slice none 0 0, .int .i64 0]
  | _ => True
set_option maxHeartbeats 8000000 in
set_option maxRecDepth 20000 in
theorem awake08_W (w : World) : Calls Tryz.prog 8 #[] w fun e w' => e = .returned (.bool true) ∧ Below w.heap.size w w' := by
  go_enter Tryz.func8, Tryz.ntmps8
  go_wp2_with fail
  refine (New_W w none 0 [] (.inl rfl)).mono ?_
  rintro e w1 hpost
  obtain ⟨p, F, rfl, hW, hF, hb⟩ := (Or.resolve_right hpost (fun h => h.1 atree)).2
  clear hpost
  have HO : Hid (Own w w1 p AM0) := ⟨F, hW, fun b h => hF b h, hb⟩
  clear hW hF hb
  go_wp2_with fail
  refine (num08_W _ 1).mono ?_
  rintro e w2 ⟨rfl, hb2⟩
  have HO2 : Hid (Own w w2 p AM0) := HO.out.below hb2
  clear hb2 HO
  go_wp2_with fail
  obtain ⟨F, hW, h2, h3⟩ := HO2.out
  refine (Cell_G hW (by decide) (h := 0) (by decide) (numV 1) (.slice none 0 0) (SlAt.nil w2 F none 0) (refsV0 1 1 (.inr rfl)).2 (fun r hr => by rw [(refsV0 1 1 (.inr rfl)).1] at hr; cases hr)).mono ?_
  rintro e w3 (⟨-, rfl, t, F', ⟨vl', rfl⟩, hW', hg⟩ | ⟨hx, -, -⟩)
  rotate_left
  · exact absurd (by decide) hx
  have HO3 : Hid (Own w w3 p (AM1 vl')) := Own.turn h2 h3 hW' hg
  clear HO2 hW h2 h3 hW' hg
  simp only [show AM0.last + 1 = 1 from rfl]
  go_wp2_with fail
  obtain ⟨F, hW, h2, h3⟩ := HO3.out
  refine (Queue_G hW (by show (1 : Int) + 1 ≤ 1099511627776; decide) (h := 0) (by show (0 : Int) ≤ 0 ∧ (0 : Int) < 1; decide)).mono ?_
  rintro e w4 (⟨-, rfl, t, F', rfl, hW', hg⟩ | ⟨hx, -, -⟩)
  rotate_left
  · exact absurd (by show (1 : Int) < 512; decide) hx
  have HO4 : Hid (Own w w4 p (AM2 vl')) := Own.turn h2 h3 hW' hg
  clear HO3 hW h2 h3 hW' hg
  simp only [show (AM1 vl').last + 1 = 2 from rfl]
  go_wp2_with fail
  obtain ⟨F, hW, h2, h3⟩ := HO4.out
  refine (plGet_A hW.lt (fun w1 hb => act_1_1 (hW.below hb) rfl (aat1 vl') (refsV0 1 1 (.inr rfl)).2)).mono ?_
  rintro e w5 hp5
  obtain ⟨v, pv, cv, n, N, rfl, ⟨rfl, rfl, rfl⟩, ha⟩ := hp5.acts
  have HO5 : Hid (Own w w5 p (AM2 vl')) := Own.acts h2 h3 ha
  clear HO4 hW h2 h3 ha hp5
  simp only [vcs, List.length_nil]
  go_upto_region 7 with fail
  have HQ : Hid (Below w5.heap.size w5 (w5.alloc (.cells #[.int .u8 1, .int .i64 1, .string ⟨#[]⟩, .slice pv 0 cv, .int .i64 0] 34)) ∧ (w5.alloc (.cells #[.int .u8 1, .int .i64 1, .string ⟨#[]⟩, .slice pv 0 cv, .int .i64 0] 34)).heap[w5.heap.size]? = some (.cells #[.int .u8 1, .int .i64 1, .string ⟨#[]⟩, .slice pv 0 cv, .int .i64 0] 34 (0, 0))) := ⟨(Below.refl _ _).alloc (Nat.le_refl _) _, blk_new _ _⟩
  obtain ⟨q7, hq7⟩ : ∃ q7, q7 = w5.heap.size := ⟨_, rfl⟩
  have HO6 : Hid (Own w (w5.alloc (.cells #[.int .u8 1, .int .i64 1, .string ⟨#[]⟩, .slice pv 0 cv, .int .i64 0] 34)) p (AM2 vl')) := HO5.out.below HQ.out.1
  have Hq : Hid ((w5.alloc (.cells #[.int .u8 1, .int .i64 1, .string ⟨#[]⟩, .slice pv 0 cv, .int .i64 0] 34)).heap[q7]? = some (.cells #[.int .u8 1, .int .i64 1, .string ⟨#[]⟩, .slice pv 0 cv, .int .i64 0] 34 (0, 0))) := by
    show _ = _
    rw [hq7]
    exact HQ.out.2
  rw [← hq7]
  clear HQ HO5 hq7
  revert HO6 Hq
  generalize w5.alloc _ = wa
  intro HO6 Hq
  refine wp_region_growK 28 (by kernel_rfl) rfl (by kernel_rfl) (by kernel_rfl) (fun a b => Below a.heap.size a b) (AwPhi p pv cv) (fun w' => Below wa.heap.size wa w') (fun j v w w' _ h => h) below_drew (fun a b h hR => h.trans (hR.mono h.size)) ?_ ?_ ?_
  · intro j q g b hq hgd
    have hj : j < 28 := (List.getElem?_eq_some_iff.1 hq).1
    match j, hj with
    | 0, _ => cases hq; cases hgd
    | 1, _ => cases hq; cases hgd
    | 2, _ => cases hq; cases hgd
    | 3, _ => cases hq; cases hgd; exact fun v w h => h
    | 4, _ => cases hq; cases hgd; exact fun v w h => h
    | 5, _ => cases hq; cases hgd
    | 6, _ => cases hq; cases hgd
    | 7, _ => cases hq; cases hgd; exact fun v w h => h
    | 8, _ => cases hq; cases hgd; exact fun v w h => h
    | 9, _ => cases hq; cases hgd
    | 10, _ => cases hq; cases hgd
    | 11, _ => cases hq; cases hgd; exact fun v w h => h
    | 12, _ => cases hq; cases hgd; exact fun v w h => h
    | 13, _ => cases hq; cases hgd
    | 14, _ => cases hq; cases hgd
    | 15, _ => cases hq; cases hgd; exact fun v w h => h
    | 16, _ => cases hq; cases hgd; exact fun v w h => h
    | 17, _ => cases hq; cases hgd
    | 18, _ => cases hq; cases hgd
    | 19, _ => cases hq; cases hgd; exact fun v w h => h
    | 20, _ => cases hq; cases hgd; exact fun v w h => h
    | 21, _ => cases hq; cases hgd; exact fun v w h => h
    | 22, _ => cases hq; cases hgd; exact fun v w h => h
    | 23, _ => cases hq; cases hgd
    | 24, _ => cases hq; cases hgd
    | 25, _ => cases hq; cases hgd; exact fun v w h => h
    | 26, _ => cases hq; cases hgd; exact fun v w h => h
    | 27, _ => cases hq; cases hgd; exact fun v w h => h
  · intro j q a w7 hq hC hG
    have hj : j < 28 := (List.getElem?_eq_some_iff.1 hq).1
    match j, hj with
    | 0, _ =>
      cases hq
      have h4 : a.tmps.getD 4 undef = .int .i64 0 := hG.fr 4 (by simp)
      have h4' : a.tmps[4]?.getD undef = .int .i64 0 := by rw [← h4]; simp [Array.getD_eq_getD_getElem?]
      unfold Oper.wp
      simp [go_sem, Act.eval, h4']
      exact ⟨_, rfl, Below.refl _ _, rfl⟩
    | 1, _ =>
      cases hq
      have h37 : a.tmps.getD 37 undef = .int .i64 0 := hG.dep ⟨0, .data⟩ (by simp) rfl _ rfl
      have h37' : a.tmps[37]?.getD undef = .int .i64 0 := by rw [← h37]; simp [Array.getD_eq_getD_getElem?]
      unfold Oper.wp
      simp [go_sem, Act.eval, h37']
      exact ⟨_, rfl, Below.refl _ _, rfl⟩
    | 2, _ =>
      cases hq
      have h38 : a.tmps.getD 38 undef = .bool false := hG.dep ⟨1, .data⟩ (by simp) rfl _ rfl
      have h38' : a.tmps[38]?.getD undef = .bool false := by rw [← h38]; simp [Array.getD_eq_getD_getElem?]
      unfold Oper.wp
      simp [go_sem, Act.eval, h38']
      exact ⟨_, rfl, Below.refl _ _, rfl⟩
    | 3, _ =>
      cases hq
      have h6 : a.tmps.getD 6 undef = .int .i64 0 := hG.fr 6 (by simp)
      have h6' : a.tmps[6]?.getD undef = .int .i64 0 := by rw [← h6]; simp [Array.getD_eq_getD_getElem?]
      unfold Oper.wp
      simp [go_sem, Act.eval, h6']
      exact ⟨_, rfl, Below.refl _ _, rfl⟩
    | 4, _ =>
      cases hq
      have h40 : a.tmps.getD 40 undef = .int .i64 0 := hG.dep ⟨3, .data⟩ (by simp) rfl _ rfl
      have h40' : a.tmps[40]?.getD undef = .int .i64 0 := by rw [← h40]; simp [Array.getD_eq_getD_getElem?]
      unfold Oper.wp
      simp [go_sem, Act.eval, h40']
      exact ⟨_, rfl, Below.refl _ _, rfl⟩
    | 5, _ =>
      cases hq
      have h39 : a.tmps.getD 39 undef = .bool false := hG.dep ⟨2, .data⟩ (by simp) rfl _ rfl
      have h39' : a.tmps[39]?.getD undef = .bool false := by rw [← h39]; simp [Array.getD_eq_getD_getElem?]
      have h41 : a.tmps.getD 41 undef = .bool false := hG.dep ⟨4, .data⟩ (by simp) rfl _ rfl
      have h41' : a.tmps[41]?.getD undef = .bool false := by rw [← h41]; simp [Array.getD_eq_getD_getElem?]
      unfold Oper.wp
      simp [go_sem, Act.eval, h39', h41']
      exact ⟨_, rfl, Below.refl _ _, rfl⟩
    | 6, _ =>
      cases hq
      have h42 : a.tmps.getD 42 undef = .bool false := hG.dep ⟨5, .data⟩ (by simp) rfl _ rfl
      have h42' : a.tmps[42]?.getD undef = .bool false := by rw [← h42]; simp [Array.getD_eq_getD_getElem?]
      unfold Oper.wp
      simp [go_sem, Act.eval, h42']
      exact ⟨_, rfl, Below.refl _ _, rfl⟩
    | 7, _ =>
      cases hq
      have h8 : a.tmps.getD 8 undef = .int .i64 0 := hG.fr 8 (by simp)
      have h8' : a.tmps[8]?.getD undef = .int .i64 0 := by rw [← h8]; simp [Array.getD_eq_getD_getElem?]
      unfold Oper.wp
      simp [go_sem, Act.eval, h8']
      exact ⟨_, rfl, Below.refl _ _, rfl⟩
    | 8, _ =>
      cases hq
      have h44 : a.tmps.getD 44 undef = .int .i64 0 := hG.dep ⟨7, .data⟩ (by simp) rfl _ rfl
      have h44' : a.tmps[44]?.getD undef = .int .i64 0 := by rw [← h44]; simp [Array.getD_eq_getD_getElem?]
      unfold Oper.wp
      simp [go_sem, Act.eval, h44']
      exact ⟨_, rfl, Below.refl _ _, rfl⟩
    | 9, _ =>
      cases hq
      have h43 : a.tmps.getD 43 undef = .bool false := hG.dep ⟨6, .data⟩ (by simp) rfl _ rfl
      have h43' : a.tmps[43]?.getD undef = .bool false := by rw [← h43]; simp [Array.getD_eq_getD_getElem?]
      have h45 : a.tmps.getD 45 undef = .bool false := hG.dep ⟨8, .data⟩ (by simp) rfl _ rfl
      have h45' : a.tmps[45]?.getD undef = .bool false := by rw [← h45]; simp [Array.getD_eq_getD_getElem?]
      unfold Oper.wp
      simp [go_sem, Act.eval, h43', h45']
      exact ⟨_, rfl, Below.refl _ _, rfl⟩
    | 10, _ =>
      cases hq
      have h46 : a.tmps.getD 46 undef = .bool false := hG.dep ⟨9, .data⟩ (by simp) rfl _ rfl
      have h46' : a.tmps[46]?.getD undef = .bool false := by rw [← h46]; simp [Array.getD_eq_getD_getElem?]
      unfold Oper.wp
      simp [go_sem, Act.eval, h46']
      exact ⟨_, rfl, Below.refl _ _, rfl⟩
    | 11, _ =>
      cases hq
      have h3 : a.tmps.getD 3 undef = .int .i64 1 := hG.fr 3 (by simp)
      have h3' : a.tmps[3]?.getD undef = .int .i64 1 := by rw [← h3]; simp [Array.getD_eq_getD_getElem?]
      unfold Oper.wp
      simp [go_sem, Act.eval, h3']
      exact ⟨_, rfl, Below.refl _ _, rfl⟩
    | 12, _ =>
      cases hq
      have h48 : a.tmps.getD 48 undef = .int .i64 1 := hG.dep ⟨11, .data⟩ (by simp) rfl _ rfl
      have h48' : a.tmps[48]?.getD undef = .int .i64 1 := by rw [← h48]; simp [Array.getD_eq_getD_getElem?]
      unfold Oper.wp
      simp [go_sem, Act.eval, h48']
      exact ⟨_, rfl, Below.refl _ _, rfl⟩
    | 13, _ =>
      cases hq
      have h47 : a.tmps.getD 47 undef = .bool false := hG.dep ⟨10, .data⟩ (by simp) rfl _ rfl
      have h47' : a.tmps[47]?.getD undef = .bool false := by rw [← h47]; simp [Array.getD_eq_getD_getElem?]
      have h49 : a.tmps.getD 49 undef = .bool false := hG.dep ⟨12, .data⟩ (by simp) rfl _ rfl
      have h49' : a.tmps[49]?.getD undef = .bool false := by rw [← h49]; simp [Array.getD_eq_getD_getElem?]
      unfold Oper.wp
      simp [go_sem, Act.eval, h47', h49']
      exact ⟨_, rfl, Below.refl _ _, rfl⟩
    | 14, _ =>
      cases hq
      have h50 : a.tmps.getD 50 undef = .bool false := hG.dep ⟨13, .data⟩ (by simp) rfl _ rfl
      have h50' : a.tmps[50]?.getD undef = .bool false := by rw [← h50]; simp [Array.getD_eq_getD_getElem?]
      unfold Oper.wp
      simp [go_sem, Act.eval, h50']
      exact ⟨_, rfl, Below.refl _ _, rfl⟩
    | 15, _ =>
      cases hq
      have h5 : a.tmps.getD 5 undef = .int .i64 2 := hG.fr 5 (by simp)
      have h5' : a.tmps[5]?.getD undef = .int .i64 2 := by rw [← h5]; simp [Array.getD_eq_getD_getElem?]
      unfold Oper.wp
      simp [go_sem, Act.eval, h5']
      exact ⟨_, rfl, Below.refl _ _, rfl⟩
    | 16, _ =>
      cases hq
      have h52 : a.tmps.getD 52 undef = .int .i64 2 := hG.dep ⟨15, .data⟩ (by simp) rfl _ rfl
      have h52' : a.tmps[52]?.getD undef = .int .i64 2 := by rw [← h52]; simp [Array.getD_eq_getD_getElem?]
      unfold Oper.wp
      simp [go_sem, Act.eval, h52']
      exact ⟨_, rfl, Below.refl _ _, rfl⟩
    | 17, _ =>
      cases hq
      have h51 : a.tmps.getD 51 undef = .bool false := hG.dep ⟨14, .data⟩ (by simp) rfl _ rfl
      have h51' : a.tmps[51]?.getD undef = .bool false := by rw [← h51]; simp [Array.getD_eq_getD_getElem?]
      have h53 : a.tmps.getD 53 undef = .bool false := hG.dep ⟨16, .data⟩ (by simp) rfl _ rfl
      have h53' : a.tmps[53]?.getD undef = .bool false := by rw [← h53]; simp [Array.getD_eq_getD_getElem?]
      unfold Oper.wp
      simp [go_sem, Act.eval, h51', h53']
      exact ⟨_, rfl, Below.refl _ _, rfl⟩
    | 18, _ =>
      cases hq
      have h54 : a.tmps.getD 54 undef = .bool false := hG.dep ⟨17, .data⟩ (by simp) rfl _ rfl
      have h54' : a.tmps[54]?.getD undef = .bool false := by rw [← h54]; simp [Array.getD_eq_getD_getElem?]
      unfold Oper.wp
      simp [go_sem, Act.eval, h54']
      exact ⟨_, rfl, Below.refl _ _, rfl⟩
    | 19, _ =>
      cases hq
      have h7 : a.tmps.getD 7 undef = .pointer (some ⟨q7, 0, none⟩) := hG.fr 7 (by simp)
      have h7' : a.tmps[7]?.getD undef = .pointer (some ⟨q7, 0, none⟩) := by rw [← h7]; simp [Array.getD_eq_getD_getElem?]
      refine step_g (.agg #[.int .u8 1, .int .i64 1, .string ⟨#[]⟩, .slice pv 0 cv, .int .i64 0]) ?_ (Below.refl _ _) rfl
      rw [execOp_ldVa56]
      show (ldV (a.tmps.getD 7 undef)).run _ _ = _
      rw [h7]
      exact loadV_blk (below_blk hC Hq.out) rfl
    | 20, _ =>
      cases hq
      unfold Oper.wp
      simp [go_sem, callFunc, Act.eval, Tryz.func30]
      refine (num08_W _ 1).mono ?_
      rintro e w8 ⟨rfl, hb8⟩
      exact ⟨_, rfl, hb8, rfl⟩
    | 21, _ =>
      cases hq
      have h56 : a.tmps.getD 56 undef = .agg #[.int .u8 1, .int .i64 1, .string ⟨#[]⟩, .slice pv 0 cv, .int .i64 0] := hG.dep ⟨19, .data⟩ (by simp) rfl _ rfl
      have h56' : a.tmps[56]?.getD undef = .agg #[.int .u8 1, .int .i64 1, .string ⟨#[]⟩, .slice pv 0 cv, .int .i64 0] := by rw [← h56]; simp [Array.getD_eq_getD_getElem?]
      have h57 : a.tmps.getD 57 undef = .agg #[.int .u8 1, .int .i64 1, .string ⟨#[]⟩, .slice none 0 0, .int .i64 0] := hG.dep ⟨20, .data⟩ (by simp) rfl _ rfl
      have h57' : a.tmps[57]?.getD undef = .agg #[.int .u8 1, .int .i64 1, .string ⟨#[]⟩, .slice none 0 0, .int .i64 0] := by rw [← h57]; simp [Array.getD_eq_getD_getElem?]
      unfold Oper.wp
      simp [go_sem, callFunc, Act.eval, Tryz.func16, h56', h57']
      refine (rSame_num _ 1 pv cv).mono ?_
      rintro e w8 ⟨rfl, hb8⟩
      exact ⟨_, rfl, hb8, rfl⟩
    | 22, _ =>
      cases hq
      have h58 : a.tmps.getD 58 undef = .bool true := hG.dep ⟨21, .data⟩ (by simp) rfl _ rfl
      have h58' : a.tmps[58]?.getD undef = .bool true := by rw [← h58]; simp [Array.getD_eq_getD_getElem?]
      unfold Oper.wp
      simp [go_sem, Act.eval, h58']
      exact ⟨_, rfl, Below.refl _ _, rfl⟩
    | 23, _ =>
      cases hq
      have h55 : a.tmps.getD 55 undef = .bool false := hG.dep ⟨18, .data⟩ (by simp) rfl _ rfl
      have h55' : a.tmps[55]?.getD undef = .bool false := by rw [← h55]; simp [Array.getD_eq_getD_getElem?]
      have h59 : a.tmps.getD 59 undef = .bool false := hG.dep ⟨22, .data⟩ (by simp) rfl _ rfl
      have h59' : a.tmps[59]?.getD undef = .bool false := by rw [← h59]; simp [Array.getD_eq_getD_getElem?]
      unfold Oper.wp
      simp [go_sem, Act.eval, h55', h59']
      exact ⟨_, rfl, Below.refl _ _, rfl⟩
    | 24, _ =>
      cases hq
      have h60 : a.tmps.getD 60 undef = .bool false := hG.dep ⟨23, .data⟩ (by simp) rfl _ rfl
      have h60' : a.tmps[60]?.getD undef = .bool false := by rw [← h60]; simp [Array.getD_eq_getD_getElem?]
      unfold Oper.wp
      simp [go_sem, Act.eval, h60']
      exact ⟨_, rfl, Below.refl _ _, rfl⟩
    | 25, _ =>
      cases hq
      have h1 : a.tmps.getD 1 undef = .pointer (some ⟨p, 0, none⟩) := hG.fr 1 (by simp)
      have h1' : a.tmps[1]?.getD undef = .pointer (some ⟨p, 0, none⟩) := by rw [← h1]; simp [Array.getD_eq_getD_getElem?]
      unfold Oper.wp
      simp [go_sem, Act.eval, h1']
      exact ⟨_, rfl, Below.refl _ _, rfl⟩
    | 26, _ =>
      cases hq
      have h5 : a.tmps.getD 5 undef = .int .i64 2 := hG.fr 5 (by simp)
      have h5' : a.tmps[5]?.getD undef = .int .i64 2 := by rw [← h5]; simp [Array.getD_eq_getD_getElem?]
      unfold Oper.wp
      simp [go_sem, Act.eval, h5']
      exact ⟨_, rfl, Below.refl _ _, rfl⟩
    | 27, _ =>
      cases hq
      unfold Oper.wp
      simp [go_sem, callFunc, Act.eval, Tryz.func30]
      refine (num08_W _ 5).mono ?_
      rintro e w8 ⟨rfl, hb8⟩
      exact ⟨_, rfl, hb8, rfl⟩
  · intro a w7 hC hdf hsz hfr hphi
    have e0 : a.tmps.getD 37 undef = .int .i64 0 := hphi 0 _ rfl
    have e1 : a.tmps.getD 38 undef = .bool false := hphi 1 _ rfl
    have e2 : a.tmps.getD 39 undef = .bool false := hphi 2 _ rfl
    have e3 : a.tmps.getD 40 undef = .int .i64 0 := hphi 3 _ rfl
    have e4 : a.tmps.getD 41 undef = .bool false := hphi 4 _ rfl
    have e5 : a.tmps.getD 42 undef = .bool false := hphi 5 _ rfl
    have e6 : a.tmps.getD 43 undef = .bool false := hphi 6 _ rfl
    have e7 : a.tmps.getD 44 undef = .int .i64 0 := hphi 7 _ rfl
    have e8 : a.tmps.getD 45 undef = .bool false := hphi 8 _ rfl
    have e9 : a.tmps.getD 46 undef = .bool false := hphi 9 _ rfl
    have e10 : a.tmps.getD 47 undef = .bool false := hphi 10 _ rfl
    have e11 : a.tmps.getD 48 undef = .int .i64 1 := hphi 11 _ rfl
    have e12 : a.tmps.getD 49 undef = .bool false := hphi 12 _ rfl
    have e13 : a.tmps.getD 50 undef = .bool false := hphi 13 _ rfl
    have e14 : a.tmps.getD 51 undef = .bool false := hphi 14 _ rfl
    have e15 : a.tmps.getD 52 undef = .int .i64 2 := hphi 15 _ rfl
    have e16 : a.tmps.getD 53 undef = .bool false := hphi 16 _ rfl
    have e17 : a.tmps.getD 54 undef = .bool false := hphi 17 _ rfl
    have e18 : a.tmps.getD 55 undef = .bool false := hphi 18 _ rfl
    have e19 : a.tmps.getD 56 undef = .agg #[.int .u8 1, .int .i64 1, .string ⟨#[]⟩, .slice pv 0 cv, .int .i64 0] := hphi 19 _ rfl
    have e20 : a.tmps.getD 57 undef = .agg #[.int .u8 1, .int .i64 1, .string ⟨#[]⟩, .slice none 0 0, .int .i64 0] := hphi 20 _ rfl
    have e21 : a.tmps.getD 58 undef = .bool true := hphi 21 _ rfl
    have e22 : a.tmps.getD 59 undef = .bool false := hphi 22 _ rfl
    have e23 : a.tmps.getD 60 undef = .bool false := hphi 23 _ rfl
    have e24 : a.tmps.getD 61 undef = .bool false := hphi 24 _ rfl
    have e25 : a.tmps.getD 62 undef = .pointer (some ⟨p, 0, none⟩) := hphi 25 _ rfl
    have e26 : a.tmps.getD 63 undef = .int .i64 2 := hphi 26 _ rfl
    have e27 : a.tmps.getD 64 undef = .agg #[.int .u8 1, .int .i64 5, .string ⟨#[]⟩, .slice none 0 0, .int .i64 0] := hphi 27 _ rfl
    have ha := act_of hdf hsz hfr
    simp only [List.take_succ_cons, List.take_zero, List.filterMap_cons, List.filterMap_nil, List.foldl_cons, List.foldl_nil, List.setIfInBounds_toArray, List.set_cons_zero, List.set_cons_succ, e0, e1, e2, e3, e4, e5, e6, e7, e8, e9, e10, e11, e12, e13, e14, e15, e16, e17, e18, e19, e20, e21, e22, e23, e24, e25, e26, e27] at ha
    clear hdf hsz hfr hphi e0 e1 e2 e3 e4 e5 e6 e7 e8 e9 e10 e11 e12 e13 e14 e15 e16 e17 e18 e19 e20 e21 e22 e23 e24 e25 e26 e27
    subst ha
    have HO7 : Hid (Own w w7 p (AM2 vl')) := HO6.out.below hC
    clear hC HO6 Hq
    obtain ⟨F, hW, h2, h3⟩ := HO7.out
    refine ⟨rfl, ?_⟩
    unfold Oper.wp
    simp [go_sem, callFunc, Act.eval, Tryz.func14]
    refine (plGive_A (v := numV 5) (pv := none) (nv := 0) (cv := 0) (fun w1 hb => act_4_8 (hW.below hb) rfl (aat2 vl') rfl (heldq [] _ (fun x hx => by cases hx) _) (fun x hx => by cases hx) (Nat.zero_le _) (SlAt.nil w1 F none 0) (refsV0 1 5 (.inr rfl)).2 (fun r hr => by rw [(refsV0 1 5 (.inr rfl)).1] at hr; cases hr))).mono ?_
    rintro e w8 ⟨v8, n8, N8, rfl, ⟨-, hx⟩, ha8⟩
    rcases hx with ⟨-, rfl, b, rfl⟩ | ⟨hx, -⟩
    rotate_left
    · exact absurd hx (by rw [show mayV (listV ([] ++ [numV 5])) = true from rfl]; decide)
    have HO8 : Hid (Own w w8 p (AM3 vl' b)) := Own.acts h2 h3 ha8
    clear HO7 hW h2 h3 ha8
    refine ⟨rfl, ?_⟩
    unfold Oper.wp
    simp [execOp, go_sem, Act.eval]
    refine ⟨rfl, ?_⟩
    unfold Oper.wp
    simp [execOp, go_sem, Act.eval, wpTailG]
    refine ‹∀ (a : Act) (w : World), Code.wp Tryz.prog _ _ a w → _› _ _ ?_
    go_wp2_with fail
    obtain ⟨F, hW, h2, h3⟩ := HO8.out
    refine (plTake_A (m := 1) hW.lt (fun w1 hb => act_4_4 (hW.below hb) rfl (aat3 vl' b) rfl (heldq _ _ (fun x hx => by simp at hx; subst hx; exact (refsV0 1 5 (.inr rfl)).1) _) (show mayV (listV ([] ++ [numV 5])) = true from rfl) (fun x hx => by simp at hx; subst hx; exact (refsV0 1 5 (.inr rfl)).2) 1)).mono ?_
    rintro e w9 ⟨v9, pv9, cv9, n9, N9, F9, rfl, hX9, hk9, hW9, hF9, hS9⟩
    rcases hX9 with ⟨hx, -⟩ | ⟨hx, -⟩ | ⟨-, -, rfl, rfl, c, rfl⟩
    · exact absurd hx (by decide)
    · exact absurd hx (by decide)
    have hS9' : SlT w9 (fun y => w8.heap.size ≤ y ∧ ¬ F9 y) (.slice pv9 1 cv9) [numV 5] := hS9
    obtain ⟨qb, qo, qc, qr, hpe, hrg, hqlt, hqF, -⟩ := SlAt.range hS9' (i := 0) rfl
    cases hpe
    have hc5 : w9.cell? ⟨qb, qo + 1, none⟩ = some (.int .i64 5) := hrg 1 _ rfl
    have H9 : Hid (IsW w9 p (AM4 vl' b c) F9 ∧ (∀ y, F9 y → w.heap.size ≤ y) ∧ Below w.heap.size w w9 ∧ w9.cell? ⟨qb, qo + 1, none⟩ = some (.int .i64 5) ∧ ¬ F9 qb) := ⟨hW9, fun y hy => by
      rcases hF9 y hy with h | h
      · exact h2 y h
      · exact Nat.le_trans h3.size h, h3.trans (Keeps.below hk9 h3.size h2), hc5, hqF.1.2⟩
    clear HO8 hW h2 h3 hk9 hW9 hF9 hS9 hS9' hrg hqlt hqF hc5
    simp only [vcs, listV]
    go_wp2_with fail
    have HB10 : Hid (Below w9.heap.size w9 (w9.alloc (.cells #[.int .u8 3, .int .i64 0, .string ⟨#[]⟩, .slice (some ⟨qb, qo, none⟩) 1 cv9, .int .i64 0] 34))) := (Below.refl _ _).alloc (Nat.le_refl _) _
    have hb11 := HB10.out
    have hW11 := H9.out.1.below hb11
    refine (plTake_A (m := 1) hW11.lt (fun w1 hb => act_4_4 (hW11.below hb) rfl (aat4 vl' b c) rfl (heldq [] _ (fun x hx => by cases hx) _) (show mayV (listV []) = true from rfl) (fun x hx => by cases hx) 1)).mono ?_
    rintro e w10 ⟨v10, pv10, cv10, n10, N10, F10, rfl, hX10, hk10, hW10, hF10, -⟩
    rcases hX10 with ⟨hx, -⟩ | ⟨-, -, rfl, rfl⟩ | ⟨-, hx, -⟩
    · exact absurd hx (by decide)
    rotate_left
    · exact absurd hx (by decide)
    have hblk : w10.heap[w9.heap.size]? = some (.cells #[.int .u8 3, .int .i64 0, .string ⟨#[]⟩, .slice (some ⟨qb, qo, none⟩) 1 cv9, .int .i64 0] 34 (0, 0)) := by
      rw [hk10.block _ (blk_lt (blk_new w9 _)) (fun h => by have := H9.out.1.lt _ h; omega)]
      exact blk_new w9 _
    have hqlt : qb < w9.heap.size := World.block_lt_of_cell? _ _ H9.out.2.2.2.1
    have hc5 : w10.cell? ⟨qb, qo + 1, none⟩ = some (.int .i64 5) := by
      rw [World.cell?_of_block (a := ⟨qb, qo + 1, none⟩) ((hk10.block _ (Nat.lt_of_lt_of_le hqlt hb11.size) H9.out.2.2.2.2).trans (hb11.block _ hqlt))]
      exact H9.out.2.2.2.1
    have hs9 : w.heap.size ≤ w9.heap.size := H9.out.2.2.1.size
    have hs10 : w9.heap.size ≤ (w9.alloc (.cells #[.int .u8 3, .int .i64 0, .string ⟨#[]⟩, .slice (some ⟨qb, qo, none⟩) 1 cv9, .int .i64 0] 34)).heap.size := hb11.size
    have HO10 : Hid (Own w w10 p (AM4 vl' b c)) := ⟨F10, hW10, fun y hy => by
      rcases hF10 y hy with h | h
      · exact H9.out.2.1 y h
      · exact Nat.le_trans (Nat.le_trans hs9 hs10) h, (H9.out.2.2.1.trans (hb11.mono hs9)).trans (Keeps.below hk10 (Nat.le_trans hs9 hs10) H9.out.2.1)⟩
    have hc3 : w10.cell? ⟨w9.heap.size, 3, none⟩ = some (.slice (some ⟨qb, qo, none⟩) 1 cv9) := by rw [cell_blk hblk]; rfl
    clear hb11 hW11 hk10 hW10 hF10 hblk hqlt hs9 hs10 H9 HB10
    simp only [vcs]
    go_wp2_with fail
    refine (num08_W _ 1).mono ?_
    rintro e w11 ⟨rfl, hb11⟩
    have HO11 : Hid (Own w w11 p (AM4 vl' b c)) := HO10.out.below hb11
    clear hb11 HO10
    go_wp2_with fail
    obtain ⟨F, hW, h2, h3⟩ := HO11.out
    refine (plPut_A (v := numV 1) (pv := none) (nv := 0) (cv := 0) (fun w1 hb => act_4_2 (hW.below hb) rfl (aat4 vl' b c) (fun x hx => by cases hx) (Nat.zero_le _) (SlAt.nil w1 F none 0) (refsV0 1 1 (.inr rfl)).2 (fun r hr => by rw [(refsV0 1 1 (.inr rfl)).1] at hr; cases hr))).mono ?_
    rintro e w12 ⟨v12, n12, N12, rfl, ⟨-, rfl, rfl⟩, ha12⟩
    have HB12 : Hid (Below w.heap.size w w12) := (Own.acts h2 h3 ha12).below0
    clear HO11 hW h2 h3 ha12
    go_wp2_with fail
    go_ret
    exact ⟨rfl, HB12.out⟩
end Go.Proofs.YtcoiccbmcjdheaaGreat
