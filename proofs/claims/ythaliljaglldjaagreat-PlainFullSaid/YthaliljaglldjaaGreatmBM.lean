/- A part of the proof, several texts in one: Facet, Free, Lives, Aw, FullA. -/
import Derived.Test.YthaliljaglldjaaGreatmAL
import Derived.Test.YthaliljaglldjaaGreatmAC
import Derived.Deep.QuietTactic
import Derived.BigQuiet
import Derived.Test.YthaliljaglldjaaGreatmAD
import Derived.Test.YthaliljaglldjaaGreatmAS
import Derived.Test.YthaliljaglldjaaGreatmAK
import Derived.Test.YthaliljaglldjaaGreatmBL
import Derived.Test.YthaliljaglldjaaGreatmBG
import Derived.Test.YthaliljaglldjaaGreatmBH
import Derived.Test.YthaliljaglldjaaGreatmBI
/- Facet. -/
namespace Go.Proofs.YthaliljaglldjaaGreat
open Go.RowKit Go.ChangeMaps Go.MapKept
variable {w : World} {p : Nat} {M : WM} {F : Nat → Prop}
end Go.Proofs.YthaliljaglldjaaGreat
/- Free, where no gate stands on the way. -/
namespace Go.Proofs.YthaliljaglldjaaGreat
open Go.RowKit Go.ChangeMaps Go.MapKept
variable {w : World} {p : Nat} {M : WM} {F : Nat → Prop}
end Go.Proofs.YthaliljaglldjaaGreat
/- lives of posternlaw07: it is true. -/
namespace Go.Proofs.YthaliljaglldjaaGreat
open Go.RowKit Go.ChangeMaps Go.MapKept
def Own (w0 w : World) (p : Nat) (M : WM) : Prop := ∃ F, IsW w p M F ∧ (∀ b, F b → w0.heap.size ≤ b) ∧ Below w0.heap.size w0 w
theorem Own.below {w0 w w' : World} {p : Nat} {M : WM} (h : Own w0 w p M) (hb : Below w.heap.size w w') : Own w0 w' p M := by
  obtain ⟨F, h1, h2, h3⟩ := h
  exact ⟨F, h1.below hb, h2, h3.trans (hb.mono h3.size)⟩
theorem Own.turn {w0 w w' : World} {p : Nat} {M' : WM} {F F' : Nat → Prop} (h2 : ∀ b, F b → w0.heap.size ≤ b) (h3 : Below w0.heap.size w0 w) (hW : IsW w' p M' F') (hg : Grew F w F' w') : Own w0 w' p M' := by
  refine ⟨F', hW, fun b hb => ?_, h3.trans (Keeps.below hg.1 h3.size h2)⟩
  rcases hg.2 b hb with h | h
  · exact h2 b h
  · exact Nat.le_trans h3.size h
end Go.Proofs.YthaliljaglldjaaGreat
/- awake of posternlaw08: it is true. Printed by gen_awake.py. -/
namespace Go.Proofs.YthaliljaglldjaaGreat
open Go.RowKit Go.ChangeMaps Go.MapKept
def AM0 : WM := WM.new []
def AM1 (a : Value) : WM := makeM AM0 (cellT 0 (numV 1) a)
def AM2 (a : Value) : WM := makeM (AM1 a) (lt 4 0 0 0 0 0 0 0 0 false)
def AM3 (a b : Value) : WM := (AM2 a).set 2 (qT 4 0 ([] ++ [numV 5]) b)
def AM4 (a b c : Value) : WM := (AM3 a b).set 2 (qT 4 0 ((([] : List Val) ++ [numV 5]).drop (1 : Int).toNat) c)
theorem atree : TreeOk [] := ⟨by decide, fun i p h => by simp at h⟩
theorem aat1 (a : Value) : (AM2 a).at 1 = some (cellT 0 (numV 1) a) := rfl
theorem aat2 (a : Value) : (AM2 a).at 2 = some (qT 4 0 [] (.slice none 0 0)) := rfl
theorem aat3 (a b : Value) : (AM3 a b).at 2 = some (qT 4 0 ([] ++ [numV 5]) b) := rfl
theorem aat4 (a b c : Value) : (AM4 a b c).at 2 = some (qT 4 0 [] c) := rfl
theorem Own.acts {w w1 w2 : World} {p : Nat} {N : WM} {F : Nat → Prop} (h2 : ∀ b, F b → w.heap.size ≤ b) (h3 : Below w.heap.size w w1) (ha : Acts w1 p F N w2) : Own w w2 p N := by
  obtain ⟨hk, F', hW', hF'⟩ := ha
  exact ⟨F', hW', fun b hb => by
    rcases hF' b hb with h | h
    · exact h2 b h
    · exact Nat.le_trans h3.size h, Keeps.below hk h3.size h2 |> fun x => h3.trans x⟩
theorem Own.below0 {w w1 : World} {p : Nat} {N : WM} (h : Own w w1 p N) : Below w.heap.size w w1 := by
  obtain ⟨F, -, -, h⟩ := h
  exact h
theorem heldq (vs : List Val) (a : Value) (h : ∀ x ∈ vs, refsV x = []) : ∀ (M : WM), ∀ r ∈ heldL (qT 4 0 vs a), (Lit.int .i64 r).wf = true ∧ (M.at r).isSome = true := by
  intro M r hr
  simp only [heldL, List.mem_append, List.mem_flatMap] at hr
  rcases hr with hr | ⟨x, hx, hr⟩
  · rw [(refsV0 0 0 (.inl ⟨rfl, rfl⟩)).1] at hr
    cases hr
  · rw [h x hx] at hr
    cases hr
theorem execOp_ldVa56 (ρ : Operand → Value) (ty : TypeId) (pos : String) (af : Array Edge) (g : Option (Nat × Bool)) :
    execOp ρ { dst := some 56, op := .load 27 (.tmp 7), type := ty, pos := pos, after := af, guard := g } = ldV (ρ (.tmp 7)) := rfl
def AwPhi (p : Nat) (pv : Option Addr) (cv : Nat) (j : Nat) (v : Value) (_ : World) : Prop :=
  match j with
  | 0 => v = .int .i64 0
  | 1 => v = .bool false
  | 2 => v = .bool false
  | 3 => v = .int .i64 0
  | 4 => v = .bool false
  | 5 => v = .bool false
  | 6 => v = .bool false
  | 7 => v = .int .i64 0
  | 8 => v = .bool false
  | 9 => v = .bool false
  | 10 => v = .bool false
  | 11 => v = .int .i64 1
  | 12 => v = .bool false
  | 13 => v = .bool false
  | 14 => v = .bool false
  | 15 => v = .int .i64 2
  | 16 => v = .bool false
  | 17 => v = .bool false
  | 18 => v = .bool false
  | 19 => v = .agg #[.int .u8 1, .int .i64 1, .string ⟨#[]⟩, .slice pv 0 cv, .int .i64 0]
  | 20 => v = .agg #[.int .u8 1, .int .i64 1, .string ⟨#[]⟩, .slice none 0 0, .int .i64 0]
  | 21 => v = .bool true
  | 22 => v = .bool false
  | 23 => v = .bool false
  | 24 => v = .bool false
  | 25 => v = .pointer (some ⟨p, 0, none⟩)
  | 26 => v = .int .i64 2
  | 27 => v = .agg #[.int .u8 1, .int .i64 5, .string ⟨#[]⟩, .slice none 0 0, .int .i64 0]
  | _ => True
set_option maxHeartbeats 8000000 in
set_option maxRecDepth 20000 in
theorem awake08_W (w : World) : Calls Tryz.prog 11 #[] w fun e w' => e = .returned (.bool true) ∧ Below w.heap.size w w' := by
  go_enter Tryz.func11, Tryz.ntmps11
  go_wp2_with fail
  refine (New_W w none 0 [] (.inl rfl)).mono ?_
  rintro e w1 hpost
  obtain ⟨p, F, rfl, hW, hF, hb⟩ := (Or.resolve_right hpost (fun h => h.1 atree)).2
  clear hpost
  have HO : Hid (Own w w1 p AM0) := ⟨F, hW, fun b h => hF b h, hb⟩
  clear hW hF hb
  go_wp2_with fail
  refine (num08_W _ 1).mono ?_
  rintro e w2 ⟨rfl, hb2⟩
  have HO2 : Hid (Own w w2 p AM0) := HO.out.below hb2
  clear hb2 HO
  go_wp2_with fail
  obtain ⟨F, hW, h2, h3⟩ := HO2.out
  refine (Cell_G hW (by decide) (h := 0) (by decide) (numV 1) (.slice none 0 0) (SlAt.nil w2 F none 0) (refsV0 1 1 (.inr rfl)).2 (fun r hr => by rw [(refsV0 1 1 (.inr rfl)).1] at hr; cases hr)).mono ?_
  rintro e w3 (⟨-, rfl, t, F', ⟨vl', rfl⟩, hW', hg⟩ | ⟨hx, -, -⟩)
  rotate_left
  · exact absurd (by decide) hx
  have HO3 : Hid (Own w w3 p (AM1 vl')) := Own.turn h2 h3 hW' hg
  clear HO2 hW h2 h3 hW' hg
  simp only [show AM0.last + 1 = 1 from rfl]
  go_wp2_with fail
  obtain ⟨F, hW, h2, h3⟩ := HO3.out
  refine (Queue_G hW (by show (1 : Int) + 1 ≤ 1099511627776; decide) (h := 0) (by show (0 : Int) ≤ 0 ∧ (0 : Int) < 1; decide)).mono ?_
  rintro e w4 (⟨-, rfl, t, F', rfl, hW', hg⟩ | ⟨hx, -, -⟩)
  rotate_left
  · exact absurd (by show (1 : Int) < 512; decide) hx
  have HO4 : Hid (Own w w4 p (AM2 vl')) := Own.turn h2 h3 hW' hg
  clear HO3 hW h2 h3 hW' hg
  simp only [show (AM1 vl').last + 1 = 2 from rfl]
  go_wp2_with fail
  obtain ⟨F, hW, h2, h3⟩ := HO4.out
  refine (plGet_A hW.lt (fun w1 hb => act_1_1 (hW.below hb) rfl (aat1 vl') (refsV0 1 1 (.inr rfl)).2)).mono ?_
  rintro e w5 hp5
  obtain ⟨v, pv, cv, n, N, rfl, ⟨rfl, rfl, rfl⟩, ha⟩ := hp5.acts
  have HO5 : Hid (Own w w5 p (AM2 vl')) := Own.acts h2 h3 ha
  clear HO4 hW h2 h3 ha hp5
  simp only [vcs, List.length_nil]
  go_upto_region 7 with fail
  have HQ : Hid (Below w5.heap.size w5 (w5.alloc (.cells #[.int .u8 1, .int .i64 1, .string ⟨#[]⟩, .slice pv 0 cv, .int .i64 0] 27)) ∧ (w5.alloc (.cells #[.int .u8 1, .int .i64 1, .string ⟨#[]⟩, .slice pv 0 cv, .int .i64 0] 27)).heap[w5.heap.size]? = some (.cells #[.int .u8 1, .int .i64 1, .string ⟨#[]⟩, .slice pv 0 cv, .int .i64 0] 27 (0, 0))) := ⟨(Below.refl _ _).alloc (Nat.le_refl _) _, blk_new _ _⟩
  obtain ⟨q7, hq7⟩ : ∃ q7, q7 = w5.heap.size := ⟨_, rfl⟩
  have HO6 : Hid (Own w (w5.alloc (.cells #[.int .u8 1, .int .i64 1, .string ⟨#[]⟩, .slice pv 0 cv, .int .i64 0] 27)) p (AM2 vl')) := HO5.out.below HQ.out.1
  have Hq : Hid ((w5.alloc (.cells #[.int .u8 1, .int .i64 1, .string ⟨#[]⟩, .slice pv 0 cv, .int .i64 0] 27)).heap[q7]? = some (.cells #[.int .u8 1, .int .i64 1, .string ⟨#[]⟩, .slice pv 0 cv, .int .i64 0] 27 (0, 0))) := by
    show _ = _
    rw [hq7]
    exact HQ.out.2
  rw [← hq7]
  clear HQ HO5 hq7
  revert HO6 Hq
  generalize w5.alloc _ = wa
  intro HO6 Hq
  refine wp_region_growK 28 (by kernel_rfl) rfl (by kernel_rfl) (by kernel_rfl) (fun a b => Below a.heap.size a b) (AwPhi p pv cv) (fun w' => Below wa.heap.size wa w') (fun j v w w' _ h => h) below_drew (fun a b h hR => h.trans (hR.mono h.size)) ?_ ?_ ?_
  · intro j q g b hq hgd
    have hj : j < 28 := (List.getElem?_eq_some_iff.1 hq).1
    match j, hj with
    | 0, _ => cases hq; cases hgd
    | 1, _ => cases hq; cases hgd
    | 2, _ => cases hq; cases hgd
    | 3, _ => cases hq; cases hgd; exact fun v w h => h
    | 4, _ => cases hq; cases hgd; exact fun v w h => h
    | 5, _ => cases hq; cases hgd
    | 6, _ => cases hq; cases hgd
    | 7, _ => cases hq; cases hgd; exact fun v w h => h
    | 8, _ => cases hq; cases hgd; exact fun v w h => h
    | 9, _ => cases hq; cases hgd
    | 10, _ => cases hq; cases hgd
    | 11, _ => cases hq; cases hgd; exact fun v w h => h
    | 12, _ => cases hq; cases hgd; exact fun v w h => h
    | 13, _ => cases hq; cases hgd
    | 14, _ => cases hq; cases hgd
    | 15, _ => cases hq; cases hgd; exact fun v w h => h
    | 16, _ => cases hq; cases hgd; exact fun v w h => h
    | 17, _ => cases hq; cases hgd
    | 18, _ => cases hq; cases hgd
    | 19, _ => cases hq; cases hgd; exact fun v w h => h
    | 20, _ => cases hq; cases hgd; exact fun v w h => h
    | 21, _ => cases hq; cases hgd; exact fun v w h => h
    | 22, _ => cases hq; cases hgd; exact fun v w h => h
    | 23, _ => cases hq; cases hgd
    | 24, _ => cases hq; cases hgd
    | 25, _ => cases hq; cases hgd; exact fun v w h => h
    | 26, _ => cases hq; cases hgd; exact fun v w h => h
    | 27, _ => cases hq; cases hgd; exact fun v w h => h
  · intro j q a w7 hq hC hG
    have hj : j < 28 := (List.getElem?_eq_some_iff.1 hq).1
    match j, hj with
    | 0, _ => cases hq; have h4' : a.tmps[4]?.getD undef = .int .i64 0 := gq (hG.fr 4 (by simp)); unfold Oper.wp; simp [go_sem, Act.eval, h4']; exact ⟨_, rfl, Below.refl _ _, rfl⟩
    | 1, _ => cases hq; have h37' : a.tmps[37]?.getD undef = .int .i64 0 := gq (hG.dep ⟨0, .data⟩ (by simp) rfl _ rfl); unfold Oper.wp; simp [go_sem, Act.eval, h37']; exact ⟨_, rfl, Below.refl _ _, rfl⟩
    | 2, _ => cases hq; have h38' : a.tmps[38]?.getD undef = .bool false := gq (hG.dep ⟨1, .data⟩ (by simp) rfl _ rfl); unfold Oper.wp; simp [go_sem, Act.eval, h38']; exact ⟨_, rfl, Below.refl _ _, rfl⟩
    | 3, _ => cases hq; have h6' : a.tmps[6]?.getD undef = .int .i64 0 := gq (hG.fr 6 (by simp)); unfold Oper.wp; simp [go_sem, Act.eval, h6']; exact ⟨_, rfl, Below.refl _ _, rfl⟩
    | 4, _ => cases hq; have h40' : a.tmps[40]?.getD undef = .int .i64 0 := gq (hG.dep ⟨3, .data⟩ (by simp) rfl _ rfl); unfold Oper.wp; simp [go_sem, Act.eval, h40']; exact ⟨_, rfl, Below.refl _ _, rfl⟩
    | 5, _ => cases hq; have h39' : a.tmps[39]?.getD undef = .bool false := gq (hG.dep ⟨2, .data⟩ (by simp) rfl _ rfl); have h41' : a.tmps[41]?.getD undef = .bool false := gq (hG.dep ⟨4, .data⟩ (by simp) rfl _ rfl); unfold Oper.wp; simp [go_sem, Act.eval, h39', h41']; exact ⟨_, rfl, Below.refl _ _, rfl⟩
    | 6, _ => cases hq; have h42' : a.tmps[42]?.getD undef = .bool false := gq (hG.dep ⟨5, .data⟩ (by simp) rfl _ rfl); unfold Oper.wp; simp [go_sem, Act.eval, h42']; exact ⟨_, rfl, Below.refl _ _, rfl⟩
    | 7, _ => cases hq; have h8' : a.tmps[8]?.getD undef = .int .i64 0 := gq (hG.fr 8 (by simp)); unfold Oper.wp; simp [go_sem, Act.eval, h8']; exact ⟨_, rfl, Below.refl _ _, rfl⟩
    | 8, _ => cases hq; have h44' : a.tmps[44]?.getD undef = .int .i64 0 := gq (hG.dep ⟨7, .data⟩ (by simp) rfl _ rfl); unfold Oper.wp; simp [go_sem, Act.eval, h44']; exact ⟨_, rfl, Below.refl _ _, rfl⟩
    | 9, _ => cases hq; have h43' : a.tmps[43]?.getD undef = .bool false := gq (hG.dep ⟨6, .data⟩ (by simp) rfl _ rfl); have h45' : a.tmps[45]?.getD undef = .bool false := gq (hG.dep ⟨8, .data⟩ (by simp) rfl _ rfl); unfold Oper.wp; simp [go_sem, Act.eval, h43', h45']; exact ⟨_, rfl, Below.refl _ _, rfl⟩
    | 10, _ => cases hq; have h46' : a.tmps[46]?.getD undef = .bool false := gq (hG.dep ⟨9, .data⟩ (by simp) rfl _ rfl); unfold Oper.wp; simp [go_sem, Act.eval, h46']; exact ⟨_, rfl, Below.refl _ _, rfl⟩
    | 11, _ => cases hq; have h3' : a.tmps[3]?.getD undef = .int .i64 1 := gq (hG.fr 3 (by simp)); unfold Oper.wp; simp [go_sem, Act.eval, h3']; exact ⟨_, rfl, Below.refl _ _, rfl⟩
    | 12, _ => cases hq; have h48' : a.tmps[48]?.getD undef = .int .i64 1 := gq (hG.dep ⟨11, .data⟩ (by simp) rfl _ rfl); unfold Oper.wp; simp [go_sem, Act.eval, h48']; exact ⟨_, rfl, Below.refl _ _, rfl⟩
    | 13, _ => cases hq; have h47' : a.tmps[47]?.getD undef = .bool false := gq (hG.dep ⟨10, .data⟩ (by simp) rfl _ rfl); have h49' : a.tmps[49]?.getD undef = .bool false := gq (hG.dep ⟨12, .data⟩ (by simp) rfl _ rfl); unfold Oper.wp; simp [go_sem, Act.eval, h47', h49']; exact ⟨_, rfl, Below.refl _ _, rfl⟩
    | 14, _ => cases hq; have h50' : a.tmps[50]?.getD undef = .bool false := gq (hG.dep ⟨13, .data⟩ (by simp) rfl _ rfl); unfold Oper.wp; simp [go_sem, Act.eval, h50']; exact ⟨_, rfl, Below.refl _ _, rfl⟩
    | 15, _ => cases hq; have h5' : a.tmps[5]?.getD undef = .int .i64 2 := gq (hG.fr 5 (by simp)); unfold Oper.wp; simp [go_sem, Act.eval, h5']; exact ⟨_, rfl, Below.refl _ _, rfl⟩
    | 16, _ => cases hq; have h52' : a.tmps[52]?.getD undef = .int .i64 2 := gq (hG.dep ⟨15, .data⟩ (by simp) rfl _ rfl); unfold Oper.wp; simp [go_sem, Act.eval, h52']; exact ⟨_, rfl, Below.refl _ _, rfl⟩
    | 17, _ => cases hq; have h51' : a.tmps[51]?.getD undef = .bool false := gq (hG.dep ⟨14, .data⟩ (by simp) rfl _ rfl); have h53' : a.tmps[53]?.getD undef = .bool false := gq (hG.dep ⟨16, .data⟩ (by simp) rfl _ rfl); unfold Oper.wp; simp [go_sem, Act.eval, h51', h53']; exact ⟨_, rfl, Below.refl _ _, rfl⟩
    | 18, _ => cases hq; have h54' : a.tmps[54]?.getD undef = .bool false := gq (hG.dep ⟨17, .data⟩ (by simp) rfl _ rfl); unfold Oper.wp; simp [go_sem, Act.eval, h54']; exact ⟨_, rfl, Below.refl _ _, rfl⟩
    | 19, _ =>
      cases hq
      have h7 : a.tmps.getD 7 undef = .pointer (some ⟨q7, 0, none⟩) := hG.fr 7 (by simp)
      have h7' : a.tmps[7]?.getD undef = .pointer (some ⟨q7, 0, none⟩) := gq h7
      refine step_g (.agg #[.int .u8 1, .int .i64 1, .string ⟨#[]⟩, .slice pv 0 cv, .int .i64 0]) ?_ (Below.refl _ _) rfl
      rw [execOp_ldVa56]
      show (ldV (a.tmps.getD 7 undef)).run _ _ = _
      rw [h7]
      exact loadV_blk (below_blk hC Hq.out) rfl
    | 20, _ =>
      cases hq
      unfold Oper.wp
      simp [go_sem, callFunc, Act.eval, Tryz.func65]
      refine (num08_W _ 1).mono ?_
      rintro e w8 ⟨rfl, hb8⟩
      exact ⟨_, rfl, hb8, rfl⟩
    | 21, _ =>
      cases hq
      have h56' : a.tmps[56]?.getD undef = .agg #[.int .u8 1, .int .i64 1, .string ⟨#[]⟩, .slice pv 0 cv, .int .i64 0] := gq (hG.dep ⟨19, .data⟩ (by simp) rfl _ rfl)
      have h57' : a.tmps[57]?.getD undef = .agg #[.int .u8 1, .int .i64 1, .string ⟨#[]⟩, .slice none 0 0, .int .i64 0] := gq (hG.dep ⟨20, .data⟩ (by simp) rfl _ rfl)
      unfold Oper.wp
      simp [go_sem, callFunc, Act.eval, Tryz.func68, h56', h57']
      refine (rSame_num _ 1 pv cv).mono ?_
      rintro e w8 ⟨rfl, hb8⟩
      exact ⟨_, rfl, hb8, rfl⟩
    | 22, _ => cases hq; have h58' : a.tmps[58]?.getD undef = .bool true := gq (hG.dep ⟨21, .data⟩ (by simp) rfl _ rfl); unfold Oper.wp; simp [go_sem, Act.eval, h58']; exact ⟨_, rfl, Below.refl _ _, rfl⟩
    | 23, _ => cases hq; have h55' : a.tmps[55]?.getD undef = .bool false := gq (hG.dep ⟨18, .data⟩ (by simp) rfl _ rfl); have h59' : a.tmps[59]?.getD undef = .bool false := gq (hG.dep ⟨22, .data⟩ (by simp) rfl _ rfl); unfold Oper.wp; simp [go_sem, Act.eval, h55', h59']; exact ⟨_, rfl, Below.refl _ _, rfl⟩
    | 24, _ => cases hq; have h60' : a.tmps[60]?.getD undef = .bool false := gq (hG.dep ⟨23, .data⟩ (by simp) rfl _ rfl); unfold Oper.wp; simp [go_sem, Act.eval, h60']; exact ⟨_, rfl, Below.refl _ _, rfl⟩
    | 25, _ => cases hq; have h1' : a.tmps[1]?.getD undef = .pointer (some ⟨p, 0, none⟩) := gq (hG.fr 1 (by simp)); unfold Oper.wp; simp [go_sem, Act.eval, h1']; exact ⟨_, rfl, Below.refl _ _, rfl⟩
    | 26, _ => cases hq; have h5' : a.tmps[5]?.getD undef = .int .i64 2 := gq (hG.fr 5 (by simp)); unfold Oper.wp; simp [go_sem, Act.eval, h5']; exact ⟨_, rfl, Below.refl _ _, rfl⟩
    | 27, _ =>
      cases hq
      unfold Oper.wp
      simp [go_sem, callFunc, Act.eval, Tryz.func65]
      refine (num08_W _ 5).mono ?_
      rintro e w8 ⟨rfl, hb8⟩
      exact ⟨_, rfl, hb8, rfl⟩
  · intro a w7 hC hdf hsz hfr hphi
    have e0 : a.tmps.getD 37 undef = .int .i64 0 := hphi 0 _ rfl
    have e1 : a.tmps.getD 38 undef = .bool false := hphi 1 _ rfl
    have e2 : a.tmps.getD 39 undef = .bool false := hphi 2 _ rfl
    have e3 : a.tmps.getD 40 undef = .int .i64 0 := hphi 3 _ rfl
    have e4 : a.tmps.getD 41 undef = .bool false := hphi 4 _ rfl
    have e5 : a.tmps.getD 42 undef = .bool false := hphi 5 _ rfl
    have e6 : a.tmps.getD 43 undef = .bool false := hphi 6 _ rfl
    have e7 : a.tmps.getD 44 undef = .int .i64 0 := hphi 7 _ rfl
    have e8 : a.tmps.getD 45 undef = .bool false := hphi 8 _ rfl
    have e9 : a.tmps.getD 46 undef = .bool false := hphi 9 _ rfl
    have e10 : a.tmps.getD 47 undef = .bool false := hphi 10 _ rfl
    have e11 : a.tmps.getD 48 undef = .int .i64 1 := hphi 11 _ rfl
    have e12 : a.tmps.getD 49 undef = .bool false := hphi 12 _ rfl
    have e13 : a.tmps.getD 50 undef = .bool false := hphi 13 _ rfl
    have e14 : a.tmps.getD 51 undef = .bool false := hphi 14 _ rfl
    have e15 : a.tmps.getD 52 undef = .int .i64 2 := hphi 15 _ rfl
    have e16 : a.tmps.getD 53 undef = .bool false := hphi 16 _ rfl
    have e17 : a.tmps.getD 54 undef = .bool false := hphi 17 _ rfl
    have e18 : a.tmps.getD 55 undef = .bool false := hphi 18 _ rfl
    have e19 : a.tmps.getD 56 undef = .agg #[.int .u8 1, .int .i64 1, .string ⟨#[]⟩, .slice pv 0 cv, .int .i64 0] := hphi 19 _ rfl
    have e20 : a.tmps.getD 57 undef = .agg #[.int .u8 1, .int .i64 1, .string ⟨#[]⟩, .slice none 0 0, .int .i64 0] := hphi 20 _ rfl
    have e21 : a.tmps.getD 58 undef = .bool true := hphi 21 _ rfl
    have e22 : a.tmps.getD 59 undef = .bool false := hphi 22 _ rfl
    have e23 : a.tmps.getD 60 undef = .bool false := hphi 23 _ rfl
    have e24 : a.tmps.getD 61 undef = .bool false := hphi 24 _ rfl
    have e25 : a.tmps.getD 62 undef = .pointer (some ⟨p, 0, none⟩) := hphi 25 _ rfl
    have e26 : a.tmps.getD 63 undef = .int .i64 2 := hphi 26 _ rfl
    have e27 : a.tmps.getD 64 undef = .agg #[.int .u8 1, .int .i64 5, .string ⟨#[]⟩, .slice none 0 0, .int .i64 0] := hphi 27 _ rfl
    have ha := act_of hdf hsz hfr
    simp only [List.take_succ_cons, List.take_zero, List.filterMap_cons, List.filterMap_nil, List.foldl_cons, List.foldl_nil, List.setIfInBounds_toArray, List.set_cons_zero, List.set_cons_succ, e0, e1, e2, e3, e4, e5, e6, e7, e8, e9, e10, e11, e12, e13, e14, e15, e16, e17, e18, e19, e20, e21, e22, e23, e24, e25, e26, e27] at ha
    clear hdf hsz hfr hphi e0 e1 e2 e3 e4 e5 e6 e7 e8 e9 e10 e11 e12 e13 e14 e15 e16 e17 e18 e19 e20 e21 e22 e23 e24 e25 e26 e27
    subst ha
    have HO7 : Hid (Own w w7 p (AM2 vl')) := HO6.out.below hC
    clear hC HO6 Hq
    obtain ⟨F, hW, h2, h3⟩ := HO7.out
    refine ⟨rfl, ?_⟩
    unfold Oper.wp
    simp [go_sem, callFunc, Act.eval, Tryz.func69]
    refine (plGive_A (v := numV 5) (pv := none) (nv := 0) (cv := 0) (fun w1 hb => act_4_8 (hW.below hb) rfl (aat2 vl') rfl (heldq [] _ (fun x hx => by cases hx) _) (fun x hx => by cases hx) (Nat.zero_le _) (SlAt.nil w1 F none 0) (refsV0 1 5 (.inr rfl)).2 (fun r hr => by rw [(refsV0 1 5 (.inr rfl)).1] at hr; cases hr))).mono ?_
    rintro e w8 ⟨v8, n8, N8, rfl, ⟨-, hx⟩, ha8⟩
    rcases hx with ⟨-, rfl, b, rfl⟩ | ⟨hx, -⟩
    rotate_left
    · exact absurd hx (by rw [show mayV (listV ([] ++ [numV 5])) = true from rfl]; decide)
    have HO8 : Hid (Own w w8 p (AM3 vl' b)) := Own.acts h2 h3 ha8
    clear HO7 hW h2 h3 ha8
    refine ⟨rfl, ?_⟩
    unfold Oper.wp
    simp [execOp, go_sem, Act.eval]
    refine ⟨rfl, ?_⟩
    unfold Oper.wp
    simp [execOp, go_sem, Act.eval, wpTailG]
    refine ‹∀ (a : Act) (w : World), Code.wp Tryz.prog _ _ a w → _› _ _ ?_
    go_wp2_with fail
    obtain ⟨F, hW, h2, h3⟩ := HO8.out
    refine (plTake_A (m := 1) hW.lt (fun w1 hb => act_4_4 (hW.below hb) rfl (aat3 vl' b) rfl (heldq _ _ (fun x hx => by simp at hx; subst hx; exact (refsV0 1 5 (.inr rfl)).1) _) (show mayV (listV ([] ++ [numV 5])) = true from rfl) (fun x hx => by simp at hx; subst hx; exact (refsV0 1 5 (.inr rfl)).2) 1)).mono ?_
    rintro e w9 ⟨v9, pv9, cv9, n9, N9, F9, rfl, hX9, hk9, hW9, hF9, hS9⟩
    rcases hX9 with ⟨hx, -⟩ | ⟨hx, -⟩ | ⟨-, -, rfl, rfl, c, rfl⟩
    · exact absurd hx (by decide)
    · exact absurd hx (by decide)
    have hS9' : SlT w9 (fun y => w8.heap.size ≤ y ∧ ¬ F9 y) (.slice pv9 1 cv9) [numV 5] := hS9
    obtain ⟨qb, qo, qc, qr, hpe, hrg, hqlt, hqF, -⟩ := SlAt.range hS9' (i := 0) rfl
    cases hpe
    have hc5 : w9.cell? ⟨qb, qo + 1, none⟩ = some (.int .i64 5) := hrg 1 _ rfl
    have H9 : Hid (IsW w9 p (AM4 vl' b c) F9 ∧ (∀ y, F9 y → w.heap.size ≤ y) ∧ Below w.heap.size w w9 ∧ w9.cell? ⟨qb, qo + 1, none⟩ = some (.int .i64 5) ∧ ¬ F9 qb) := ⟨hW9, fun y hy => by
      rcases hF9 y hy with h | h
      · exact h2 y h
      · exact Nat.le_trans h3.size h, h3.trans (Keeps.below hk9 h3.size h2), hc5, hqF.1.2⟩
    clear HO8 hW h2 h3 hk9 hW9 hF9 hS9 hS9' hrg hqlt hqF hc5
    simp only [vcs, listV]
    go_wp2_with fail
    have HB10 : Hid (Below w9.heap.size w9 (w9.alloc (.cells #[.int .u8 3, .int .i64 0, .string ⟨#[]⟩, .slice (some ⟨qb, qo, none⟩) 1 cv9, .int .i64 0] 27))) := (Below.refl _ _).alloc (Nat.le_refl _) _
    have hb11 := HB10.out
    have hW11 := H9.out.1.below hb11
    refine (plTake_A (m := 1) hW11.lt (fun w1 hb => act_4_4 (hW11.below hb) rfl (aat4 vl' b c) rfl (heldq [] _ (fun x hx => by cases hx) _) (show mayV (listV []) = true from rfl) (fun x hx => by cases hx) 1)).mono ?_
    rintro e w10 ⟨v10, pv10, cv10, n10, N10, F10, rfl, hX10, hk10, hW10, hF10, -⟩
    rcases hX10 with ⟨hx, -⟩ | ⟨-, -, rfl, rfl⟩ | ⟨-, hx, -⟩
    · exact absurd hx (by decide)
    rotate_left
    · exact absurd hx (by decide)
    have hblk : w10.heap[w9.heap.size]? = some (.cells #[.int .u8 3, .int .i64 0, .string ⟨#[]⟩, .slice (some ⟨qb, qo, none⟩) 1 cv9, .int .i64 0] 27 (0, 0)) := by
      rw [hk10.block _ (blk_lt (blk_new w9 _)) (fun h => by have := H9.out.1.lt _ h; omega)]
      exact blk_new w9 _
    have hqlt : qb < w9.heap.size := World.block_lt_of_cell? _ _ H9.out.2.2.2.1
    have hc5 : w10.cell? ⟨qb, qo + 1, none⟩ = some (.int .i64 5) := by
      rw [World.cell?_of_block (a := ⟨qb, qo + 1, none⟩) ((hk10.block _ (Nat.lt_of_lt_of_le hqlt hb11.size) H9.out.2.2.2.2).trans (hb11.block _ hqlt))]
      exact H9.out.2.2.2.1
    have hs9 : w.heap.size ≤ w9.heap.size := H9.out.2.2.1.size
    have hs10 : w9.heap.size ≤ (w9.alloc (.cells #[.int .u8 3, .int .i64 0, .string ⟨#[]⟩, .slice (some ⟨qb, qo, none⟩) 1 cv9, .int .i64 0] 27)).heap.size := hb11.size
    have HO10 : Hid (Own w w10 p (AM4 vl' b c)) := ⟨F10, hW10, fun y hy => by
      rcases hF10 y hy with h | h
      · exact H9.out.2.1 y h
      · exact Nat.le_trans (Nat.le_trans hs9 hs10) h, (H9.out.2.2.1.trans (hb11.mono hs9)).trans (Keeps.below hk10 (Nat.le_trans hs9 hs10) H9.out.2.1)⟩
    have hc3 : w10.cell? ⟨w9.heap.size, 3, none⟩ = some (.slice (some ⟨qb, qo, none⟩) 1 cv9) := by rw [cell_blk hblk]; rfl
    clear hb11 hW11 hk10 hW10 hF10 hblk hqlt hs9 hs10 H9 HB10
    simp only [vcs]
    go_wp2_with fail
    refine (num08_W _ 1).mono ?_
    rintro e w11 ⟨rfl, hb11⟩
    have HO11 : Hid (Own w w11 p (AM4 vl' b c)) := HO10.out.below hb11
    clear hb11 HO10
    go_wp2_with fail
    obtain ⟨F, hW, h2, h3⟩ := HO11.out
    refine (plPut_A (v := numV 1) (pv := none) (nv := 0) (cv := 0) (fun w1 hb => act_4_2 (hW.below hb) rfl (aat4 vl' b c) (fun x hx => by cases hx) (Nat.zero_le _) (SlAt.nil w1 F none 0) (refsV0 1 1 (.inr rfl)).2 (fun r hr => by rw [(refsV0 1 1 (.inr rfl)).1] at hr; cases hr))).mono ?_
    rintro e w12 ⟨v12, n12, N12, rfl, ⟨-, rfl, rfl⟩, ha12⟩
    have HB12 : Hid (Below w.heap.size w w12) := (Own.acts h2 h3 ha12).below0
    clear HO11 hW h2 h3 ha12
    go_wp2_with fail
    go_ret
    exact ⟨rfl, HB12.out⟩
end Go.Proofs.YthaliljaglldjaaGreat
/- PlainFull: its calls over both worlds. -/
namespace Go.Proofs.YthaliljaglldjaaGreat
open Go.RowKit Go.ChangeMaps Go.MapKept
variable {w : World} {p q : Nat} {M N : WM} {F G : Nat → Prop}
theorem made8_any {F1 : Nat → Prop} (hB : Both w p q M N F G) (hl : M.last + 2 ≤ 100000) {k : Int} (hk : k = 1 ∨ k = 2 ∨ k = 3 ∨ k = 4 ∨ k = 10) (d h on ab : Int) (v : Val) (raw : Value) (hS : SlAt w F1 raw v.l) (hF1 : ∀ b, F1 b → ¬ F b ∧ ¬ G b) (hF0 : ∀ b, F1 b → b < w.heap.size) (hwf : v.wf) (hroom : roomB v = true) :
    Calls Tryz.prog 16 #[.pointer (some ⟨p, 0, none⟩), .pointer (some ⟨q, 0, none⟩), .agg (stepc d k h on ab v raw)] w (MadeL8 w p q M F G) := by
  rcases hk with rfl | hk | hk | hk | rfl
  · exact made8_1 hB hl d h on ab v raw hS hF1 hwf hroom
  · exact made8_k hB (.inl hk) hl d h on ab v raw hS hF1 hwf hroom hF0
  · exact made8_k hB (.inr (.inl hk)) hl d h on ab v raw hS hF1 hwf hroom hF0
  · exact made8_k hB (.inr (.inr hk)) hl d h on ab v raw hS hF1 hwf hroom hF0
  · exact made8_10 hB hl d h on ab v raw hS hF1 hwf hroom hF0
set_option maxHeartbeats 2000000 in
set_option maxRecDepth 8000 in
theorem same8_W (hB : Both w p q M N F G) (hl : M.last ≤ 100000) : Calls Tryz.prog 17 #[.pointer (some ⟨p, 0, none⟩), .pointer (some ⟨q, 0, none⟩)] w fun e w' => e = .returned (.bool true) ∧ Below w.heap.size w w' := by
  have hM := hB.W.ok
  have hlen := hB.lenM
  have hp : M.parents.length ≤ 15 := by have := hM.sides; omega
  have hmd : M.made.length = M.parents.length + 1 := hM.made
  have HT := (show Hid _ from Tell_G hB.W hB.may hB.cutM (by omega))
  have HT7 : Hid (∀ w', Below w.heap.size w w' → Calls Tryz.prog 26 #[.pointer (some ⟨q, 0, none⟩)] w' fun e w'' => ∃ v, e = .returned v ∧ Told7 w'' w'.heap.size N v ∧ Below w'.heap.size w' w'') := fun w' hb =>
    tell7_W (hB.R.below hb) (hB.good hl).ok hB.rmay (by rw [hB.al.par]; exact hp) hB.cutN hB.cutL (by rw [hB.al.made]; omega) (by rw [hB.al.made]; omega)
  have HS : Hid (∀ w' v1 v2, ToldG M v1 w' → ToldG N v2 w' → Calls Tryz.prog 24 #[v1, v2] w' fun e w'' => e = .returned (.bool true) ∧ Below w'.heap.size w' w'') := fun w' v1 v2 h1 h2 =>
    same7_W h1 h2 hB.al (by omega) (by omega) (by omega) hB.wfs
  clear hB hM hlen hp hmd hl
  go_enter Tryz.func17, Tryz.ntmps17
  go_wp2_with fail
  refine Calls.mono HT.out ?_
  rintro e w1 ⟨v1, rfl, h1, hb1⟩
  have H1 := (show Hid (ToldG M v1 w1 ∧ Below w.heap.size w w1) from ⟨h1, hb1⟩)
  clear h1 hb1 HT
  go_wp2_with fail
  refine Calls.mono (HT7.out w1 H1.out.2) ?_
  rintro e w2 ⟨v2, rfl, h2, hb2⟩
  have H2 := (show Hid (ToldG M v1 w2 ∧ ToldG N v2 w2 ∧ Below w.heap.size w w2) from ⟨H1.out.1.below hb2, h2.toG, H1.out.2.trans (hb2.mono H1.out.2.size)⟩)
  clear h2 hb2 H1 HT7
  go_wp2_with fail
  refine Calls.mono (HS.out w2 v1 v2 H2.out.1 H2.out.2.1) ?_
  rintro e w3 ⟨rfl, hb3⟩
  have H3 := (show Hid (Below w.heap.size w w3) from H2.out.2.2.trans (hb3.mono H2.out.2.2.size))
  clear hb3 H2 HS
  go_wp2_with fail
  go_ret
  exact ⟨rfl, H3.out⟩
theorem Both.make2 {w5 w6 : World} {F' G' : Nat → Prop} {t t' : Th} (hB : Both w p q M N F G) (hW : IsW w5 p (M.add t) F') (hg : Grew F w F' w5) (hR : IsR w6 q (N.add t') G') (hk : Keeps G w5 w6) (hG' : ∀ b, G' b → G b ∨ w5.heap.size ≤ b)
    (ht : ThLike t t') (hone : (thc t').all (·.oneCell') = true) (hmay : mayV t.v = true ∧ (∀ v ∈ t.vs, mayV v = true) ∧ t.vs.length ≤ 1000) (hwf : t.v.wf ∧ (listV t.vs).wf) (hkp : t.kind = 11 → t.tgt ≤ M.last + 1) :
    Both w6 p q (M.add t) (N.add t') F' G' ∧ (∀ b, F' b ∨ G' b → (F b ∨ G b) ∨ w.heap.size ≤ b) ∧ Keeps (fun b => F b ∨ G b) w w6 := by
  have hFG : ∀ b, F' b → ¬ G b := fun b h1 h2 => (hg.2 b h1).elim (fun h => hB.ap b h h2) fun h => by have := hB.R.lt b h2; omega
  exact ⟨hB.add (hW.keeps hk hFG) hR (fun b h1 h2 => (hG' b h2).elim (hFG b h1) fun h => by have := hW.lt b h1; omega) ht hone hmay hwf hkp, fun b h => h.elim (fun h => (hg.2 b h).imp .inl id) (fun h => (hG' b h).imp .inr fun h => Nat.le_trans hg.1.size h), hg.1.trans hk (fun _ _ h => .inl h) (fun _ _ h => .inr h)⟩
def FulI (w0 : World) (p q : Nat) (c : Int) (made1 : Int → Prop) (wr : World) : Prop :=
  ∃ M N F G, Both wr p q M N F G ∧ (∀ b, F b ∨ G b → w0.heap.size ≤ b) ∧ Below w0.heap.size w0 wr ∧ M.last ≤ c ∧ M.made.length = 2 ∧ made1 (M.made.getD 1 0)
theorem made_grows (M : WM) (h : Int) (hh : h = 1) (hl : M.made.length = 2) : (M.add (lt 2 h 0 0 0 0 0 0 0 false)).made.length = 2 ∧ (M.add (lt 2 h 0 0 0 0 0 0 0 false)).made.getD 1 0 = M.made.getD 1 0 + 1 := by
  subst hh
  have e : (M.add (lt 2 1 0 0 0 0 0 0 0 false)).made = M.made.set 1 (M.made.getD 1 0 + 1) := rfl
  rw [e]
  refine ⟨by rw [List.length_set]; exact hl, ?_⟩
  simp [List.getD_eq_getElem?_getD, hl]
theorem log2_W {w0 wr : World} {c : Int} {i : Int} (hI : FulI w0 p q c (fun m => m = i) wr) (hi : i < 512) (hc : c + 1 ≤ 100000) :
    Calls Tryz.prog 14 #[.pointer (some ⟨p, 0, none⟩), .agg #[.int .u8 2, .int .i64 1, .int .u8 0, .int .i64 0, .string ⟨#[]⟩, .slice none 0 0, .int .i64 0, .slice none 0 0, .int .i64 0, .int .i64 0, .int .i64 0, .int .i64 0, .int .u8 0, .bool false, .slice none 0 0, .slice none 0 0]] wr fun e w5 => ∃ r, e = .returned (.tuple #[.int .i64 r, .int .i64 0]) ∧
      Calls Tryz.prog 15 #[.pointer (some ⟨q, 0, none⟩), .agg #[.int .u8 2, .int .i64 1, .int .u8 0, .int .i64 0, .string ⟨#[]⟩, .slice none 0 0, .int .i64 0, .slice none 0 0, .int .i64 0, .int .i64 0, .int .i64 0, .int .i64 0, .int .u8 0, .bool false, .slice none 0 0, .slice none 0 0]] w5 fun e w6 => ∃ r, e = .returned (.tuple #[.int .i64 r, .int .i64 0]) ∧ FulI w0 p q (c + 1) (fun m => m = i + 1) w6 := by
  obtain ⟨M, N, F, G, hB, hF, hb, hl, h2, h1⟩ := hI
  have hh : 0 ≤ (1 : Int) ∧ (1 : Int) < M.made.length := by omega
  refine (Make_2 hB.W (by omega) hh).mono ?_
  intro e w5 hm
  rcases hm.toG with ⟨hr, rfl, t, F', rfl, hW, hg⟩ | ⟨hr, -, -⟩
  rotate_left
  · have hr' : ¬ M.made.getD 1 0 < 512 := hr
    omega
  refine ⟨_, rfl, ?_⟩
  have hW' : IsW w5 p (M.add (lt 2 1 0 0 0 0 0 0 0 false)) F' := by simpa [makeM] using hW
  have hR5 := hB.R.keeps hg.1 fun b h1 h2 => hB.ap b h2 h1
  have hgd := hB.good (by omega)
  have hmk := rmake_0 (F := fun _ => False) (k := 2) (h := 1) hR5 hgd (.inr (.inl rfl)) (by rw [hB.al.made]; exact hh) nilQ (.slice none 0 0) (SlAt.nil _ _ _ _) (fun b h => h.elim) nilQ_may (nilQ_known N) fun w2 hb2 => by
    have := form7_2 w2 N.made.length 1 (by rw [hB.al.made]; exact hh) [] none 0 (SlAt.nil w2 (fun _ => False) _ _) nilL_wf nilL_may (Nat.zero_le _)
    exact this
  refine Calls.mono hmk ?_
  intro e w6 h8
  rcases h8 with ⟨h8, -⟩ | ⟨-, h8, -⟩ | ⟨-, -, rfl, vl2, vals2, G', h9, h10, h11, -⟩
  · exact absurd rfl h8
  · rw [hB.al.made] at h8
    exact absurd hr h8
  · obtain ⟨hB6, hF6, hk6⟩ := hB.make2 (t := lt 2 1 0 0 0 0 0 0 0 false) hW' hg h9 h10 h11 ⟨vl2, vals2, rfl⟩ (thc_oneR h9) ⟨nilQ_may, fun x hx => (by cases hx), Nat.zero_le _⟩ ⟨nil_wf, nilL_wf⟩ (fun e => absurd (show (2 : Int) = 11 from e) (by decide))
    obtain ⟨g1, g2⟩ := made_grows M 1 rfl h2
    exact ⟨_, rfl, _, _, _, _, hB6, fun b h => (hF6 b h).elim (hF b) fun h => Nat.le_trans hb.size h, hb.trans (hk6.below hb.size fun b h => hF b h), by show M.last + 1 ≤ c + 1; omega, g1, by show _ = i + 1; rw [g2, h1]⟩
theorem step2_W {w0 wr : World} {c : Int} {F1 : Nat → Prop} (hI : FulI w0 p q c (fun _ => True) wr) (hc : c + 2 ≤ 100000) {k : Int} (hk : k = 1 ∨ k = 2 ∨ k = 3 ∨ k = 4 ∨ k = 10) (h : Int) (v : Val) (raw : Value) (hS : SlAt w0 F1 raw v.l) (hF1 : ∀ b, F1 b → b < w0.heap.size) (hwf : v.wf) (hroom : roomB v = true) :
    Calls Tryz.prog 16 #[.pointer (some ⟨p, 0, none⟩), .pointer (some ⟨q, 0, none⟩), .agg (stepc 0 k h 0 0 v raw)] wr fun e w' => e = .returned (.bool true) ∧ FulI w0 p q (c + 2) (fun _ => True) w' := by
  obtain ⟨M, N, F, G, hB, hF, hb, hl, h2, h1⟩ := hI
  refine (made8_any hB (by omega) hk 0 h 0 0 v raw (hS.on hb) (fun b h => ⟨fun h' => by have := hF b (.inl h'); have := hF1 b h; omega, fun h' => by have := hF b (.inr h'); have := hF1 b h; omega⟩) (fun b h => Nat.lt_of_lt_of_le (hF1 b h) hb.size) hwf hroom).mono ?_
  rintro e w' ⟨rfl, M', N', F', G', hB', hk', hg', hl', h3, -⟩
  exact ⟨rfl, M', N', F', G', hB', fun b h => (hg' b h).elim (hF b) fun h => Nat.le_trans hb.size h, hb.trans (hk'.below hb.size fun b h => hF b h), by omega, by rw [h3]; exact h2, trivial⟩
theorem tree0 : TreeOk [0] := ⟨by decide, fun i p h => by
  match i, h with
  | 0, h => cases h; exact ⟨by decide, by decide⟩
  | i + 1, h => simp at h⟩
theorem both_new {w0 w1 w2 : World} {F G : Nat → Prop} (hW : IsW w1 p (WM.new [0]) F) (hF : ∀ b, F b → w0.heap.size ≤ b) (hb1 : Below w0.heap.size w0 w1) (hR : IsR w2 q (WM.new [0]) G) (hG : ∀ b, G b → w1.heap.size ≤ b) (hb2 : Below w1.heap.size w1 w2) : FulI w0 p q 0 (fun m => m = 0) w2 :=
  ⟨_, _, F, G, {
    W := hW.below hb2
    R := hR
    ap := fun b h1 h2 => by have := hW.lt b h1; have := hG b h2; omega
    al := ⟨rfl, rfl, rfl, LikeT.nil⟩
    one := fun x hx => by cases hx
    may := fun r t h => by cases h
    wfs := fun x hx => by cases hx
    cutM := fun x hx => by
      have hx' : x ∈ List.replicate 2 false := hx
      simpa using hx'
    cutN := fun x hx => by
      have hx' : x ∈ (List.replicate 2 false).drop 1 := hx
      simpa using hx'
    cutL := rfl
    kp := fun r t h => by cases h }, fun b h => h.elim (hF b) fun h => Nat.le_trans hb1.size (hG b h), hb1.trans (hb2.mono hb1.size), Int.le_refl _, rfl, rfl⟩
end Go.Proofs.YthaliljaglldjaaGreat
