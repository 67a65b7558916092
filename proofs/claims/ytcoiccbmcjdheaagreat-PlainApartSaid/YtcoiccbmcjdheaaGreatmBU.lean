/- A part of the proof, several texts in one: AlA, AlW, Open. -/
import Derived.Test.YtcoiccbmcjdheaaGreatmBO
import Derived.Test.YtcoiccbmcjdheaaGreatmBR
import Derived.Test.YtcoiccbmcjdheaaGreatmBT
import Derived.Test.YtcoiccbmcjdheaaGreatmBG
import Derived.Test.YtcoiccbmcjdheaaGreatmAI
import Derived.Test.YtcoiccbmcjdheaaGreatmAJ
import Derived.Deep.DeepCutAuto
import Derived.Deep.CutBlock
import Derived.Test.YtcoiccbmcjdheaaGreatmAF
import Derived.WalkKit
import Derived.ProofKit
import Derived.OpenShut
import Derived.ChangeSame
import Derived.ChangeSlices
import Derived.Carry
import Derived.RowKit
/- PlainApart: the world and its copy, and what each call makes of them. -/
namespace Go.Proofs.YtcoiccbmcjdheaaGreat
open Go.RowKit Go.ChangeMaps Go.MapKept

/-- What the i-th thing is. -/
def ApT (l : List Val) (i : Nat) (t : Th) : Prop :=
  (i % 3 = 0 ∧ ∃ x a, l[i]? = some x ∧ t = cellT 0 x a) ∨ (i % 3 = 1 ∧ t = qT 2 0 [] (.slice none 0 0)) ∨ (i % 3 = 2 ∧ t = qT 4 0 [] (.slice none 0 0))
/-- k things have been made. -/
structure ApM (l : List Val) (k : Nat) (M : WM) : Prop where
  last : M.last = k
  made : M.made = [(k : Int)]
  at' : ∀ i : Nat, i < k → ∃ t, M.at ((i : Int) + 1) = some t ∧ ApT l i t
  only : ∀ r t, M.at r = some t → ∃ i : Nat, i < k ∧ r = (i : Int) + 1
theorem apM_zero (l : List Val) : ApM l 0 AM0 := ⟨rfl, rfl, fun i h => absurd h (Nat.not_lt_zero i), fun r t h => by cases h⟩
theorem ApT.kind {l : List Val} {i : Nat} {t : Th} (h : ApT l i t) : t.home = 0 ∧ t.kind ≠ 14 ∧ t.kind ≠ 15 := by
  rcases h with ⟨-, x, a, -, rfl⟩ | ⟨-, rfl⟩ | ⟨-, rfl⟩
  · exact ⟨rfl, show (1 : Int) ≠ 14 by decide, show (1 : Int) ≠ 15 by decide⟩
  · exact ⟨rfl, show (2 : Int) ≠ 14 by decide, show (2 : Int) ≠ 15 by decide⟩
  · exact ⟨rfl, show (4 : Int) ≠ 14 by decide, show (4 : Int) ≠ 15 by decide⟩
theorem ApT.fair {l : List Val} (hl : AllOk l) {i : Nat} {t : Th} (h : ApT l i t) : Fair t := by
  rcases h with ⟨-, x, a, hx, rfl⟩ | ⟨-, rfl⟩ | ⟨-, rfl⟩
  · exact ⟨(hl.1 x (List.mem_of_getElem? hx)).1, fun x hx => (by cases hx), Nat.zero_le _⟩
  · exact fair_q (fun x hx => by cases hx) (Nat.zero_le _)
  · exact fair_q (fun x hx => by cases hx) (Nat.zero_le _)
theorem ApM.add {l : List Val} {k : Nat} {M : WM} (h : ApM l k M) (ok : M.ok) {t : Th} (ht : ApT l k t) : ApM l (k + 1) (makeM M t) := by
  obtain ⟨hh, h14, h15⟩ := ht.kind
  have e : makeM M t = M.add t := by unfold makeM; rw [if_neg h15]
  rw [e]
  refine ⟨?_, ?_, fun i hi => ?_, fun r u hu => ?_⟩
  · show M.last + 1 = _
    rw [h.last]
    rfl
  · show (if t.kind = 14 then M.made else M.made.set t.home.toNat (M.made.getD t.home.toNat 0 + 1)) = _
    rw [if_neg h14, hh, h.made]
    rfl
  · by_cases e : i = k
    · subst e
      refine ⟨t, ?_, ht⟩
      rw [← h.last]
      exact WM.add_at_new ok t
    · obtain ⟨u, h1, h2⟩ := h.at' i (by omega)
      exact ⟨u, WM.add_at_old ok t h1, h2⟩
  · rw [WM.add_at ok] at hu
    split at hu
    · rename_i e
      rw [h.last] at e
      exact ⟨k, by omega, e⟩
    · obtain ⟨i, h1, h2⟩ := h.only r u hu
      exact ⟨i, by omega, h2⟩
theorem ApM.fair {l : List Val} {k : Nat} {M : WM} (h : ApM l k M) (hl : AllOk l) : ∀ r t, M.at r = some t → Fair t := fun r t hr => by
  obtain ⟨i, h1, rfl⟩ := h.only r t hr
  obtain ⟨u, h2, h3⟩ := h.at' i h1
  rw [hr] at h2
  cases h2
  exact h3.fair hl
def ApPost (w : World) (p : Nat) (l : List Val) (k : Nat) (e : Ending) (w' : World) : Prop :=
  e = .returned (.tuple #[.int .i64 ((k : Int) + 1), .int .i64 0]) ∧ ∃ M, ApM l (k + 1) M ∧ Own w w' p M
section
variable {w wr : World} {p k : Nat} {l : List Val} {M : WM}
theorem ApM.room (h : ApM l k M) (hk : k < 100) : M.last + 1 ≤ 1099511627776 ∧ ((0 : Int) ≤ 0 ∧ (0 : Int) < M.made.length) ∧ M.made.getD (0 : Int).toNat 0 < 512 := by
  rw [h.last, h.made]
  refine ⟨by omega, ⟨Int.le_refl _, show (0 : Int) < 1 by decide⟩, ?_⟩
  show (k : Int) < 512
  omega
theorem ap_of {e : Ending} {w' : World} {F : Nat → Prop} {T : Th → Prop} (h : ApM l k M) (hk : k < 100) (hW : IsW wr p M F) (h2 : ∀ b, F b → w.heap.size ≤ b) (h3 : Below w.heap.size w wr) (hT : ∀ t, T t → ApT l k t) (hm : MadeG wr p M F 0 T e w') : ApPost w p l k e w' := by
  rcases hm with ⟨-, rfl, t, F', ht, hW', hg⟩ | ⟨hx, -, -⟩
  · exact ⟨by rw [h.last], _, h.add hW.ok (hT t ht), Own.turn h2 h3 hW' hg⟩
  · exact absurd (h.room hk).2.2 hx
theorem cell_A (h : ApM l k M) (hO : Own w wr p M) (hk : k < 100) (h3 : k % 3 = 0) {x : Val} (hx : l[k]? = some x) {raw : Value} {FB : Nat → Prop} (hS : SlAt wr FB raw x.l) (hm : mayV x = true) (hr : refsV x = []) :
    Calls Tryz.prog 9 #[.pointer (some ⟨p, 0, none⟩), .int .i64 0, .agg (vcs x raw)] wr (ApPost w p l k) := by
  obtain ⟨F, hW, h2, hb⟩ := hO
  exact (Cell_G hW (h.room hk).1 (h.room hk).2.1 x raw hS hm (norefs hr)).mono fun _ _ => ap_of h hk hW h2 hb fun t ⟨a, e⟩ => .inl ⟨h3, x, a, hx, e⟩
theorem log_A (h : ApM l k M) (hO : Own w wr p M) (hk : k < 100) (h3 : k % 3 = 1) : Calls Tryz.prog 10 #[.pointer (some ⟨p, 0, none⟩), .int .i64 0] wr (ApPost w p l k) := by
  obtain ⟨F, hW, h2, hb⟩ := hO
  exact (Log_G hW (h.room hk).1 (h.room hk).2.1).mono fun _ _ => ap_of h hk hW h2 hb fun t e => .inr (.inl ⟨h3, e⟩)
theorem queue_A (h : ApM l k M) (hO : Own w wr p M) (hk : k < 100) (h3 : k % 3 = 2) : Calls Tryz.prog 11 #[.pointer (some ⟨p, 0, none⟩), .int .i64 0] wr (ApPost w p l k) := by
  obtain ⟨F, hW, h2, hb⟩ := hO
  exact (Queue_G hW (h.room hk).1 (h.room hk).2.1).mono fun _ _ => ap_of h hk hW h2 hb fun t e => .inr (.inr ⟨h3, e⟩)

/-- Two worlds, each in memory of its own. -/
def Two (w : World) (p p' : Nat) (M N : WM) (wr : World) : Prop :=
  ∃ F F', IsW wr p M F ∧ IsW wr p' N F' ∧ (∀ b, F b → w.heap.size ≤ b) ∧ (∀ b, F' b → w.heap.size ≤ b) ∧ (∀ b, F b → ¬ F' b) ∧ Below w.heap.size w wr
variable {p' : Nat} {N M' : WM} {w' : World}
theorem Two.below (h : Two w p p' M N wr) (hb : Below wr.heap.size wr w') : Two w p p' M N w' := by
  obtain ⟨F, F', h1, h2, h3, h4, h5, h6⟩ := h
  exact ⟨F, F', h1.below hb, h2.below hb, h3, h4, h5, h6.trans (hb.mono h6.size)⟩
theorem Two.base (h : Two w p p' M N wr) : Below w.heap.size w wr := by
  obtain ⟨F, F', h1, h2, h3, h4, h5, h6⟩ := h
  exact h6
theorem copy_A (hO : Own w wr p M) (fair : ∀ r t, M.at r = some t → Fair t) : Calls Tryz.prog 12 #[.pointer (some ⟨p, 0, none⟩)] wr fun e w' => ∃ p' N, e = .returned (.pointer (some ⟨p', 0, none⟩)) ∧ Like M N ∧ Two w p p' M N w' := by
  obtain ⟨F, hW, h2, hb⟩ := hO
  refine (Copy_GW hW fair).mono ?_
  rintro e w' ⟨p', F', N, rfl, hW', hL, hF', hb'⟩
  exact ⟨p', N, rfl, hL, F, F', hW.below hb', hW', h2, fun b h => Nat.le_trans hb.size (hF' b h), fun b h h' => by have := hW.lt b h; have := hF' b h'; omega, hb.trans (hb'.mono hb.size)⟩
/-- What has been done to the thing q. -/
structure ApN (M M' : WM) (q : Int) : Prop where
  kept : ∀ r, r ≠ q → M'.at r = M.at r
  there : ∃ t, M'.at q = some t ∧ Fair t
def DonePost (w : World) (p p' : Nat) (M N : WM) (q : Int) (e : Ending) (w' : World) : Prop := ∃ c M', e = .returned (.int .i64 c) ∧ ApN M M' q ∧ Two w p p' M' N w'
theorem two_acts {F F' : Nat → Prop} (h2 : IsW wr p' N F') (h3 : ∀ b, F b → w.heap.size ≤ b) (h4 : ∀ b, F' b → w.heap.size ≤ b) (h5 : ∀ b, F b → ¬ F' b) (h6 : Below w.heap.size w wr) (ha : Acts wr p F M' w') : Two w p p' M' N w' := by
  obtain ⟨hk, G, hG, hg⟩ := ha
  refine ⟨G, F', hG, h2.keeps hk (fun b hb hf => h5 b hf hb), fun b hb => ?_, h4, fun b hb hf => ?_, h6.trans (hk.below h6.size h3)⟩
  · rcases hg b hb with h | h
    · exact h3 b h
    · exact Nat.le_trans h6.size h
  · rcases hg b hb with h | h
    · exact h5 b h hf
    · have := h2.lt b hf
      omega
theorem apN_set {q : Int} {u t : Th} (hu : M.at q = some u) (ht : Fair t) : ApN M (M.set q t) q := ⟨fun _ hr => WM.set_at_ne _ _ hr, t, WM.set_at_self _ hu, ht⟩
theorem put_A (h : ApM l k M) (hl : AllOk l) (hT : Two w p p' M N wr) {a : Nat} (ha : a < k) (h3 : a % 3 = 0) {x : Val} {pv : Option Addr} {n cv : Nat} {FB : Nat → Prop} (hS : SlAt wr FB (.slice pv n cv) x.l) (hm : mayV x = true) (hr : refsV x = []) :
    Calls Tryz.prog 13 #[.pointer (some ⟨p, 0, none⟩), .int .i64 ((a : Int) + 1), .agg (vcs x (.slice pv n cv))] wr (DonePost w p p' M N ((a : Int) + 1)) := by
  obtain ⟨F, F', h1, h2, g3, h4, h5, h6⟩ := hT
  obtain ⟨t, ht, hk⟩ := h.at' a ha
  rcases hk with ⟨-, y, b, hy, rfl⟩ | ⟨h', -⟩ | ⟨h', -⟩
  rotate_left
  · omega
  · omega
  have hs : sideB M 0 = true := by unfold sideB; rw [h.made]; rfl
  refine (plPut_A (fun w1 hb => act_1_2 (h1.below hb) (h1.ok.at_wf ht) ht (hl.1 y (List.mem_of_getElem? hy)).1 hs (hS.on hb) hm (norefs hr))).mono ?_
  rintro e w'' ⟨v, c, M', rfl, ⟨-, rfl, raw', rfl⟩, hA⟩
  exact ⟨_, _, rfl, apN_set ht ⟨hm, fun x hx => (by cases hx), Nat.zero_le _⟩, two_acts h2 g3 h4 h5 h6 hA⟩
theorem held0 {k : Int} {vals : Value} : ∀ r ∈ heldL (qT k 0 [] vals), (Lit.int .i64 r).wf = true ∧ (M.at r).isSome = true := fun _ hr => by
  simp only [heldL, List.mem_append, List.mem_flatMap] at hr
  rcases hr with hr | ⟨x, hx, hr⟩
  · rw [(refsV0 0 0 (.inl ⟨rfl, rfl⟩)).1] at hr
    cases hr
  · cases hx
theorem give_A (h : ApM l k M) (hT : Two w p p' M N wr) {a : Nat} (ha : a < k) (h3 : a % 3 ≠ 0) {x : Val} {pv : Option Addr} {n cv : Nat} {FB : Nat → Prop} (hS : SlAt wr FB (.slice pv n cv) x.l) (hm : mayV x = true) (hr : refsV x = []) :
    Calls Tryz.prog 14 #[.pointer (some ⟨p, 0, none⟩), .int .i64 ((a : Int) + 1), .agg (vcs x (.slice pv n cv))] wr (DonePost w p p' M N ((a : Int) + 1)) := by
  obtain ⟨F, F', h1, h2, g3, h4, h5, h6⟩ := hT
  obtain ⟨t, ht, hk⟩ := h.at' a ha
  have hs : sideB M 0 = true := by unfold sideB; rw [h.made]; rfl
  have hfair : ∀ k' vals', Fair (qT k' 0 ([] ++ [x]) vals') := fun k' vals' => fair_q (fun y hy => by rw [List.mem_singleton.1 hy]; exact hm) (by simp)
  have key : ∀ {kk : Int} {vals0 : Value}, M.at ((a : Int) + 1) = some (qT kk 0 [] vals0) → (∀ w1, Below wr.heap.size wr w1 → Calls Tryz.prog 38 #[.pointer (some ⟨p, 0, none⟩), .int .i64 ((a : Int) + 1), .int .u8 8, .agg (vcs x (.slice pv n cv))] w1 (ActPost w1 p F (GiveX M ((a : Int) + 1) kk 0 [] x))) →
      Calls Tryz.prog 14 #[.pointer (some ⟨p, 0, none⟩), .int .i64 ((a : Int) + 1), .agg (vcs x (.slice pv n cv))] wr (DonePost w p p' M N ((a : Int) + 1)) := fun {kk vals0} hq hD => by
    refine (plGive_A hD).mono ?_
    rintro e w'' ⟨v, c, M', rfl, ⟨-, hx⟩, hA⟩
    rcases hx with ⟨-, rfl, vals', rfl⟩ | ⟨-, rfl, rfl⟩
    · exact ⟨_, _, rfl, apN_set hq (hfair _ _), two_acts h2 g3 h4 h5 h6 hA⟩
    · exact ⟨_, _, rfl, ⟨fun r _ => rfl, _, hq, fair_q (fun x hx => by cases hx) (Nat.zero_le _)⟩, two_acts h2 g3 h4 h5 h6 hA⟩
  rcases hk with ⟨h', -⟩ | ⟨-, rfl⟩ | ⟨-, rfl⟩
  · omega
  · exact key ht fun w1 hb => act_2_8 (h1.below hb) (h1.ok.at_wf ht) ht hs held0 (fun x hx => by cases hx) (Nat.zero_le _) (hS.on hb) hm (norefs hr)
  · exact key ht fun w1 hb => act_4_8 (h1.below hb) (h1.ok.at_wf ht) ht hs held0 (fun x hx => by cases hx) (Nat.zero_le _) (hS.on hb) hm (norefs hr)
/-- What What answers. -/
def WhatP (t : Th) (w : World) (e : Ending) (w' : World) : Prop :=
  ∃ vl vals, e = .returned (.tuple #[.agg (thc { t with vl := vl, vals := vals }), .int .i64 0]) ∧ Below w.heap.size w w' ∧ SlAt w' (fun _ => True) vl t.v.l ∧ SlAt w' (fun _ => True) vals t.vs ∧ t.code = .slice none 0 0 ∧ t.names = .slice none 0 0
theorem what_was (hT : Two w p p' M N wr) (hL : Like M' N) {r : Int} {t : Th} (ht : M'.at r = some t) (hf : Fair t) : Calls Tryz.prog 15 #[.pointer (some ⟨p', 0, none⟩), .int .i64 r] wr (WhatP t wr) := by
  obtain ⟨F, F', h1, h2, -⟩ := hT
  obtain ⟨vl, vals, hN⟩ := hL.at' r t ht
  refine (What_G h2 (h2.ok.at_wf hN) hN ⟨hf.v, hf.vs, hf.len⟩).mono ?_
  rintro e w' ⟨vl', vals', rfl, hb, hD, -⟩
  exact ⟨vl', vals', rfl, hb, hD.v.at.mono fun _ _ => trivial, hD.vs.at.mono fun _ _ => trivial, hD.code, hD.names⟩
theorem what_is (hT : Two w p p' M N wr) {r : Int} {t : Th} (ht : M.at r = some t) (hf : Fair t) : Calls Tryz.prog 15 #[.pointer (some ⟨p, 0, none⟩), .int .i64 r] wr (WhatP t wr) := by
  obtain ⟨F, F', h1, h2, -⟩ := hT
  refine (What_G h1 (h1.ok.at_wf ht) ht hf).mono ?_
  rintro e w' ⟨vl', vals', rfl, hb, hD, -⟩
  exact ⟨vl', vals', rfl, hb, hD.v.at.mono fun _ _ => trivial, hD.vs.at.mono fun _ _ => trivial, hD.code, hD.names⟩
end
end Go.Proofs.YtcoiccbmcjdheaaGreat
/- PlainApart: the walk. -/
namespace Go.Proofs.YtcoiccbmcjdheaaGreat
open Go.RowKit Go.ChangeMaps Go.MapKept

/-- The value of a whole What in memory. -/
theorem what_v {w : World} {b : Nat} {t : Th} (hg : w.heap[b]? = some (.cells (thc t) 42 (0, 0))) : (ldV (.pointer (some ⟨b, 2, none⟩))).run Tryz.prog w = .ok (.value (.agg (vcs t.v t.vl))) w := by
  have := loadV_mid (w := w) (b := b) (o := 2) (cs := (vcs t.v t.vl).toList) (fun j v hj => by
    rw [cell_blk hg]
    match j, hj with
    | 0, hj => exact hj
    | 1, hj => exact hj
    | 2, hj => exact hj
    | 3, hj => exact hj
    | 4, hj => exact hj
    | j + 5, hj => exact absurd hj (by simp [vcs])) (by simp [vcs])
  rwa [Array.toArray_toList] at this
theorem what_vals {w : World} {b : Nat} {t : Th} (hg : w.heap[b]? = some (.cells (thc t) 42 (0, 0))) : w.cell? ⟨b, 7, none⟩ = some t.vals := by
  rw [cell_blk hg]
  rfl
theorem thc_one {t : Th} {a b : Option Addr} {n c m d : Nat} (h1 : t.vl = .slice a n c) (h2 : t.vals = .slice b m d) (h3 : t.code = .slice none 0 0) (h4 : t.names = .slice none 0 0) : (thc t).all (·.oneCell') = true := by
  simp [thc, go_sem, h1, h2, h3, h4]
theorem execOp_ldVz56 (ρ : Operand → Value) (ty : TypeId) (pos : String) (af : Array Edge) (g : Option (Nat × Bool)) :
    execOp ρ { dst := some 56, op := .load 34 (.tmp 55), type := ty, pos := pos, after := af, guard := g } = ldV (ρ (.tmp 55)) := rfl
theorem execOp_ldVz93 (ρ : Operand → Value) (ty : TypeId) (pos : String) (af : Array Edge) (g : Option (Nat × Bool)) :
    execOp ρ { dst := some 93, op := .load 34 (.tmp 92), type := ty, pos := pos, after := af, guard := g } = ldV (ρ (.tmp 92)) := rfl
theorem execOp_ldVz136 (ρ : Operand → Value) (ty : TypeId) (pos : String) (af : Array Edge) (g : Option (Nat × Bool)) :
    execOp ρ { dst := some 136, op := .load 34 (.tmp 135), type := ty, pos := pos, after := af, guard := g } = ldV (ρ (.tmp 135)) := rfl
theorem execOp_ldVz138 (ρ : Operand → Value) (ty : TypeId) (pos : String) (af : Array Edge) (g : Option (Nat × Bool)) :
    execOp ρ { dst := some 138, op := .load 34 (.tmp 137), type := ty, pos := pos, after := af, guard := g } = ldV (ρ (.tmp 137)) := rfl
theorem execOp_ldVz99 (ρ : Operand → Value) (ty : TypeId) (pos : String) (af : Array Edge) (g : Option (Nat × Bool)) :
    execOp ρ { dst := some 99, op := .load 34 (.tmp 12), type := ty, pos := pos, after := af, guard := g } = ldV (ρ (.tmp 12)) := rfl
theorem execOp_ldVz103 (ρ : Operand → Value) (ty : TypeId) (pos : String) (af : Array Edge) (g : Option (Nat × Bool)) :
    execOp ρ { dst := some 103, op := .load 34 (.tmp 12), type := ty, pos := pos, after := af, guard := g } = ldV (ρ (.tmp 12)) := rfl
attribute [local go_sem ↓] execOp_stV execOp_ldVz99 execOp_ldVz103 execOp_ldVz56 execOp_ldVz93 execOp_ldVz136 execOp_ldVz138 in
set_option maxHeartbeats 8000000 in
set_option maxRecDepth 20000 in
theorem apart_walk (w : World) {F0 : Nat → Prop} (pa : Option Addr) (cl : Nat) (l : List Val) (hS : SlAt w F0 (.slice pa l.length cl) l) (x y : Int) (hx : -9223372036854775808 ≤ x ∧ x < 9223372036854775808) (hy : -9223372036854775808 ≤ y ∧ y < 9223372036854775808) :
    Calls Tryz.prog 3 #[.slice pa l.length cl, .int .i64 x, .int .i64 y] w fun e w' => e = .returned (.bool true) ∧ Below w.heap.size w w' := by
  have HS : Hid (∀ w', Below w.heap.size w w' → SlAt w' F0 (.slice pa l.length cl) l) := fun w' hb => hS.on hb
  have HXY : Hid ((-9223372036854775808 ≤ x ∧ x < 9223372036854775808) ∧ (-9223372036854775808 ≤ y ∧ y < 9223372036854775808)) := ⟨hx, hy⟩
  clear hS hx hy
  obtain ⟨n, hn⟩ : ∃ n, n = l.length := ⟨_, rfl⟩
  have Hn : Hid (n = l.length) := hn
  rw [← hn] at HS ⊢
  clear hn
  go_enter Tryz.func3, Tryz.ntmps3
  go_wp2_with fail
  refine (fresh08_W w).mono ?_
  rintro e w1 ⟨p, rfl, hO⟩
  have HO : Hid (Own w w1 p AM0) := hO
  clear hO
  go_wp2_with fail
  refine (all08_W l _ (HS.out w1 HO.out.below0)).mono ?_
  rintro e w3 ⟨B, rfl, hb3, hall⟩
  have HO3 : Hid (Own w w3 p AM0) := HO.out.below hb3
  clear hb3 HO
  cases B with
  | false =>
    go_wp2_with fail
    refine (awake08_W _).mono ?_
    rintro e w4 ⟨rfl, hb4⟩
    have HB : Hid (Below w.heap.size w w4) := (HO3.out.below hb4).below0
    clear hb4 HO3 hall
    go_wp2_with fail
    go_ret
    exact ⟨rfl, HB.out⟩
  | true =>
    have HL := (show Hid (AllOk l) from hall rfl)
    clear hall
    by_cases h2 : (n : Int) < 2
    · go_wp2_with fail
      refine (awake08_W _).mono ?_
      rintro e w4 ⟨rfl, hb4⟩
      have HB : Hid (Below w.heap.size w w4) := (HO3.out.below hb4).below0
      clear hb4 HO3
      go_wp2_with fail
      go_ret
      exact ⟨rfl, HB.out⟩
    · have Hn2 : Hid (2 ≤ n ∧ n ≤ 100) := ⟨by omega, by rw [Hn.out]; exact HL.out.2.1⟩
      go_wp2_with fail
      go_loopw [8] (fun vi wr => ∃ (k : Nat) (M : WM), vi = .int .i64 k ∧ k ≤ n ∧ Hid (ApM l k M ∧ Own w wr p M)) (fun vi _ => n - (intOf vi).toNat)
      case atStart => exact ⟨0, AM0, rfl, Nat.zero_le _, apM_zero l, HO3.out⟩
      case round =>
        obtain ⟨k, M, rfl, hk, HI⟩ := hrel
        clear HO3
        by_cases hkn : k < n
        · have hkz : (k : Int) < (n : Int) := by omega
          have hwk : wrap64 ((k : Int) + 1) = (k : Int) + 1 := by have := Hn2.out; unfold wrap64; omega
          have Hk : Hid (k < n ∧ k < 100) := ⟨hkn, by have := Hn2.out; omega⟩
          go_upto_block 2 with fail
          go_cut [9] from 36 to 68 (fun v wx => v = .int .i64 0 ∧ ∃ M', Hid (ApM l (k + 1) M' ∧ Own w wx p M'))
          case first =>
            have h3 : k % 3 = 0 ∨ k % 3 = 1 ∨ k % 3 = 2 := by omega
            rcases h3 with h3 | h3 | h3
            · have e3 : (k : Int) % 3 = 0 := by omega
              obtain ⟨v, hv⟩ : ∃ v, l[k]? = some v := ⟨_, List.getElem?_eq_getElem (by have := Hn.out; omega)⟩
              obtain ⟨b, o, cq, raw, hpe, hrg, hlt, -, hSv⟩ := (HS.out wr HI.out.2.below0).range hv
              have hpa : pa = some ⟨b, o, none⟩ := by injection hpe
              subst hpa
              have hld := ld_on hrg (Below.refl _ wr) hlt
              have HC := (show Hid _ from cell_A HI.out.1 HI.out.2 Hk.out.2 h3 hv hSv (HL.out.1 v (List.mem_of_getElem? hv)).1 (HL.out.1 v (List.mem_of_getElem? hv)).2)
              clear hpe hrg hlt hSv hv h3
              go_wp2_with fail
              refine Calls.mono HC.out ?_
              rintro e w4 ⟨rfl, M', h1, h2⟩
              have H4 := (show Hid (ApM l (k + 1) M' ∧ Own w w4 p M') from ⟨h1, h2⟩)
              clear h1 h2 HC hld
              go_wp2_with fail
              go_meet
              exact ⟨rfl, M', H4⟩
            · have e3 : (k : Int) % 3 = 1 := by omega
              have HC := (show Hid _ from log_A HI.out.1 HI.out.2 Hk.out.2 h3)
              clear h3
              go_wp2_with fail
              refine Calls.mono HC.out ?_
              rintro e w4 ⟨rfl, M', h1, h2⟩
              have H4 := (show Hid (ApM l (k + 1) M' ∧ Own w w4 p M') from ⟨h1, h2⟩)
              clear h1 h2 HC
              go_wp2_with fail
              go_meet
              exact ⟨rfl, M', H4⟩
            · have e3 : (k : Int) % 3 = 2 := by omega
              have HC := (show Hid _ from queue_A HI.out.1 HI.out.2 Hk.out.2 h3)
              clear h3
              go_wp2_with fail
              refine Calls.mono HC.out ?_
              rintro e w4 ⟨rfl, M', h1, h2⟩
              have H4 := (show Hid (ApM l (k + 1) M' ∧ Own w w4 p M') from ⟨h1, h2⟩)
              clear h1 h2 HC
              go_wp2_with fail
              go_meet
              exact ⟨rfl, M', H4⟩
          obtain ⟨rfl, M', HI'⟩ := hcut
          clear HI
          go_wp2_with fail
          go_roundw
          case rel => exact ⟨k + 1, M', by go_num, by omega, HI'⟩
          case measure => rw [hwk]; exact measL hkn
        · obtain rfl : n = k := by omega
          clear hk hkn
          have hkz : ¬ (n : Int) < (n : Int) := by omega
          go_upto_if 70 with fail
          go_cut [1] (fun v wx => wx = wr ∧ ∃ a : Nat, v = .int .i64 a)
          case first =>
            by_cases hx0 : x < 0
            · have hw1 : wrap64 (x + 1) = x + 1 := by have := HXY.out; unfold wrap64; omega
              have hw2 : wrap64 (-(x + 1)) = -(x + 1) := by have := HXY.out; unfold wrap64; omega
              have HA : Hid (-(x + 1) = (((-(x + 1)).toNat : Nat) : Int)) := by show _ = _; omega
              go_wp2_with fail
              go_meet
              exact ⟨rfl, _, by rw [← HA.out]⟩
            · have HA : Hid (x = ((x.toNat : Nat) : Int)) := by show _ = _; omega
              go_wp2_with fail
              go_meet
              exact ⟨rfl, _, by rw [← HA.out]⟩
          obtain ⟨rfl, a, rfl⟩ := hcut
          go_upto_if 79 with fail
          obtain ⟨A, hA, HA⟩ : ∃ A : Nat, (a : Int) % (n : Int) = (A : Int) ∧ Hid (A < n) := ⟨a % n, by omega, Nat.mod_lt _ (by have := Hn2.out; omega)⟩
          rw [hA]
          clear hA
          have HI2 := (show Hid (ApM l n M ∧ Own w wc p M) from HI.out)
          clear HI
          revert HI2
          generalize wc = wd
          intro HI2
          go_cut [2] (fun v wx => wx = wd ∧ ∃ a : Nat, v = .int .i64 a)
          case first =>
            by_cases hx0 : y < 0
            · have hw1 : wrap64 (y + 1) = y + 1 := by have := HXY.out; unfold wrap64; omega
              have hw2 : wrap64 (-(y + 1)) = -(y + 1) := by have := HXY.out; unfold wrap64; omega
              have HA : Hid (-(y + 1) = (((-(y + 1)).toNat : Nat) : Int)) := by show _ = _; omega
              go_wp2_with fail
              go_meet
              exact ⟨rfl, _, by rw [← HA.out]⟩
            · have HA : Hid (y = ((y.toNat : Nat) : Int)) := by show _ = _; omega
              go_wp2_with fail
              go_meet
              exact ⟨rfl, _, by rw [← HA.out]⟩
          obtain ⟨rfl, b0, rfl⟩ := hcut
          -- Copy
          go_wp2_with fail
          refine (copy_A HI2.out.2 (HI2.out.1.fair HL.out)).mono ?_
          rintro e w4 ⟨p', N, rfl, hLike, hTwo⟩
          have HT := (show Hid (Two w p p' M N w4 ∧ Like M N) from ⟨hTwo, hLike⟩)
          have HM := (show Hid (ApM l n M) from HI2.out.1)
          clear hTwo hLike HI2
          go_upto_region 23 with fail
          obtain ⟨D, hD, HD⟩ : ∃ D : Nat, (b0 : Int) % (n : Int) = (D : Int) ∧ Hid (D < n) := ⟨b0 % n, by omega, Nat.mod_lt _ (by have := Hn2.out; omega)⟩
          have hA1 : wrap64 ((A : Int) + 1) = (A : Int) + 1 := by have := HA.out; have := Hn2.out; unfold wrap64; omega
          rw [hA1]
          obtain ⟨v, hv⟩ : ∃ v, l[D]? = some v := ⟨_, List.getElem?_eq_getElem (by have := Hn.out; have := HD.out; omega)⟩
          obtain ⟨b, o, cq, raw, hpe, hrg, hlt, -, hSv⟩ := (HS.out w4 HT.out.1.base).range hv
          have hpa : pa = some ⟨b, o, none⟩ := by injection hpe
          subst hpa
          have hDn : (D : Int) < (n : Int) := by have := HD.out; omega
          have hn0 : ¬ (n : Int) = 0 := by have := Hn2.out; omega
          have HV := (show Hid (∀ w', Below w4.heap.size w4 w' → (ldV (.pointer (some ⟨b, o + D * 5, none⟩))).run Tryz.prog w' = .ok (.value (.agg (vcs v raw))) w') from fun w' h => ld_on hrg h hlt)
          have hld := HV.out w4 (Below.refl _ _)
          have Hv := (show Hid (SlAt w4 F0 raw v.l ∧ mayV v = true ∧ refsV v = []) from ⟨hSv, HL.out.1 v (List.mem_of_getElem? hv)⟩)
          clear hpe hrg hlt hSv hv
          obtain ⟨pv, cv, rfl⟩ := Hv.out.1.form
          have hst := storeV_blk (c' := vcs v (.slice pv v.l.length cv)) (blk_new w4 (.cells #[.int .u8 0, .int .i64 0, .string ⟨#[]⟩, .slice none 0 0, .int .i64 0] 34)) rfl rfl (by simp [vcs, go_sem])
          have H5 : Hid (∀ w5, w5 = (w4.alloc (.cells #[.int .u8 0, .int .i64 0, .string ⟨#[]⟩, .slice none 0 0, .int .i64 0] 34)).setRow w4.heap.size (vcs v (.slice pv v.l.length cv)) → w5.heap[w4.heap.size]? = some (.cells (vcs v (.slice pv v.l.length cv)) 34 (0, 0)) ∧ Below w4.heap.size w4 w5) := by
            intro w5 e
            subst e
            exact ⟨heap_setRow_at (blk_new w4 _), Below.setRow ((Below.refl _ _).alloc (Nat.le_refl _) _) (Nat.le_refl _) _⟩
          go_upto_if 96 with fail
          revert H5
          generalize World.setRow _ _ _ = w5
          intro H5
          obtain ⟨hg5, hb5⟩ := H5.out w5 rfl
          have HT5 : Hid (Two w p p' M N w5 ∧ Like M N) := ⟨HT.out.1.below hb5, HT.out.2⟩
          have Hv5 := (show Hid (SlAt w5 F0 (.slice pv v.l.length cv) v.l ∧ mayV v = true ∧ refsV v = []) from ⟨Hv.out.1.on hb5, Hv.out.2⟩)
          have hld5 := loadV_blk hg5 rfl
          have HS' := (show Hid (∀ w', Below w.heap.size w w' → SlAt w' F0 (.slice (some ⟨b, o, none⟩) n cl) l) from HS.out)
          clear hst H5 HT Hv HV hld hg5 hb5 hD hDn hn0
          go_cut [] (fun wx => ∃ M', Hid (ApN M M' ((A : Int) + 1) ∧ Two w p p' M' N wx))
          case first =>
            by_cases hA3 : A % 3 = 0
            · have e3 : (A : Int) % 3 = 0 := by omega
              have HC := (show Hid _ from put_A HM.out HL.out HT5.out.1 HA.out hA3 Hv5.out.1 Hv5.out.2.1 Hv5.out.2.2)
              clear hA3
              go_wp2_with fail
              refine Calls.mono HC.out ?_
              rintro e w6 ⟨c, M', rfl, h1, h2⟩
              have H6 := (show Hid (ApN M M' ((A : Int) + 1) ∧ Two w p p' M' N w6) from ⟨h1, h2⟩)
              clear h1 h2 HC hld5
              go_wp2_with fail
              go_meet
              exact ⟨M', H6⟩
            · have e3 : ¬ (A : Int) % 3 = 0 := by omega
              have HC := (show Hid _ from give_A HM.out HT5.out.1 HA.out hA3 Hv5.out.1 Hv5.out.2.1 Hv5.out.2.2)
              clear hA3
              go_wp2_with fail
              refine Calls.mono HC.out ?_
              rintro e w6 ⟨c, M', rfl, h1, h2⟩
              have H6 := (show Hid (ApN M M' ((A : Int) + 1) ∧ Two w p p' M' N w6) from ⟨h1, h2⟩)
              clear h1 h2 HC hld5
              go_wp2_with fail
              go_meet
              exact ⟨M', H6⟩
          obtain ⟨M', H6⟩ := hcut
          have HLk := (show Hid (Like M N) from HT5.out.2)
          clear HT5 Hv5 hld5
          go_wp2_with fail
          go_loopw [13] (fun vi wr => ∃ k : Nat, vi = .int .i64 k ∧ k ≤ n ∧ Hid (Two w p p' M' N wr)) (fun vi _ => n - (intOf vi).toNat)
          case atStart => exact ⟨0, rfl, Nat.zero_le _, H6.out.2⟩
          case round =>
            obtain ⟨k, rfl, hk, HI⟩ := hrel
            have HN := (show Hid (ApN M M' ((A : Int) + 1)) from H6.out.1)
            clear H6
            by_cases hkn : k < n
            · have hkz : (k : Int) < (n : Int) := by omega
              have hwk : wrap64 ((k : Int) + 1) = (k : Int) + 1 := by have := Hn2.out; unfold wrap64; omega
              obtain ⟨t, ht, htk⟩ := HM.out.at' k hkn
              have Ht := (show Hid (M.at ((k : Int) + 1) = some t ∧ Fair t) from ⟨ht, htk.fair HL.out⟩)
              have HW1 := (show Hid _ from what_was HI.out (M' := M) HLk.out ht (htk.fair HL.out))
              clear ht htk
              go_wp2_with fail
              refine Calls.mono HW1.out ?_
              rintro e w7 ⟨vl, vals, rfl, hb7, hs1, hs2, hc, hn⟩
              obtain ⟨pv1, cv1, rfl⟩ := hs1.form
              obtain ⟨ps1, cs1, rfl⟩ := hs2.form
              obtain ⟨T1, hT1⟩ : ∃ T1 : Th, T1 = { t with vl := .slice pv1 t.v.l.length cv1, vals := .slice ps1 t.vs.length cs1 } := ⟨_, rfl⟩
              obtain ⟨w8, hst8, hb8, hg8, -⟩ := boxed_what' w7 (thc T1) rfl (thc_one (by rw [hT1]) (by rw [hT1]) (by rw [hT1]; exact hc) (by rw [hT1]; exact hn))
              have HI8 : Hid (Two w p p' M' N w8) := (HI.out.below hb7).below hb8
              have HG8 := (show Hid (w8.heap[w7.heap.size]? = some (.cells (thc T1) 42 (0, 0)) ∧ SlAt w8 (fun _ => True) (.slice pv1 t.v.l.length cv1) t.v.l ∧ SlAt w8 (fun _ => True) (.slice ps1 t.vs.length cs1) t.vs ∧ T1.v = t.v ∧ T1.vl = .slice pv1 t.v.l.length cv1 ∧ T1.vals = .slice ps1 t.vs.length cs1) from ⟨hg8, hs1.on hb8, hs2.on hb8, by rw [hT1], by rw [hT1], by rw [hT1]⟩)
              rw [← hT1]
              clear hT1 hb7 hb8 hg8 hs1 hs2 hc hn HI HW1
              by_cases hkA : k = A
              · subst hkA
                obtain ⟨t', ht', hf'⟩ := HN.out.there
                have HW2 := (show Hid _ from what_is HI8.out ht' hf')
                clear ht' hf'
                go_wp2_with fail
                refine Calls.mono HW2.out ?_
                rintro e w9 ⟨vl, vals, rfl, hb9, hs1, hs2, hc, hn⟩
                obtain ⟨pv2, cv2, rfl⟩ := hs1.form
                obtain ⟨ps2, cs2, rfl⟩ := hs2.form
                obtain ⟨T2, hT2⟩ : ∃ T2 : Th, T2 = { t' with vl := .slice pv2 t'.v.l.length cv2, vals := .slice ps2 t'.vs.length cs2 } := ⟨_, rfl⟩
                obtain ⟨w10, hst10, hb10, -, -⟩ := boxed_what' w9 (thc T2) rfl (thc_one (by rw [hT2]) (by rw [hT2]) (by rw [hT2]; exact hc) (by rw [hT2]; exact hn))
                have HI10 : Hid (Two w p p' M' N w10) := (HI8.out.below hb9).below hb10
                rw [← hT2]
                clear hT2 hb9 hb10 hs1 hs2 hc hn HI8 HW2 hst8 HG8
                go_wp2_with fail
                go_roundw
                case rel => exact ⟨k + 1, by go_num, by omega, HI10.out⟩
                case measure => rw [hwk]; exact measL hkn
              · have hkA2 : ¬ (k : Int) = (A : Int) := by omega
                have ht' : M'.at ((k : Int) + 1) = some t := (HN.out.kept _ (by omega)).trans Ht.out.1
                have HW2 := (show Hid _ from what_is HI8.out ht' Ht.out.2)
                clear ht' hkA
                go_wp2_with fail
                refine Calls.mono HW2.out ?_
                rintro e w9 ⟨vl, vals, rfl, hb9, hs1, hs2, hc, hn⟩
                obtain ⟨pv2, cv2, rfl⟩ := hs1.form
                obtain ⟨ps2, cs2, rfl⟩ := hs2.form
                obtain ⟨T2, hT2⟩ : ∃ T2 : Th, T2 = { t with vl := .slice pv2 t.v.l.length cv2, vals := .slice ps2 t.vs.length cs2 } := ⟨_, rfl⟩
                obtain ⟨w10, hst10, hb10, hg10, -⟩ := boxed_what' w9 (thc T2) rfl (thc_one (by rw [hT2]) (by rw [hT2]) (by rw [hT2]; exact hc) (by rw [hT2]; exact hn))
                have HI10 : Hid (Two w p p' M' N w10) := (HI8.out.below hb9).below hb10
                have hb810 : Below w8.heap.size w8 w10 := hb9.trans (hb10.mono hb9.size)
                have hg14 := below_blk hb810 HG8.out.1
                have hld14 := what_v hg14
                have hld16 := what_v hg10
                rw [HG8.out.2.2.2.1, HG8.out.2.2.2.2.1] at hld14
                rw [show T2.v = t.v by rw [hT2], show T2.vl = .slice pv2 t.v.l.length cv2 by rw [hT2]] at hld16
                have HC10 := (show Hid ((∀ w', Below w10.heap.size w10 w' → w'.cell? ⟨w7.heap.size, 7, none⟩ = some (.slice ps1 t.vs.length cs1)) ∧ (∀ w', Below w10.heap.size w10 w' → w'.cell? ⟨w9.heap.size, 7, none⟩ = some (.slice ps2 t.vs.length cs2))) from
                  ⟨fun w' hb => by rw [what_vals (below_blk hb hg14), HG8.out.2.2.2.2.2], fun w' hb => by rw [what_vals (below_blk hb hg10), hT2]⟩)
                have HS10 := (show Hid (∀ w', Below w10.heap.size w10 w' → SlAt w' (fun _ => True) (.slice pv1 t.v.l.length cv1) t.v.l ∧ SlAt w' (fun _ => True) (.slice pv2 t.v.l.length cv2) t.v.l ∧ SlAt w' (fun _ => True) (.slice ps1 t.vs.length cs1) t.vs ∧ SlAt w' (fun _ => True) (.slice ps2 t.vs.length cs2) t.vs) from
                  fun w' hb => ⟨(HG8.out.2.1.on hb810).on hb, (hs1.on hb10).on hb, (HG8.out.2.2.1.on hb810).on hb, (hs2.on hb10).on hb⟩)
                rw [← hT2]
                clear hT2 hb9 hb10 hs1 hs2 hc hn HI8 HW2 hst8 HG8 hg14 hg10 hb810
                go_wp2_with fail
                refine (rSame_G t.v _ _ (HS10.out _ (Below.refl _ _)).1 (HS10.out _ (Below.refl _ _)).2.1 Ht.out.2.v).mono ?_
                rintro e w11 ⟨rfl, hb11⟩
                have hc14 := HC10.out.1 _ hb11
                have hc16 := HC10.out.2 _ hb11
                have HB11 := (show Hid (Below w10.heap.size w10 w11) from hb11)
                clear hb11 hld14 hld16 hst10
                go_wp2_with fail
                refine (rSameAll_G t.vs _ _ (HS10.out _ HB11.out).2.2.1 (HS10.out _ HB11.out).2.2.2 Ht.out.2.vs (by have := Ht.out.2.len; omega)).mono ?_
                rintro e w12 ⟨rfl, hb12⟩
                have HI12 : Hid (Two w p p' M' N w12) := (HI10.out.below HB11.out).below hb12
                clear hb12 HI10 HB11 HC10 HS10 hc14 hc16
                go_wp2_with fail
                go_roundw
                case rel => exact ⟨k + 1, by go_num, by omega, HI12.out⟩
                case measure => rw [hwk]; exact measL hkn
            · obtain rfl : n = k := by omega
              have HB := (show Hid (Below w.heap.size w wr) from HI.out.base)
              clear hk hkn HI
              go_wp2_with fail
              refine (awake08_W _).mono ?_
              rintro e w7 ⟨rfl, hb7⟩
              have HB7 : Hid (Below w.heap.size w w7) := HB.out.trans (hb7.mono HB.out.size)
              clear hb7 HB
              go_wp2_with fail
              go_ret
              exact ⟨rfl, HB7.out⟩
end Go.Proofs.YtcoiccbmcjdheaaGreat
/- Arguments of a law that are slices or arrays of whole numbers: what the walk is given. -/
namespace Go.Proofs.YtcoiccbmcjdheaaGreat
open Go.ChangeShapes Go.WideShapes Go.ChangeAt Go.RowKit

/-- The whole numbers that a slice holds. -/
def IntArg (k : IntKind) (w : World) (pa : Option Addr) (xs : List Int) : Prop :=
  xs = [] ∨ ∃ b o, pa = some ⟨b, o, none⟩ ∧ b < w.heap.size ∧ ∀ (j : Nat) (x : Int), xs[j]? = some x → w.cell? ⟨b, o + j, none⟩ = some (.int k x)
theorem IntArg.side {w : World} {pa : Option Addr} {xs : List Int} (h : IntArg .i64 w pa xs) : SideArg w pa xs := by
  rcases h with h | ⟨b, o, h1, -, h3⟩
  · exact .inl h
  · exact .inr ⟨b, o, h1, h3⟩

theorem open_arr3 {H : Type} {enc : TypeId × Value → H} {P : Program} {k e : TypeId} {q : IntKind} {W : World} {base : Nat} {sp : Nat → Bool} {held : Bool} (hu : P.underlying k = some (.array 3 e)) (he : P.underlying e = some (.int q)) (hc : P.cellsOf e = 1)
    {r : Reach} {b0 : Nat} {v : Value} (hk : P.cellsOf k = 3) (hval : Value.okWide P W r b0 k v) {d : DataW H} {ps : List MemPlace} (hd : DataW.Trod enc P W base sp held k v d ps) :
    ∃ a b c : Int, v = .agg #[.int q a, .int q b, .int q c] := by
  simp only [Value.okWide, hu] at hval
  obtain ⟨xs, rfl, hn, _⟩ := hval
  rw [hk] at hn
  obtain ⟨fuel, hf⟩ := hd
  cases fuel with
  | zero => simp [DataW.trod] at hf
  | succ m =>
    rw [DataW.trod_step] at hf
    unfold DataW.trodStep at hf
    simp only [hu, Value.cells] at hf
    rw [if_pos (by rw [hk]; simpa using hn)] at hf
    simp only [Option.map_eq_some_iff] at hf
    obtain ⟨ys, hy, -⟩ := hf
    rw [hc, show List.range 3 = [0, 1, 2] from rfl] at hy
    obtain ⟨l⟩ := xs
    match l, hn with
    | [x, y, z], _ =>
      simp only [List.mapM_cons, bind, Option.bind_eq_some_iff] at hy
      obtain ⟨u0, h0, _, ⟨u1, h1, _, ⟨u2, h2, _⟩, _⟩, _⟩ := hy
      obtain ⟨a, ha, -, -⟩ := DataW.trod_int he h0
      obtain ⟨b, hb, -, -⟩ := DataW.trod_int he h1
      obtain ⟨c, hc', -, -⟩ := DataW.trod_int he h2
      simp at ha hb hc'
      exact ⟨a, b, c, by rw [ha, hb, hc']⟩

/-- A slice of whole numbers, as the walks want it. -/
theorem open_nums {H : Type} {enc : TypeId × Value → H} {P : Program} {t e : TypeId} {k : IntKind} {W : World} {base : Nat} {held : Bool} (ht : P.underlying t = some (.slice e)) (he : P.underlying e = some (.int k)) (hc : P.cellsOf e = 1)
    {r : Reach} {b0 : Nat} {v : Value} (hval : Value.okWide P W r b0 t v) {d : DataW H} {ps : List MemPlace} (hd : DataW.Trod enc P W base (fun _ => true) held t v d ps) :
    ∃ (pa : Option Addr) (c : Nat) (xs : List Int), v = .slice pa xs.length c ∧ (xs.length : Int) ≤ maxLen ∧ (∀ x ∈ xs, (Lit.int k x).wf = true) ∧
      IntArg k W pa xs := by
  obtain ⟨fuel, hf⟩ := hd
  obtain ⟨a0, len, cap, rfl⟩ := okWide_slice ht hval
  rcases open_ints ht he hc hf with ⟨hcs, hx⟩ | ⟨a, len', cap', zs, hcs, _, hl, hm, hz, hx, hcell, hwz⟩
  · simp [Value.cells] at hcs
    obtain ⟨rfl, rfl, rfl⟩ := hcs
    exact ⟨none, 0, [], rfl, by unfold maxLen; simp, by simp, .inl rfl⟩
  · simp [Value.cells] at hcs
    obtain ⟨rfl, rfl, rfl⟩ := hcs
    simp only [if_true] at hz
    have hlen : (zs.take len).length = len := by simp; omega
    refine ⟨some a, cap, zs.take len, by rw [hlen], ?_, fun x hx => hwz x (List.mem_of_mem_take hx), ?_⟩
    · rw [hlen]
      omega
    by_cases h0 : len = 0
    · subst h0
      exact .inl rfl
    · right
      obtain ⟨b, off, spot⟩ := a
      have c0 := hcell 0 (by omega)
      have hspot : spot = none := by simpa [Addr.add] using World.cell?_spot c0
      subst hspot
      refine ⟨b, off, rfl, ?_, fun j x hj => ?_⟩
      · have := World.block_lt_of_cell? _ _ c0
        simpa [Addr.add] using this
      · have hj' := (List.getElem?_eq_some_iff.1 hj).1
        rw [hlen] at hj'
        rw [List.getElem?_take, if_pos hj'] at hj
        have hadd : (⟨b, off, none⟩ : Addr).add j = ⟨b, off + j, none⟩ := by unfold Addr.add; split <;> simp_all
        have := hcell j (by omega)
        rw [hadd] at this
        rw [this, List.getD_eq_getElem?_getD, hj]
        rfl
end Go.Proofs.YtcoiccbmcjdheaaGreat
