/- A part of the proof, several texts in one: Rules, Find, Purse. -/
import Derived.Test.YtmefjkggibbhoaaGreatmAI
import Derived.Test.YtmefjkggibbhoaaGreatmAF
import Derived.StillTailTactics
import Derived.Test.YtmefjkggibbhoaaGreatmAA
import Derived.Deep.DeepCutAuto
import Derived.Deep.CutBlock
import Derived.Test.YtmefjkggibbhoaaGreatmAO
import Derived.Test.YtmefjkggibbhoaaGreatmAN
/- purse.find: a thing of a kind. -/
namespace Go.Proofs.YtmefjkggibbhoaaGreat
open Go.RowKit Go.ChangeMaps Go.MapKept
open Go.Maps (Keyed)
variable {w : World} {p : Nat} {M : WM} {F : Nat → Prop}

theorem keyedKind : Keyed Tryz.prog 44 := Maps.int_keyed Tryz.underlying44
theorem key_kind {r : Int} (h : (Lit.int .u8 r).wf = true) : keyOf Tryz.prog 44 (.int .u8 r) = some (.int .u8 r) := Maps.keyOf_int_mk Tryz.underlying44 h

set_option maxRecDepth 8000 in
theorem rulesB_W (w : World) (k want : Int) (b : Nat) (hb : w.cell? ⟨b, 0, none⟩ = some (.int .u8 want)) :
    Calls Tryz.prog 108 #[.int .u8 k, .pointer (some ⟨b, 0, none⟩)] w fun e w' => e = .returned (.int .i64 (if k = want then 0 else 100)) ∧ w = w' := by
  by_cases h : k = want
  · subst h
    rw [if_pos rfl]
    go_enter Tryz.func108, Tryz.ntmps108
    go_wp2
    go_ret
    exact ⟨rfl, rfl⟩
  · rw [if_neg h]
    have hk : (k != want) = true := by simpa using h
    clear h
    go_enter Tryz.func108, Tryz.ntmps108
    go_wp2
    go_ret
    exact ⟨rfl, rfl⟩
set_option maxRecDepth 8000 in
theorem rulesA_W (w : World) (want : Int) : Calls Tryz.prog 107 #[.int .u8 want] w fun e w' => e = .returned (.func (.func 108) #[] #[.pointer (some ⟨w.heap.size, 0, none⟩)]) ∧ w' = w.alloc (.cells #[.int .u8 want] 44) := by
  go_enter Tryz.func107, Tryz.ntmps107
  go_wp2
  go_ret
  exact ⟨rfl, rfl⟩

def ruleV (b : Nat) : Value := .func (.func 108) #[] #[.pointer (some ⟨b, 0, none⟩)]
/-- The rules by their keys. -/
def ruleF (b8 b9 : Option Nat) (key : Value) : Option Value :=
  match key with
  | .int .u8 k => if k = 8 then b8.map ruleV else if k = 9 then b9.map ruleV else none
  | _ => none
/-- What rules hands back: a map with a rule for mints and one for purses. -/
def RulesAt (w : World) (b : Nat) (b8 b9 : Nat) : Prop :=
  w.cell? ⟨b8, 0, none⟩ = some (.int .u8 8) ∧ w.cell? ⟨b9, 0, none⟩ = some (.int .u8 9) ∧ ∃ n, HasMap Tryz.prog 44 w b (ruleF (some b8) (some b9)) n
theorem zeroRule (w : World) : (zeroValue 148).run Tryz.prog w = .ok .nilFunc w := by kernel_rfl
theorem RulesAt.below {b b8 b9 : Nat} {w w' : World} (h : RulesAt w b b8 b9) (hb : Below w.heap.size w w') : RulesAt w' b b8 b9 := by
  obtain ⟨h1, h2, n, h3⟩ := h
  exact ⟨(hb.cell (p := ⟨b8, 0, none⟩) (World.block_lt_of_cell? _ _ h1)).trans h1, (hb.cell (p := ⟨b9, 0, none⟩) (World.block_lt_of_cell? _ _ h2)).trans h2, n, h3.of_block (hb.block _ h3.lt)⟩
theorem RulesAt.look {b b8 b9 : Nat} {w : World} (h : RulesAt w b b8 b9) : (Instr.lookup 149 (.map (some b)) (.int .u8 8) false).run Tryz.prog w = .ok (ruleV b8) w ∧ (Instr.lookup 149 (.map (some b)) (.int .u8 9) false).run Tryz.prog w = .ok (ruleV b9) w := by
  obtain ⟨h1, h2, n, h3⟩ := h
  exact ⟨by rw [h3.look keyedKind Tryz.underlying149 (zeroRule w) (key_kind (r := 8) rfl)]; rfl, by rw [h3.look keyedKind Tryz.underlying149 (zeroRule w) (key_kind (r := 9) rfl)]; rfl⟩

def RulesPost (w : World) (e : Ending) (w' : World) : Prop := ∃ b b8 b9, e = .returned (.map (some b)) ∧ RulesAt w' b b8 b9 ∧ Below w.heap.size w w' ∧ w.heap.size ≤ b ∧ w.heap.size ≤ b8 ∧ w.heap.size ≤ b9

set_option maxRecDepth 8000 in
theorem rules_W (w : World) : Calls Tryz.prog 81 #[] w (RulesPost w) := by
  have hmm := @run_makeMap Tryz.prog
  have hm0 : HasMap Tryz.prog 44 ((w.alloc (.map #[] 0)).alloc (.cells #[.int .u8 8] 44)) w.heap.size (ruleF none none) 0 :=
    ((HasMap.made w Tryz.prog 44).of_block ((blk2_old w _ _).trans (blk_new w _).symm)).congr (fun key _ _ => by unfold ruleF; split <;> simp)
  obtain ⟨w2, hrun, hm2, ht2⟩ := hm0.store keyedKind Tryz.underlying149 (by decide) (key_kind (r := 8) rfl) (ruleV (w.heap.size + 1)) (g := ruleF (some (w.heap.size + 1)) none) rfl (fun x hx => by
    unfold ruleF
    split
    · rename_i k
      have : k ≠ 8 := fun e => hx (by rw [e])
      simp [this]
    · rfl)
  have hT2 := Turned.of ht2
  have hs2 : w2.heap.size = w.heap.size + 2 := by rw [hT2.1]; simp
  have hb2 : Below w.heap.size w w2 := (((Below.refl _ w).alloc (Nat.le_refl _) _).alloc (by simp) _).trans (Keeps.below hT2.2 (by simp; omega) (fun x hx => by omega))
  have h82 : w2.cell? ⟨w.heap.size + 1, 0, none⟩ = some (.int .u8 8) := by
    have := (hT2.block (c := w.heap.size + 1) (by omega)).trans (blk2_new w _ _)
    rw [cell_blk this]
    rfl
  have hm3 : HasMap Tryz.prog 44 (w2.alloc (.cells #[.int .u8 9] 44)) w.heap.size (ruleF (some (w.heap.size + 1)) none) _ := hm2.of_block (Below.heap_alloc w2 _ _ hm2.lt)
  obtain ⟨w4, hrun4, hm4, ht4⟩ := hm3.store keyedKind Tryz.underlying149 (by decide) (key_kind (r := 9) rfl) (ruleV w2.heap.size) (g := ruleF (some (w.heap.size + 1)) (some w2.heap.size)) rfl (fun x hx => by
    unfold ruleF
    split
    · rename_i k
      have : k ≠ 9 := fun e => hx (by rw [e])
      simp [this]
    · rfl)
  have hT4 := Turned.of ht4
  have h84 : w4.cell? ⟨w.heap.size + 1, 0, none⟩ = some (.int .u8 8) := by
    rw [World.cell?_of_block (hT4.block (c := w.heap.size + 1) (by omega))]
    exact cell_al h82 _
  have h94 : w4.cell? ⟨w2.heap.size, 0, none⟩ = some (.int .u8 9) := by
    rw [World.cell?_of_block (hT4.block (c := w2.heap.size) (by omega)), cell_blk (blk_new _ _)]
    rfl
  have hb4 : Below w.heap.size w w4 := (hb2.trans ((Below.refl _ w2).alloc (by omega) _)).trans (Keeps.below hT4.2 (by simp; omega) (fun x hx => by omega))
  have HF : Hid (RulesPost w (.returned (.map (some w.heap.size))) w4) := ⟨_, _, _, rfl, ⟨h84, h94, _, hm4⟩, hb4, Nat.le_refl _, by omega, by omega⟩
  unfold ruleV at hrun hrun4
  clear hm0 hm2 ht2 hT2 hs2 hb2 h82 hm3 hm4 ht4 hT4 h84 h94 hb4
  go_enter Tryz.func81, Tryz.ntmps81
  go_wp2_with fail
  refine (rulesA_W _ 8).mono ?_
  rintro e _ ⟨rfl, rfl⟩
  go_wp2_with fail
  refine (rulesA_W _ 9).mono ?_
  rintro e _ ⟨rfl, rfl⟩
  go_wp2_with fail
  go_ret
  exact HF.out
end Go.Proofs.YtmefjkggibbhoaaGreat
/- purse.find of a light thing: a What, and whether its kind is the one that is asked for. -/
namespace Go.Proofs.YtmefjkggibbhoaaGreat
open Go.RowKit Go.ChangeMaps Go.MapKept
variable {w : World} {p : Nat} {M : WM} {F : Nat → Prop}

/-- As the memory grows: block g alone may come to hold xs. -/
structure RG (g : Nat) (xs : Array Value) (w w' : World) : Prop where
  os : w'.os = w.os
  tape : w'.tape = w.tape
  output : w'.output = w.output
  size : w.heap.size ≤ w'.heap.size
  block : ∀ b, b < w.heap.size → b ≠ g → w'.heap[b]? = w.heap[b]?
  at_ : w'.heap[g]? = w.heap[g]? ∨ w'.heap[g]? = some (.cells xs 53 (0, 0))
theorem RG.of_below {g : Nat} {xs : Array Value} {w w' : World} (h : Below w.heap.size w w') (hg : g < w.heap.size) : RG g xs w w' := ⟨h.os, h.tape, h.output, h.size, fun b hb _ => h.block b hb, .inl (h.block g hg)⟩
theorem RG.trans {g : Nat} {xs : Array Value} {a b c : World} (h : RG g xs a b) (k : RG g xs b c) : RG g xs a c :=
  ⟨k.os.trans h.os, k.tape.trans h.tape, k.output.trans h.output, Nat.le_trans h.size k.size, fun x hx hg => (k.block x (Nat.lt_of_lt_of_le hx h.size) hg).trans (h.block x hx hg), by
    rcases k.at_ with e | e
    · rcases h.at_ with e' | e'
      · exact .inl (e.trans e')
      · exact .inr (e.trans e')
    · exact .inr e⟩

structure FC (w0 : World) (g6 g8 : Nat) (xs : Array Value) (w : World) : Prop where
  r : RG g6 xs w0 w
  hg6 : ∃ c, w.heap[g6]? = some (.cells c 53 (0, 0)) ∧ c.size = 16
  hg8 : w.heap[g8]? = some (.cells xs 53 (0, 0))
  lt : g6 < w0.heap.size

def FPhi (g6 g8 : Nat) (xs : Array Value) (k kd : Int) (i : Nat) (v : Value) (w : World) : Prop :=
  match i with
  | 0 => v = .agg xs
  | 1 => ∃ b b8 b9, v = .map (some b) ∧ RulesAt w b b8 b9 ∧ b ≠ g6 ∧ b8 ≠ g6 ∧ b9 ≠ g6
  | 2 => v = .int .u8 k
  | 3 => ∃ bb, v = ruleV bb ∧ w.cell? ⟨bb, 0, none⟩ = some (.int .u8 k) ∧ bb ≠ g6
  | 4 => v = .pointer (some ⟨g8, 0, none⟩)
  | 5 => v = .int .u8 kd
  | 6 => v = .int .i64 (if kd = k then 0 else 100)
  | 7 => w.heap[g6]? = some (.cells xs 53 (0, 0))
  | 8 => v = .int .i64 (if kd = k then 0 else 100)
  | _ => True

theorem RG.cell {g b : Nat} {xs : Array Value} {w w' : World} {v : Value} (h : RG g xs w w') (hb : b ≠ g) (hc : w.cell? ⟨b, 0, none⟩ = some v) : w'.cell? ⟨b, 0, none⟩ = some v :=
  (World.cell?_of_block (a := ⟨b, 0, none⟩) (h.block b (World.block_lt_of_cell? _ _ hc) hb)).trans hc
theorem FPhi.stab {g6 g8 : Nat} {xs : Array Value} {k kd : Int} : ∀ (i : Nat) (v : Value) (w w' : World), RG g6 xs w w' → FPhi g6 g8 xs k kd i v w → FPhi g6 g8 xs k kd i v w' := by
  intro i v w w' hR h
  unfold FPhi at h ⊢
  split at h
  · exact h
  · obtain ⟨b, b8, b9, h1, ⟨h2, h3, n, h4⟩, h5, h6, h7⟩ := h
    exact ⟨b, b8, b9, h1, ⟨hR.cell h6 h2, hR.cell h7 h3, n, h4.of_block (hR.block _ h4.lt h5)⟩, h5, h6, h7⟩
  · exact h
  · obtain ⟨bb, h1, h2, h3⟩ := h
    exact ⟨bb, h1, hR.cell h3 h2, h3⟩
  · exact h
  · exact h
  · exact h
  · rcases hR.at_ with e | e
    · rw [e, h]
    · exact e
  · exact h
  · trivial

theorem FC.next {w0 w w' : World} {g6 g8 : Nat} {xs : Array Value} (hxs : xs.size = 16) (hne : g8 ≠ g6) (h : FC w0 g6 g8 xs w) (hR : RG g6 xs w w') : FC w0 g6 g8 xs w' where
  r := h.r.trans hR
  hg6 := by
    rcases hR.at_ with e | e
    · rw [e]; exact h.hg6
    · exact ⟨xs, e, hxs⟩
  hg8 := (hR.block _ (blk_lt h.hg8) hne).trans h.hg8
  lt := h.lt

theorem step_val {P : Program} {Q : Exit → Act → World → Prop} {R : World → World → Prop} {Φ : Value → World → Prop} {o : Oper} {a : Act} {w : World} (v : Value) (hrun : (execOp a.eval o).run P w = .ok (.value v) w) (hR : R w w) (hφ : Φ (o.dst.elim undef fun _ => v) w) :
    o.wp P a w (fun a' w' => ∃ v, a' = a.put o.dst v ∧ R w w' ∧ Φ (o.dst.elim undef fun _ => v) w' ∧ (false = true → o.dst.isSome = true ∧ ∃ b, blkOf v = some b ∧ w.heap.size ≤ b ∧ b < w'.heap.size)) Q := by
  unfold Oper.wp
  rw [hrun]
  exact ⟨v, rfl, hR, hφ, fun h => by cases h⟩
theorem RG.refl (g : Nat) (xs : Array Value) (w : World) : RG g xs w w := ⟨rfl, rfl, rfl, Nat.le_refl _, fun _ _ _ => rfl, .inl rfl⟩

set_option maxHeartbeats 2000000 in
set_option maxRecDepth 20000 in
theorem find_lt (hW : IsW w p M F) {r k h vk vn n l tg bi s q : Int} {fu : Bool} (hr : (Lit.int .i64 r).wf = true) (ht : M.at r = some (lt k h vk vn n l tg bi s fu)) (hp : Plain vk vn) (hq : q = 8 ∨ q = 9) :
    Calls Tryz.prog 59 #[.pointer (some ⟨p, 0, none⟩), .int .i64 r, .int .u8 q] w fun e w' => e = .returned (.tuple #[.agg #[.int .u8 k, .int .i64 h, .int .u8 vk, .int .i64 vn, .string ⟨#[]⟩, .slice none 0 0, .int .i64 0, .slice none 0 0, .int .i64 n, .int .i64 l, .int .i64 tg, .int .i64 bi, .int .u8 s, .bool fu, .slice none 0 0, .slice none 0 0], .int .i64 (if k = q then 0 else 100)]) ∧ Below w.heap.size w w' := by
  have hWh := fun w' (hb : Below w.heap.size w w') => What_lt (hW.below hb) hr ht hp
  have HWh := (show Hid _ from hWh)
  clear hWh hW ht
  obtain ⟨xs, hxs⟩ : ∃ xs : Array Value, xs = #[.int .u8 k, .int .i64 h, .int .u8 vk, .int .i64 vn, .string ⟨#[]⟩, .slice none 0 0, .int .i64 0, .slice none 0 0, .int .i64 n, .int .i64 l, .int .i64 tg, .int .i64 bi, .int .u8 s, .bool fu, .slice none 0 0, .slice none 0 0] := ⟨_, rfl⟩
  rw [← hxs] at HWh ⊢
  have Hsz : Hid (xs.size = 16) := by show xs.size = 16; rw [hxs]; rfl
  have Hone : Hid (xs.all (·.oneCell') = true) := by show _ = true; rw [hxs]; simp [go_sem]
  have H0 : Hid (xs[0]? = some (.int .u8 k)) := by show _ = _; rw [hxs]; rfl
  clear hxs
  go_enter Tryz.func59, Tryz.ntmps59
  go_wp2_with fail
  refine Calls.mono (HWh.out _ ((Below.refl _ _).alloc (Nat.le_refl _) _)) ?_
  rintro e w1 ⟨rfl, hb1⟩
  have hst := storeWhat_blk (c' := xs) (blk_new w1 (.cells #[.int .u8 0, .int .i64 0, .int .u8 0, .int .i64 0, .string ⟨#[]⟩, .slice none 0 0, .int .i64 0, .slice none 0 0, .int .i64 0, .int .i64 0, .int .i64 0, .int .i64 0, .int .u8 0, .bool false, .slice none 0 0, .slice none 0 0] 53)) rfl Hsz.out Hone.out
  have H8 := (show Hid _ from heap_setRow_at (c' := xs) (blk_new w1 (.cells #[.int .u8 0, .int .i64 0, .int .u8 0, .int .i64 0, .string ⟨#[]⟩, .slice none 0 0, .int .i64 0, .slice none 0 0, .int .i64 0, .int .i64 0, .int .i64 0, .int .i64 0, .int .u8 0, .bool false, .slice none 0 0, .slice none 0 0] 53)))
  have hb6 : Below w.heap.size w ((w1.alloc (.cells #[.int .u8 0, .int .i64 0, .int .u8 0, .int .i64 0, .string ⟨#[]⟩, .slice none 0 0, .int .i64 0, .slice none 0 0, .int .i64 0, .int .i64 0, .int .i64 0, .int .i64 0, .int .u8 0, .bool false, .slice none 0 0, .slice none 0 0] 53)).setRow w1.heap.size xs) :=
    Below.setRow ((((Below.refl _ _).alloc (Nat.le_refl _) _).trans (hb1.mono (by simp))).alloc (by have := hb1.size; simp at this; omega) _) (by have := hb1.size; simp at this; omega) _
  have H6 : Hid (((w1.alloc (.cells #[.int .u8 0, .int .i64 0, .int .u8 0, .int .i64 0, .string ⟨#[]⟩, .slice none 0 0, .int .i64 0, .slice none 0 0, .int .i64 0, .int .i64 0, .int .i64 0, .int .i64 0, .int .u8 0, .bool false, .slice none 0 0, .slice none 0 0] 53)).setRow w1.heap.size xs).heap[w.heap.size]? = some (.cells #[.int .u8 0, .int .i64 0, .int .u8 0, .int .i64 0, .string ⟨#[]⟩, .slice none 0 0, .int .i64 0, .slice none 0 0, .int .i64 0, .int .i64 0, .int .i64 0, .int .i64 0, .int .u8 0, .bool false, .slice none 0 0, .slice none 0 0] 53 (0, 0))) := by
    have h1 := below_blk hb1 (blk_new w (.cells #[.int .u8 0, .int .i64 0, .int .u8 0, .int .i64 0, .string ⟨#[]⟩, .slice none 0 0, .int .i64 0, .slice none 0 0, .int .i64 0, .int .i64 0, .int .i64 0, .int .i64 0, .int .u8 0, .bool false, .slice none 0 0, .slice none 0 0] 53))
    have h2 := blk_lt h1
    exact (heap_setRow_other _ _ _ _ (by omega)).trans (blk_old w1 _ h1)
  have HB6 := (show Hid _ from hb6)
  have hlt : w.heap.size < w1.heap.size := by have := hb1.size; simp at this; omega
  clear hb1 hb6
  go_upto_region 6 with fail
  clear hst
  revert H8 H6 HB6 hlt
  generalize (w1.alloc _).setRow _ _ = w6
  generalize w1.heap.size = g8
  generalize hg6 : w.heap.size = g6
  intro H8 H6 HB6 hlt
  refine wp_region_grow (by kernel_rfl) (by kernel_rfl) (RG g6 xs) (FPhi g6 g8 xs q k) (fun _ => false) (FC w6.drew g6 g8 xs) (fun j v w w' => FPhi.stab j v w w') (fun w w' h => h.size) ?_ (fun w w' h hR => h.next Hsz.out (by omega) hR) ?_ ?_
  · exact ⟨RG.refl _ _ _, ⟨_, H6.out, rfl⟩, H8.out, by have := HB6.out.size; have := blk_lt H6.out; exact this⟩
  · intro i o a w7 ho hC hG
    have hi : i < 9 := (List.getElem?_eq_some_iff.1 ho).1
    have hg6lt : g6 < w7.heap.size := by
      obtain ⟨c, hc, -⟩ := hC.hg6
      exact blk_lt hc
    match i, hi with
    | 0, _ =>
      cases ho
      have h8 : a.tmps.getD 8 undef = .pointer (some ⟨g8, 0, none⟩) := hG.fr 8 (by simp)
      refine step_val (.agg xs) ?_ (RG.refl _ _ _) rfl
      rw [execOp_ldW]
      show (ldW (a.tmps.getD 8 undef)).run _ _ = _
      rw [h8]
      exact loadWhat_blk hC.hg8 Hsz.out
    | 1, _ =>
      cases ho
      unfold Oper.wp
      simp [go_sem, callFunc, Tryz.func81]
      refine (rules_W w7).mono ?_
      rintro e w8 ⟨b, b8, b9, rfl, hru, hb, h1, h2, h3⟩
      exact ⟨_, rfl, RG.of_below hb hg6lt, ⟨b, b8, b9, rfl, hru, by omega, by omega, by omega⟩⟩
    | 2, _ =>
      cases ho
      have h2 : a.tmps.getD 2 undef = .int .u8 q := hG.fr 2 (by simp)
      exact step_val (.int .u8 q) (by rw [← h2]; rfl) (RG.refl _ _ _) rfl
    | 3, _ =>
      cases ho
      obtain ⟨b, b8, b9, h24, hru, n1, n2, n3⟩ := hG.dep ⟨1, .data⟩ (by simp) rfl _ rfl
      have h24 : a.tmps.getD 24 undef = .map (some b) := h24
      have h25 : a.tmps.getD 25 undef = .int .u8 q := hG.dep ⟨2, .data⟩ (by simp) rfl _ rfl
      obtain ⟨l8, l9⟩ := hru.look
      rcases hq with rfl | rfl
      · refine step_val (ruleV b8) ?_ (RG.refl _ _ _) ⟨b8, rfl, hru.1, n2⟩
        show ((Instr.lookup 149 (a.tmps.getD 24 undef) (a.tmps.getD 25 undef) false) >>= fun v => pure (Next.value v) : Sem Next).run Tryz.prog w7 = _
        rw [h24, h25]
        simp only [Sem.run_bind, l8, Result.andThen, Sem.run_pure]
      · refine step_val (ruleV b9) ?_ (RG.refl _ _ _) ⟨b9, rfl, hru.2.1, n3⟩
        show ((Instr.lookup 149 (a.tmps.getD 24 undef) (a.tmps.getD 25 undef) false) >>= fun v => pure (Next.value v) : Sem Next).run Tryz.prog w7 = _
        rw [h24, h25]
        simp only [Sem.run_bind, l9, Result.andThen, Sem.run_pure]
    | 4, _ =>
      cases ho
      have h8 : a.tmps.getD 8 undef = .pointer (some ⟨g8, 0, none⟩) := hG.fr 8 (by simp)
      exact step_val (.pointer (some ⟨g8, 0, none⟩)) (by simp [execOp, go_sem, Act.eval, h8]) (RG.refl _ _ _) rfl
    | 5, _ =>
      cases ho
      have h27 : a.tmps.getD 27 undef = .pointer (some ⟨g8, 0, none⟩) := hG.dep ⟨4, .data⟩ (by simp) rfl _ rfl
      have hc : w7.cell? ⟨g8, 0, none⟩ = some (.int .u8 k) := by rw [cell_blk hC.hg8]; exact H0.out
      exact step_val (.int .u8 k) (by simp [execOp, go_sem, Act.eval, h27, hc]) (RG.refl _ _ _) rfl
    | 6, _ =>
      cases ho
      obtain ⟨bb, h26, hcb, hbb⟩ := hG.dep ⟨3, .data⟩ (by simp) rfl _ rfl
      have h26 : a.tmps.getD 26 undef = .func (.func 108) #[] #[.pointer (some ⟨bb, 0, none⟩)] := h26
      have h28 : a.tmps.getD 28 undef = .int .u8 k := hG.dep ⟨5, .data⟩ (by simp) rfl _ rfl
      unfold Oper.wp
      simp [go_sem, callFunc, Act.eval, Tryz.func108, h26, h28]
      refine (rulesB_W w7 k q bb hcb).mono ?_
      rintro e _ ⟨rfl, rfl⟩
      exact ⟨_, rfl, RG.refl _ _ _, rfl⟩
    | 7, _ =>
      cases ho
      have h6 : a.tmps.getD 6 undef = .pointer (some ⟨g6, 0, none⟩) := hG.fr 6 (by simp)
      have h23 : a.tmps.getD 23 undef = .agg xs := hG.dep ⟨0, .data⟩ (by simp) rfl _ rfl
      obtain ⟨c, hc, hcs⟩ := hC.hg6
      have hrun := storeWhat_blk hc hcs Hsz.out Hone.out
      unfold Oper.wp
      rw [execOp_stW]
      show Oper.upon _ _ _ _ _ ((stW (a.tmps.getD 6 undef) (a.tmps.getD 23 undef)).run Tryz.prog w7)
      rw [h6, h23, hrun]
      exact ⟨undef, rfl, ⟨rfl, rfl, rfl, by simp [World.setRow], fun b _ hb => heap_setRow_other _ _ _ _ hb, .inr (heap_setRow_at hc)⟩, heap_setRow_at hc, fun h => by cases h⟩
    | 8, _ =>
      cases ho
      have h29 : a.tmps.getD 29 undef = .int .i64 (if k = q then 0 else 100) := hG.dep ⟨6, .data⟩ (by simp) rfl _ rfl
      exact step_val (.int .i64 (if k = q then 0 else 100)) (by rw [← h29]; rfl) (RG.refl _ _ _) rfl
  · intro a w7 hC hdf hsz hfr hphi hne
    have h6 : a.tmps.getD 6 undef = .pointer (some ⟨g6, 0, none⟩) := hfr 6 (by simp)
    have h7 : a.tmps.getD 7 undef = .int .i64 (if k = q then 0 else 100) := hphi 8 _ rfl
    have hg : w7.heap[g6]? = some (.cells xs 53 (0, 0)) := hphi 7 _ rfl
    refine ‹∀ (a : Act) (w : World), Code.wp Tryz.prog Code.ret _ a w → _› a w7 ?_
    have hres := results_What2 (fn := Tryz.f59) (q := 6) (x := 7) rfl a.tmps w7 g6 xs (0, 0) h6 hg Hsz.out
    rw [h7] at hres
    refine wp_ret (bodyPost_ret hres hdf ⟨rfl, ?_⟩)
    subst hg6
    exact ⟨hC.r.os.trans HB6.out.os, hC.r.tape.trans HB6.out.tape, hC.r.output.trans HB6.out.output, Nat.le_trans HB6.out.size hC.r.size, fun b hb => (hC.r.block b (Nat.lt_of_lt_of_le hb HB6.out.size) (by omega)).trans (HB6.out.block b hb)⟩
end Go.Proofs.YtmefjkggibbhoaaGreat
/- Mint, Get, Ask, Take, Move, Of: money. -/
namespace Go.Proofs.YtmefjkggibbhoaaGreat
open Go.RowKit Go.ChangeMaps Go.MapKept
variable {w : World} {p : Nat} {M : WM} {F : Nat → Prop}

/-- A mint of n, a purse of n. -/
abbrev mintT (h n lo : Int) : Th := lt 8 h 0 0 n lo 0 0 0 false
abbrev purseT (h n m : Int) : Th := lt 9 h 0 0 n 0 m 0 0 false

/-- A What that is put into a block of the call's own. -/
theorem boxed_what (w1 : World) (xs : Array Value) (hs : xs.size = 16) (h1 : xs.all (·.oneCell') = true) :
    (stW (.pointer (some ⟨w1.heap.size, 0, none⟩)) (.agg xs)).run Tryz.prog (w1.alloc (.cells #[.int .u8 0, .int .i64 0, .int .u8 0, .int .i64 0, .string ⟨#[]⟩, .slice none 0 0, .int .i64 0, .slice none 0 0, .int .i64 0, .int .i64 0, .int .i64 0, .int .i64 0, .int .u8 0, .bool false, .slice none 0 0, .slice none 0 0] 53)) = .ok .skip ((w1.alloc (.cells #[.int .u8 0, .int .i64 0, .int .u8 0, .int .i64 0, .string ⟨#[]⟩, .slice none 0 0, .int .i64 0, .slice none 0 0, .int .i64 0, .int .i64 0, .int .i64 0, .int .i64 0, .int .u8 0, .bool false, .slice none 0 0, .slice none 0 0] 53)).setRow w1.heap.size xs) ∧
    Below w1.heap.size w1 ((w1.alloc (.cells #[.int .u8 0, .int .i64 0, .int .u8 0, .int .i64 0, .string ⟨#[]⟩, .slice none 0 0, .int .i64 0, .slice none 0 0, .int .i64 0, .int .i64 0, .int .i64 0, .int .i64 0, .int .u8 0, .bool false, .slice none 0 0, .slice none 0 0] 53)).setRow w1.heap.size xs) ∧
    ((w1.alloc (.cells #[.int .u8 0, .int .i64 0, .int .u8 0, .int .i64 0, .string ⟨#[]⟩, .slice none 0 0, .int .i64 0, .slice none 0 0, .int .i64 0, .int .i64 0, .int .i64 0, .int .i64 0, .int .u8 0, .bool false, .slice none 0 0, .slice none 0 0] 53)).setRow w1.heap.size xs).heap[w1.heap.size]? = some (.cells xs 53 (0, 0)) :=
  ⟨storeWhat_blk (blk_new w1 _) rfl hs h1, Below.setRow ((Below.refl _ _).alloc (Nat.le_refl _) _) (Nat.le_refl _) _, heap_setRow_at (blk_new w1 _)⟩

set_option maxRecDepth 8000 in
theorem Get_W (hW : IsW w p M F) {r h n m : Int} (hr : (Lit.int .i64 r).wf = true) (ht : M.at r = some (purseT h n m)) :
    Calls Tryz.prog 30 #[.pointer (some ⟨p, 0, none⟩), .int .i64 r] w fun e w' => e = .returned (.tuple #[.int .i64 n, .int .i64 0]) ∧ Below w.heap.size w w' := by
  have hf := find_lt hW (q := 9) hr ht plain0 (.inr rfl)
  rw [if_pos rfl] at hf
  have HF := (show Hid _ from hf)
  clear hf hW ht
  go_enter Tryz.func30, Tryz.ntmps30
  go_wp2_with fail
  refine Calls.mono HF.out ?_
  rintro e w1 ⟨rfl, hb1⟩
  obtain ⟨hst, hb2, hg2⟩ := boxed_what w1 #[.int .u8 9, .int .i64 h, .int .u8 0, .int .i64 0, .string ⟨#[]⟩, .slice none 0 0, .int .i64 0, .slice none 0 0, .int .i64 n, .int .i64 0, .int .i64 m, .int .i64 0, .int .u8 0, .bool false, .slice none 0 0, .slice none 0 0] rfl (by simp [go_sem])
  have HB2 := (show Hid (Below w.heap.size w _) from hb1.trans (hb2.mono hb1.size))
  have HG2 := (show Hid _ from hg2)
  clear hb1 hb2 hg2
  go_upto_region 2 with fail
  clear hst
  revert HB2 HG2
  generalize (w1.alloc _).setRow _ _ = w2
  generalize w1.heap.size = g
  intro HB2 HG2
  have c8 : w2.cell? ⟨g, 8, none⟩ = some (.int .i64 n) := by rw [cell_blk HG2.out]; rfl
  go_wp2_with fail
  go_ret2
  exact ⟨rfl, HB2.out⟩

theorem Grew.then_keeps {F F' : Nat → Prop} {a b c : World} (h : Grew F a F' b) (k : Keeps F' b c) : Grew F a F' c := by
  obtain ⟨h1, h2⟩ := h
  refine ⟨⟨k.os.trans h1.os, k.tape.trans h1.tape, k.output.trans h1.output, Nat.le_trans h1.size k.size, fun x hx hF => (k.block x (Nat.lt_of_lt_of_le hx h1.size) (fun e => ?_)).trans (h1.block x hx hF)⟩, h2⟩
  rcases h2 x e with h | h
  · exact hF h
  · omega
theorem Grew.of_below {F F' : Nat → Prop} {a b c : World} (h : Below a.heap.size a b) (k : Grew F b F' c) : Grew F a F' c := by
  refine ⟨Below.keeps h k.1, fun x hx => ?_⟩
  rcases k.2 x hx with h' | h'
  · exact .inl h'
  · exact .inr (Nat.le_trans h.size h')

/-- What Ask leaves. -/
def AskPost (w : World) (p : Nat) (M : WM) (F : Nat → Prop) (mi h N lo n : Int) (e : Ending) (w' : World) : Prop :=
  (n < 0 ∧ e = .returned (.tuple #[.int .i64 0, .int .i64 2]) ∧ Below w.heap.size w w') ∨
  ((0 ≤ n ∧ 9007199254740992 - N < n) ∧ e = .returned (.tuple #[.int .i64 0, .int .i64 8]) ∧ Below w.heap.size w w') ∨
  ((0 ≤ n ∧ n ≤ 9007199254740992 - N) ∧ ¬ M.made.getD h.toNat 0 < 512 ∧ e = .returned (.tuple #[.int .i64 0, .int .i64 8]) ∧ Below w.heap.size w w') ∨
  ((0 ≤ n ∧ n ≤ 9007199254740992 - N) ∧ M.made.getD h.toNat 0 < 512 ∧ e = .returned (.tuple #[.int .i64 (M.last + 1), .int .i64 0]) ∧ ∃ F', IsW w' p ((M.add (purseT h n mi)).set mi (mintT h (N + n) lo)) F' ∧ Grew F w F' w')
/-- What Take leaves. -/
def TakePost (w : World) (p : Nat) (M : WM) (F : Nat → Prop) (r h N mi n : Int) (e : Ending) (w' : World) : Prop :=
  (n < 0 ∧ e = .returned (.tuple #[.int .i64 0, .int .i64 2]) ∧ Below w.heap.size w w') ∨
  ((0 ≤ n ∧ N < n) ∧ e = .returned (.tuple #[.int .i64 0, .int .i64 81]) ∧ Below w.heap.size w w') ∨
  ((0 ≤ n ∧ n ≤ N) ∧ ¬ M.made.getD h.toNat 0 < 512 ∧ e = .returned (.tuple #[.int .i64 0, .int .i64 8]) ∧ Below w.heap.size w w') ∨
  ((0 ≤ n ∧ n ≤ N) ∧ M.made.getD h.toNat 0 < 512 ∧ e = .returned (.tuple #[.int .i64 (M.last + 1), .int .i64 0]) ∧ ∃ F', IsW w' p ((M.add (purseT h n mi)).set r (purseT h (N - n) mi)) F' ∧ Grew F w F' w')

set_option maxHeartbeats 1000000 in
set_option maxRecDepth 8000 in
theorem Ask_W (hW : IsW w p M F) {r h N lo n : Int} (hr : (Lit.int .i64 r).wf = true) (hl : M.last + 1 ≤ 1099511627776) (home : 0 ≤ h ∧ h < M.made.length) (ht : M.at r = some (mintT h N lo)) (hN : 0 ≤ N ∧ N ≤ 9007199254740992) (hlo : 0 ≤ lo ∧ lo ≤ N) :
    Calls Tryz.prog 24 #[.pointer (some ⟨p, 0, none⟩), .int .i64 r, .int .i64 n] w (AskPost w p M F r h N lo n) := by
  have hf := find_lt hW (q := 8) hr ht plain0 (.inl rfl)
  rw [if_pos rfl] at hf
  have HF := (show Hid _ from hf)
  have HW := (show Hid (IsW w p M F) from hW)
  have Ht := (show Hid (M.at r = some _) from ht)
  have Hlo := (show Hid (0 ≤ lo ∧ lo ≤ N) from hlo)
  have Hl := (show Hid (M.last + 1 ≤ 1099511627776) from hl)
  have Hhome := (show Hid (0 ≤ h ∧ h < M.made.length) from home)
  obtain ⟨hN0, hN1⟩ := hN
  clear hf hW ht hlo hl home
  go_enter Tryz.func24, Tryz.ntmps24
  go_wp2_with fail
  refine Calls.mono HF.out ?_
  rintro e w1 ⟨rfl, hb1⟩
  obtain ⟨hst, hb2, hg2⟩ := boxed_what w1 #[.int .u8 8, .int .i64 h, .int .u8 0, .int .i64 0, .string ⟨#[]⟩, .slice none 0 0, .int .i64 0, .slice none 0 0, .int .i64 N, .int .i64 lo, .int .i64 0, .int .i64 0, .int .u8 0, .bool false, .slice none 0 0, .slice none 0 0] rfl (by simp [go_sem])
  have HB2 := (show Hid (Below w.heap.size w _) from hb1.trans (hb2.mono hb1.size))
  have HG2 := (show Hid _ from hg2)
  have hgw : w.heap.size ≤ w1.heap.size := hb1.size
  clear hb1 hb2 hg2
  go_upto_region 2 with fail
  clear hst
  revert HB2 HG2 hgw
  generalize (w1.alloc _).setRow _ _ = w2
  generalize w1.heap.size = g
  intro HB2 HG2 hgw
  have c1 : w2.cell? ⟨g, 1, none⟩ = some (.int .i64 h) := by rw [cell_blk HG2.out]; rfl
  have c8 : w2.cell? ⟨g, 8, none⟩ = some (.int .i64 N) := by rw [cell_blk HG2.out]; rfl
  have c10 : w2.cell? ⟨g, 10, none⟩ = some (.int .i64 0) := by rw [cell_blk HG2.out]; rfl
  have HGF : Hid (¬ F g ∧ g < w2.heap.size) := ⟨fun e => by have := HW.out.lt g e; omega, blk_lt HG2.out⟩
  have HW2 := (show Hid (IsW w2 p M F) from HW.out.below HB2.out)
  have Hgw := (show Hid (w.heap.size ≤ g) from hgw)
  clear hgw
  by_cases h0 : n < 0
  · go_wp2_with fail
    go_ret2
    exact .inl ⟨h0, rfl, HB2.out⟩
  · have hn0 : 0 ≤ n := by omega
    by_cases h1 : (9007199254740992 - N) < n
    · go_wp2_with fail
      go_ret2
      exact .inr (.inl ⟨⟨hn0, h1⟩, rfl, HB2.out⟩)
    · have hn1 : n ≤ (9007199254740992 - N) := by omega
      have hmk := Make_9 HW2.out Hl.out Hhome.out (n := n) (tg := r) ⟨hn0, by omega⟩ hr Ht.out rfl rfl
      have HMK := (show Hid _ from hmk)
      clear hmk
      go_wp2_with fail
      refine Calls.mono HMK.out ?_
      rintro e w5 (⟨hroom, rfl, F5, hW5, hG5⟩ | ⟨hroom, rfl, hb5⟩)
      · rw [makeM, if_neg (by simp)] at hW5
        have hnF5 : ¬ F5 g := fun e => by
          rcases hG5.2 g e with h | h
          · exact HGF.out.1 h
          · have := HGF.out.2; omega
        have hg5 := (hG5.1.block g HGF.out.2 HGF.out.1).trans HG2.out
        have HG5 := (show Hid _ from hg5)
        have d8 : w5.cell? ⟨g, 8, none⟩ = some (.int .i64 N) := by rw [cell_blk hg5]; rfl
        have f8 : w5.frozen? ⟨g, 8, none⟩ = false := frozen_blk hg5 8
        have hg6 : (w5.setCell ⟨g, 8, none⟩ (.int .i64 (N + n))).heap[g]? = some (.cells #[.int .u8 8, .int .i64 h, .int .u8 0, .int .i64 0, .string ⟨#[]⟩, .slice none 0 0, .int .i64 0, .slice none 0 0, .int .i64 (N + n), .int .i64 lo, .int .i64 0, .int .i64 0, .int .u8 0, .bool false, .slice none 0 0, .slice none 0 0] 53 (0, 0)) := blk_setCell hg5 8 _
        have hld := loadWhat_blk hg6 rfl
        have hk6 : Keeps (fun b => b = g) w5 (w5.setCell ⟨g, 8, none⟩ (.int .i64 (N + n))) := Keeps.setCell w5 _ _ rfl
        have hW6 := hW5.keeps hk6 (fun b hb e => hnF5 (e ▸ hb))
        have Hml : Hid ((M.add (purseT h n r)).made.length = M.made.length) := made_len M _
        have hlay := Lay_lt hW6 (r := r) (n' := N + n) (vk' := 0) (vn' := 0) hr (WM.add_at_old HW2.out.ok _ Ht.out) plain0 (fun w hW => form_8 hW h (N + n) lo (sideB_iff.2 (by rw [Hml.out]; exact Hhome.out)) (by have := hn0; have := hn1; omega) (by have := Hlo.out; have := hn0; omega))
        have HLAY := (show Hid _ from hlay)
        have HG6 : Hid (Grew F w F5 (w5.setCell ⟨g, 8, none⟩ (.int .i64 (N + n)))) := by
          have h1 : Grew F w F5 w5 := Grew.of_below HB2.out hG5
          refine ⟨⟨h1.1.os, h1.1.tape, h1.1.output, Nat.le_trans h1.1.size hk6.size, fun b hb hF => (hk6.block b (Nat.lt_of_lt_of_le hb h1.1.size) ?_).trans (h1.1.block b hb hF)⟩, h1.2⟩
          rintro rfl
          have := HB2.out.size
          exact absurd hb (by have := HGF.out.2; have := Hgw.out; omega)
        clear hG5 hW5 hg5 hg6 hk6 hW6 hlay hnF5
        go_wp2_with fail
        refine Calls.mono HLAY.out ?_
        rintro e w7 ⟨rfl, hW7, hk7⟩
        have HF7 : Hid (∃ F', IsW w7 p ((M.add (purseT h n r)).set r (mintT h (N + n) lo)) F' ∧ Grew F w F' w7) := ⟨F5, hW7, HG6.out.then_keeps hk7⟩
        clear hW7 hk7 hld d8 f8
        go_wp2_with fail
        go_ret2
        exact .inr (.inr (.inr ⟨⟨hn0, hn1⟩, hroom, rfl, HF7.out⟩))
      · have HB5 := (show Hid (Below w.heap.size w w5) from HB2.out.trans (hb5.mono HB2.out.size))
        clear hb5
        go_wp2_with fail
        go_ret2
        exact .inr (.inr (.inl ⟨⟨hn0, hn1⟩, by omega, rfl, HB5.out⟩))

set_option maxHeartbeats 1000000 in
set_option maxRecDepth 8000 in
theorem Take_W (hW : IsW w p M F) {r h N mi Nm lo n : Int} (hr : (Lit.int .i64 r).wf = true) (hl : M.last + 1 ≤ 1099511627776) (home : 0 ≤ h ∧ h < M.made.length) (ht : M.at r = some (purseT h N mi)) (hmi : M.at mi = some (mintT h Nm lo)) (hN : 0 ≤ N ∧ N ≤ 9007199254740992) :
    Calls Tryz.prog 25 #[.pointer (some ⟨p, 0, none⟩), .int .i64 r, .int .i64 n] w (TakePost w p M F r h N mi n) := by
  have hf := find_lt hW (q := 9) hr ht plain0 (.inr rfl)
  rw [if_pos rfl] at hf
  have HF := (show Hid _ from hf)
  have HW := (show Hid (IsW w p M F) from hW)
  have Ht := (show Hid (M.at r = some _) from ht)
  have Hmi := (show Hid (M.at mi = some (mintT h Nm lo)) from hmi)
  have Hl := (show Hid (M.last + 1 ≤ 1099511627776) from hl)
  have Hhome := (show Hid (0 ≤ h ∧ h < M.made.length) from home)
  obtain ⟨hN0, hN1⟩ := hN
  clear hf hW ht hmi hl home
  go_enter Tryz.func25, Tryz.ntmps25
  go_wp2_with fail
  refine Calls.mono HF.out ?_
  rintro e w1 ⟨rfl, hb1⟩
  obtain ⟨hst, hb2, hg2⟩ := boxed_what w1 #[.int .u8 9, .int .i64 h, .int .u8 0, .int .i64 0, .string ⟨#[]⟩, .slice none 0 0, .int .i64 0, .slice none 0 0, .int .i64 N, .int .i64 0, .int .i64 mi, .int .i64 0, .int .u8 0, .bool false, .slice none 0 0, .slice none 0 0] rfl (by simp [go_sem])
  have HB2 := (show Hid (Below w.heap.size w _) from hb1.trans (hb2.mono hb1.size))
  have HG2 := (show Hid _ from hg2)
  have hgw : w.heap.size ≤ w1.heap.size := hb1.size
  clear hb1 hb2 hg2
  go_upto_region 2 with fail
  clear hst
  revert HB2 HG2 hgw
  generalize (w1.alloc _).setRow _ _ = w2
  generalize w1.heap.size = g
  intro HB2 HG2 hgw
  have c1 : w2.cell? ⟨g, 1, none⟩ = some (.int .i64 h) := by rw [cell_blk HG2.out]; rfl
  have c8 : w2.cell? ⟨g, 8, none⟩ = some (.int .i64 N) := by rw [cell_blk HG2.out]; rfl
  have c10 : w2.cell? ⟨g, 10, none⟩ = some (.int .i64 mi) := by rw [cell_blk HG2.out]; rfl
  have HGF : Hid (¬ F g ∧ g < w2.heap.size) := ⟨fun e => by have := HW.out.lt g e; omega, blk_lt HG2.out⟩
  have HW2 := (show Hid (IsW w2 p M F) from HW.out.below HB2.out)
  have Hgw := (show Hid (w.heap.size ≤ g) from hgw)
  clear hgw
  by_cases h0 : n < 0
  · go_wp2_with fail
    go_ret2
    exact .inl ⟨h0, rfl, HB2.out⟩
  · have hn0 : 0 ≤ n := by omega
    by_cases h1 : N < n
    · go_wp2_with fail
      go_ret2
      exact .inr (.inl ⟨⟨hn0, h1⟩, rfl, HB2.out⟩)
    · have hn1 : n ≤ N := by omega
      have hmk := Make_9 HW2.out Hl.out Hhome.out (n := n) (tg := mi) ⟨hn0, by omega⟩ (HW2.out.ok.at_wf Hmi.out) Hmi.out rfl rfl
      have HMK := (show Hid _ from hmk)
      clear hmk
      go_wp2_with fail
      refine Calls.mono HMK.out ?_
      rintro e w5 (⟨hroom, rfl, F5, hW5, hG5⟩ | ⟨hroom, rfl, hb5⟩)
      · rw [makeM, if_neg (by simp)] at hW5
        have hnF5 : ¬ F5 g := fun e => by
          rcases hG5.2 g e with h | h
          · exact HGF.out.1 h
          · have := HGF.out.2; omega
        have hg5 := (hG5.1.block g HGF.out.2 HGF.out.1).trans HG2.out
        have HG5 := (show Hid _ from hg5)
        have d8 : w5.cell? ⟨g, 8, none⟩ = some (.int .i64 N) := by rw [cell_blk hg5]; rfl
        have f8 : w5.frozen? ⟨g, 8, none⟩ = false := frozen_blk hg5 8
        have hg6 : (w5.setCell ⟨g, 8, none⟩ (.int .i64 (N - n))).heap[g]? = some (.cells #[.int .u8 9, .int .i64 h, .int .u8 0, .int .i64 0, .string ⟨#[]⟩, .slice none 0 0, .int .i64 0, .slice none 0 0, .int .i64 (N - n), .int .i64 0, .int .i64 mi, .int .i64 0, .int .u8 0, .bool false, .slice none 0 0, .slice none 0 0] 53 (0, 0)) := blk_setCell hg5 8 _
        have hld := loadWhat_blk hg6 rfl
        have hk6 : Keeps (fun b => b = g) w5 (w5.setCell ⟨g, 8, none⟩ (.int .i64 (N - n))) := Keeps.setCell w5 _ _ rfl
        have hW6 := hW5.keeps hk6 (fun b hb e => hnF5 (e ▸ hb))
        have Hml : Hid ((M.add (purseT h n mi)).made.length = M.made.length) := made_len M _
        have hlay := Lay_lt hW6 (r := r) (n' := N - n) (vk' := 0) (vn' := 0) hr (WM.add_at_old HW2.out.ok _ Ht.out) plain0 (fun w hW => form_9 hW h (N - n) mi (sideB_iff.2 (by rw [Hml.out]; exact Hhome.out)) (by have := hn0; have := hn1; omega))
        have HLAY := (show Hid _ from hlay)
        have HG6 : Hid (Grew F w F5 (w5.setCell ⟨g, 8, none⟩ (.int .i64 (N - n)))) := by
          have h1 : Grew F w F5 w5 := Grew.of_below HB2.out hG5
          refine ⟨⟨h1.1.os, h1.1.tape, h1.1.output, Nat.le_trans h1.1.size hk6.size, fun b hb hF => (hk6.block b (Nat.lt_of_lt_of_le hb h1.1.size) ?_).trans (h1.1.block b hb hF)⟩, h1.2⟩
          rintro rfl
          have := HB2.out.size
          exact absurd hb (by have := HGF.out.2; have := Hgw.out; omega)
        clear hG5 hW5 hg5 hg6 hk6 hW6 hlay hnF5
        go_wp2_with fail
        refine Calls.mono HLAY.out ?_
        rintro e w7 ⟨rfl, hW7, hk7⟩
        have HF7 : Hid (∃ F', IsW w7 p ((M.add (purseT h n mi)).set r (purseT h (N - n) mi)) F' ∧ Grew F w F' w7) := ⟨F5, hW7, HG6.out.then_keeps hk7⟩
        clear hW7 hk7 hld d8 f8
        go_wp2_with fail
        go_ret2
        exact .inr (.inr (.inr ⟨⟨hn0, hn1⟩, hroom, rfl, HF7.out⟩))
      · have HB5 := (show Hid (Below w.heap.size w w5) from HB2.out.trans (hb5.mono HB2.out.size))
        clear hb5
        go_wp2_with fail
        go_ret2
        exact .inr (.inr (.inl ⟨⟨hn0, hn1⟩, by omega, rfl, HB5.out⟩))
end Go.Proofs.YtmefjkggibbhoaaGreat
