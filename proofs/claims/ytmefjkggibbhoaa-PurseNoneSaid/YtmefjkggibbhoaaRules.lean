/- purse.find: a thing of a kind. -/
import Derived.Test.YtmefjkggibbhoaaWhat
import Derived.Test.YtmefjkggibbhoaaClass
import Derived.StillTailTactics
namespace Go.Proofs.Ytmefjkggibbhoaa
open Go.RowKit Go.ChangeMaps Go.MapKept
open Go.Maps (Keyed)
variable {w : World} {p : Nat} {M : WM} {F : Nat → Prop}

theorem keyedKind : Keyed Try.prog 31 := Maps.int_keyed Try.underlying31
theorem key_kind {r : Int} (h : (Lit.int .u8 r).wf = true) : keyOf Try.prog 31 (.int .u8 r) = some (.int .u8 r) := Maps.keyOf_int_mk Try.underlying31 h

set_option maxRecDepth 8000 in
theorem rulesB_W (w : World) (k want : Int) (b : Nat) (hb : w.cell? ⟨b, 0, none⟩ = some (.int .u8 want)) :
    Calls Try.prog 113 #[.int .u8 k, .pointer (some ⟨b, 0, none⟩)] w fun e w' => e = .returned (.int .i64 (if k = want then 0 else 100)) ∧ w = w' := by
  by_cases h : k = want
  · subst h
    rw [if_pos rfl]
    go_enter Try.func113, Try.ntmps113
    go_wp2
    go_ret
    exact ⟨rfl, rfl⟩
  · rw [if_neg h]
    have hk : (k != want) = true := by simpa using h
    clear h
    go_enter Try.func113, Try.ntmps113
    go_wp2
    go_ret
    exact ⟨rfl, rfl⟩
set_option maxRecDepth 8000 in
theorem rulesA_W (w : World) (want : Int) : Calls Try.prog 112 #[.int .u8 want] w fun e w' => e = .returned (.func (.func 113) #[] #[.pointer (some ⟨w.heap.size, 0, none⟩)]) ∧ w' = w.alloc (.cells #[.int .u8 want] 31) := by
  go_enter Try.func112, Try.ntmps112
  go_wp2
  go_ret
  exact ⟨rfl, rfl⟩

def ruleV (b : Nat) : Value := .func (.func 113) #[] #[.pointer (some ⟨b, 0, none⟩)]
/-- The rules by their keys. -/
def ruleF (b8 b9 : Option Nat) (key : Value) : Option Value :=
  match key with
  | .int .u8 k => if k = 8 then b8.map ruleV else if k = 9 then b9.map ruleV else none
  | _ => none
/-- What rules hands back: a map with a rule for mints and one for purses. -/
def RulesAt (w : World) (b : Nat) (b8 b9 : Nat) : Prop :=
  w.cell? ⟨b8, 0, none⟩ = some (.int .u8 8) ∧ w.cell? ⟨b9, 0, none⟩ = some (.int .u8 9) ∧ ∃ n, HasMap Try.prog 31 w b (ruleF (some b8) (some b9)) n
theorem zeroRule (w : World) : (zeroValue 151).run Try.prog w = .ok .nilFunc w := by kernel_rfl
theorem RulesAt.below {b b8 b9 : Nat} {w w' : World} (h : RulesAt w b b8 b9) (hb : Below w.heap.size w w') : RulesAt w' b b8 b9 := by
  obtain ⟨h1, h2, n, h3⟩ := h
  exact ⟨(hb.cell (p := ⟨b8, 0, none⟩) (World.block_lt_of_cell? _ _ h1)).trans h1, (hb.cell (p := ⟨b9, 0, none⟩) (World.block_lt_of_cell? _ _ h2)).trans h2, n, h3.of_block (hb.block _ h3.lt)⟩
theorem RulesAt.look {b b8 b9 : Nat} {w : World} (h : RulesAt w b b8 b9) : (Instr.lookup 152 (.map (some b)) (.int .u8 8) false).run Try.prog w = .ok (ruleV b8) w ∧ (Instr.lookup 152 (.map (some b)) (.int .u8 9) false).run Try.prog w = .ok (ruleV b9) w := by
  obtain ⟨h1, h2, n, h3⟩ := h
  exact ⟨by rw [h3.look keyedKind Try.underlying152 (zeroRule w) (key_kind (r := 8) rfl)]; rfl, by rw [h3.look keyedKind Try.underlying152 (zeroRule w) (key_kind (r := 9) rfl)]; rfl⟩

def RulesPost (w : World) (e : Ending) (w' : World) : Prop := ∃ b b8 b9, e = .returned (.map (some b)) ∧ RulesAt w' b b8 b9 ∧ Below w.heap.size w w' ∧ w.heap.size ≤ b ∧ w.heap.size ≤ b8 ∧ w.heap.size ≤ b9

set_option maxRecDepth 8000 in
theorem rules_W (w : World) : Calls Try.prog 99 #[] w (RulesPost w) := by
  have hmm := @run_makeMap Try.prog
  have hm0 : HasMap Try.prog 31 ((w.alloc (.map #[] 0)).alloc (.cells #[.int .u8 8] 31)) w.heap.size (ruleF none none) 0 :=
    ((HasMap.made w Try.prog 31).of_block ((blk2_old w _ _).trans (blk_new w _).symm)).congr (fun key _ _ => by unfold ruleF; split <;> simp)
  obtain ⟨w2, hrun, hm2, ht2⟩ := hm0.store keyedKind Try.underlying152 (by decide) (key_kind (r := 8) rfl) (ruleV (w.heap.size + 1)) (g := ruleF (some (w.heap.size + 1)) none) rfl (fun x hx => by
    unfold ruleF
    split
    · rename_i k
      have : k ≠ 8 := fun e => hx (by rw [e])
      simp [this]
    · rfl)
  have hT2 := Turned.of ht2
  have hs2 : w2.heap.size = w.heap.size + 2 := by rw [hT2.1]; simp
  have hb2 : Below w.heap.size w w2 := (((Below.refl _ w).alloc (Nat.le_refl _) _).alloc (by simp) _).trans (Keeps.below hT2.2 (by simp; omega) (fun x hx => by omega))
  have h82 : w2.cell? ⟨w.heap.size + 1, 0, none⟩ = some (.int .u8 8) := by
    have := (hT2.block (c := w.heap.size + 1) (by omega)).trans (blk2_new w _ _)
    rw [cell_blk this]
    rfl
  have hm3 : HasMap Try.prog 31 (w2.alloc (.cells #[.int .u8 9] 31)) w.heap.size (ruleF (some (w.heap.size + 1)) none) _ := hm2.of_block (Below.heap_alloc w2 _ _ hm2.lt)
  obtain ⟨w4, hrun4, hm4, ht4⟩ := hm3.store keyedKind Try.underlying152 (by decide) (key_kind (r := 9) rfl) (ruleV w2.heap.size) (g := ruleF (some (w.heap.size + 1)) (some w2.heap.size)) rfl (fun x hx => by
    unfold ruleF
    split
    · rename_i k
      have : k ≠ 9 := fun e => hx (by rw [e])
      simp [this]
    · rfl)
  have hT4 := Turned.of ht4
  have h84 : w4.cell? ⟨w.heap.size + 1, 0, none⟩ = some (.int .u8 8) := by
    rw [World.cell?_of_block (hT4.block (c := w.heap.size + 1) (by omega))]
    exact cell_al h82 _
  have h94 : w4.cell? ⟨w2.heap.size, 0, none⟩ = some (.int .u8 9) := by
    rw [World.cell?_of_block (hT4.block (c := w2.heap.size) (by omega)), cell_blk (blk_new _ _)]
    rfl
  have hb4 : Below w.heap.size w w4 := (hb2.trans ((Below.refl _ w2).alloc (by omega) _)).trans (Keeps.below hT4.2 (by simp; omega) (fun x hx => by omega))
  have HF : Hid (RulesPost w (.returned (.map (some w.heap.size))) w4) := ⟨_, _, _, rfl, ⟨h84, h94, _, hm4⟩, hb4, Nat.le_refl _, by omega, by omega⟩
  unfold ruleV at hrun hrun4
  clear hm0 hm2 ht2 hT2 hs2 hb2 h82 hm3 hm4 ht4 hT4 h84 h94 hb4
  go_enter Try.func99, Try.ntmps99
  go_wp2_with fail
  refine (rulesA_W _ 8).mono ?_
  rintro e _ ⟨rfl, rfl⟩
  go_wp2_with fail
  refine (rulesA_W _ 9).mono ?_
  rintro e _ ⟨rfl, rfl⟩
  go_wp2_with fail
  go_ret
  exact HF.out
end Go.Proofs.Ytmefjkggibbhoaa
