/- slices.Clone of sides; a region of any order, by what stays true. -/
import Derived.Test.YtifmifjbebpomaaGreatDoorWalkD
import Derived.Deep.QuietTactic
import Derived.BigQuiet
namespace Go.Proofs.YtifmifjbebpomaaGreatDoor
open Go.RowKit Go.ChangeMaps Go.MapKept

/-- The sides that a slice holds. -/
def SideS (w : World) (v : Value) (xs : List Int) : Prop :=
  (∃ n c, v = .slice none n c ∧ xs = []) ∨ ∃ b off c, v = .slice (some ⟨b, off, none⟩) xs.length c ∧ ∀ (j : Nat) (x : Int), xs[j]? = some x → w.cell? ⟨b, off + j, none⟩ = some (.int .i64 x)

set_option maxRecDepth 8000 in
theorem cloneSide_nil (w : World) (n c : Nat) : Calls Tryz.prog 45 #[.slice none n c] w fun e w' => e = .returned (.slice none 0 0) ∧ w = w' := by
  go_enter Tryz.func45, Tryz.ntmps45
  go_wp2
  go_ret
  exact ⟨rfl, rfl⟩

theorem infoSide : (Tryz.prog.info? 23).map (fun i => (i.zero, i.size, i.bytes)) = some (some (.int .i64 0), 1, 8) := by kernel_rfl
theorem append_sides {w : World} {ops : Array Oper} {rest : List Oper} {o : Oper} {a : Act} {Q : Exit → Act → World → Prop} (hgd : o.guard = none) (s x : Operand)
    (ho : o.op = .call { callee := .builtin .append, args := #[s, x], argTypes := #[32, 32] }) (A : Addr) (c n : Nat) (xs : List Int) (hs : a.eval s = .slice (some ⟨w.heap.size, 0, none⟩) 0 0) (hn : n = xs.length)
    (hx : a.eval x = .slice (some A) n c) (hc : Hid (∀ (j : Nat) (x : Int), xs[j]? = some x → w.cell? (A.add j) = some (.int .i64 x))) (hn : Hid (xs.length < 16))
    (h : ∀ v' w', w'.ownsRow w.heap.size 23 1 v' xs.length (xs.map (Value.int .i64)) → Below w.heap.size w w' → wpList Tryz.prog ops Q rest (a.put o.dst v') w') : wpList Tryz.prog ops Q (o :: rest) a (w.alloc (.cells #[] 23)) := by
  obtain ⟨i, hi, hz, h1, h2⟩ := info_parts infoSide
  have hn := hn.out
  refine wpList_append_own _ hgd s x 32 ho w.heap.size 23 i (.int .i64 0) 1 8 Tryz.underlying32 hi hz h1 h2 rfl (by decide) (.slice (some ⟨w.heap.size, 0, none⟩) 0 0) 0 [] hs
    ⟨by simp, .inr ⟨w.heap.size, 0, #[], rfl, Nat.le_refl _, blk_new _ _, by omega, by unfold maxLen; omega, by simp, by simp⟩⟩ A n c (xs.map (Value.int .i64)) hx (by simp; omega)
    (fun j u hu => ?_) (fun u hu => ?_) (by unfold maxLen; omega) (by omega) (by simp) ?_
  · rw [List.getElem?_map] at hu
    cases hj : xs[j]? with
    | none => rw [hj] at hu; cases hu
    | some y =>
      rw [hj] at hu
      cases hu
      exact cell_al (hc.out j y hj) _
  · obtain ⟨y, -, rfl⟩ := List.mem_map.1 hu
    rfl
  · intro v' w' r1 r2 _
    have hg : w.grownBy w' (Value.slice (some ⟨w.heap.size, 0, none⟩) 0 0).ownBlock := (World.grownBy_alloc w _ _).trans r2
    refine h v' w' (by simpa [*] using r1) ⟨hg.os, hg.tape, hg.output, hg.size, fun k hk => hg.block k (by omega) (fun e => ?_)⟩
    simp [Value.ownBlock] at e
    omega

set_option maxRecDepth 8000 in
theorem cloneSide_at (w : World) (A : Addr) (c : Nat) (xs : List Int) (hx : ∀ (j : Nat) (x : Int), xs[j]? = some x → w.cell? (A.add j) = some (.int .i64 x)) (hn : xs.length < 16) :
    Calls Tryz.prog 45 #[.slice (some A) xs.length c] w fun e w' => ∃ v, e = .returned v ∧ w'.ownsRow w.heap.size 23 1 v xs.length (xs.map (Value.int .i64)) ∧ Below w.heap.size w w' := by
  have Hx := (show Hid _ from hx)
  have Hn := (show Hid (xs.length < 16) from hn)
  obtain ⟨n, hnx⟩ : ∃ n, n = xs.length := ⟨_, rfl⟩
  have Hnx := (show Hid (n = xs.length) from hnx)
  rw [← hnx]
  clear hx hn hnx
  go_enter Tryz.func45, Tryz.ntmps45
  go_wp2_with (at_builtin; refine append_sides rfl _ _ rfl A c n xs rfl Hnx.out rfl Hx Hn ?_; intro v w1 hv hb1; have HV := (show Hid _ from hv); have HB1 := (show Hid (Below w.heap.size w w1) from hb1); clear hv hb1)
  go_ret
  exact ⟨v, rfl, Hnx.out ▸ HV.out, HB1.out⟩
theorem cloneSide_some (w : World) (b off c : Nat) (xs : List Int) (hx : ∀ (j : Nat) (x : Int), xs[j]? = some x → w.cell? ⟨b, off + j, none⟩ = some (.int .i64 x)) (hn : xs.length < 16) :
    Calls Tryz.prog 45 #[.slice (some ⟨b, off, none⟩) xs.length c] w fun e w' => ∃ v, e = .returned v ∧ w'.ownsRow w.heap.size 23 1 v xs.length (xs.map (Value.int .i64)) ∧ Below w.heap.size w w' :=
  cloneSide_at w ⟨b, off, none⟩ c xs (fun j x h => by
    have hadd : (⟨b, off, none⟩ : Addr).add j = ⟨b, off + j, none⟩ := by unfold Addr.add; split <;> simp_all
    rw [hadd]
    exact hx j x h) hn
end Go.Proofs.YtifmifjbebpomaaGreatDoor
