/- A thing more: index, lay. An edge that is cut. -/
import Derived.Test.YtifmifjbebpomaaGreatDoorWalkC
import Derived.Test.YtifmifjbebpomaaGreatDoorPure
import Derived.StillTailTactics
import Derived.Deep.QuietTactic
import Derived.BigQuiet
namespace Go.Proofs.YtifmifjbebpomaaGreatDoor
open Go.RowKit Go.ChangeMaps Go.MapKept

theorem drew_map {P : Program} {k : TypeId} {w : World} {b n : Nat} {f : Value → Option Value} (h : HasMap P k w b f n) : HasMap P k w.drew b f n := h

/-- A map of at most n entries. -/
def MapLe (P : Program) (k : TypeId) (w : World) (b : Nat) (f : Value → Option Value) (n : Nat) : Prop := ∃ m, m ≤ n ∧ HasMap P k w b f m

theorem index_plain {w : World} {p tb b : Nat} {r k : Int} (c2 : w.cell? ⟨p, 2, none⟩ = some (.map (some tb)))
    (hl : (Instr.lookup 34 (.map (some tb)) (.int .i64 r) false).run Tryz.prog w = .ok (.pointer (some ⟨b, 0, none⟩)) w) (k0 : w.cell? ⟨b, 0, none⟩ = some (.int .u8 k)) (hk : (k == 14) = false) :
    Calls Tryz.prog 68 #[.pointer (some ⟨p, 0, none⟩), .int .i64 r] w fun e w' => e = .returned (.tuple #[]) ∧ w = w' := by
  go_enter Tryz.func68, Tryz.ntmps68
  go_wp2
  go_end0
  exact ⟨rfl, rfl⟩

set_option maxRecDepth 8000 in
theorem index_facet {w : World} {p tb fb b fn : Nat} {r t s : Int} {f g : Value → Option Value} (c2 : w.cell? ⟨p, 2, none⟩ = some (.map (some tb))) (c3 : w.cell? ⟨p, 3, none⟩ = some (.map (some fb)))
    (hl : (Instr.lookup 34 (.map (some tb)) (.int .i64 r) false).run Tryz.prog w = .ok (.pointer (some ⟨b, 0, none⟩)) w) (k0 : w.cell? ⟨b, 0, none⟩ = some (.int .u8 14))
    (k6 : w.cell? ⟨b, 10, none⟩ = some (.int .i64 t)) (k8 : w.cell? ⟨b, 12, none⟩ = some (.int .u8 s)) (ht : (Lit.int .i64 t).wf = true) (hs : (Lit.int .u8 s).wf = true)
    (hm : HasMap Tryz.prog 190 w fb f fn) (hn : fn < maxLen) (hg : g (fkey t s) = some (.int .i64 r)) (hg' : ∀ x, x ≠ fkey t s → g x = f x) :
    Calls Tryz.prog 68 #[.pointer (some ⟨p, 0, none⟩), .int .i64 r] w fun e w' => e = .returned (.tuple #[]) ∧ Turned w w' fb ∧ MapLe Tryz.prog 190 w' fb g (fn + 1) := by
  obtain ⟨kl, hkl⟩ := key_f ht hs
  obtain ⟨w2, hrun, r1, r2⟩ := (drew_map hm).store keyedFKey Tryz.underlying35 hn hkl (.int .i64 r) hg hg'
  simp only [fkey] at hrun
  have Hr1 : Hid (MapLe Tryz.prog 190 w2 fb g (fn + 1)) := ⟨_, by split <;> omega, r1⟩
  have Hr2 : Hid (Turned w w2 fb) := Turned.of_drew r2
  clear r1 r2 hm hg hg' hkl hn
  go_enter Tryz.func68, Tryz.ntmps68
  go_wp2
  go_still_tail 14, (by kernel_rfl)
  change wpList _ _ _ _ _ w.drew
  go_wp2
  go_end0
  exact ⟨rfl, Hr2.out, Hr1.out⟩

/-- The world's own calls change last, one thing, and what is made at home: an edge that is cut. -/
def WM.cutE (M : WM) (n : Nat) : WM := { M with cuts := M.cuts.set n true }
theorem WM.cutE_ok {M : WM} (h : M.ok) (n : Nat) : (M.cutE n).ok := { h with cuts := by show (M.cuts.set n true).length = _; rw [List.length_set]; exact h.cuts }

set_option maxRecDepth 8000 in
theorem CutEdge_W {w : World} {p : Nat} {M : WM} {F : Nat → Prop} (hW : IsW w p M F) (n : Nat) (h0 : 0 < n) (hn : n < M.made.length) :
    Calls Tryz.prog 42 #[.pointer (some ⟨p, 0, none⟩), .int .i64 n] w fun e w' => e = .returned (.int .i64 0) ∧ IsW w' p (M.cutE n) F ∧ Keeps F w w' ∧ w'.heap.size = w.heap.size := by
  have hno := none_W hW
  have hed := edge_W hW n
  rw [show edgeB M n = true by simp [edgeB]; omega] at hed
  obtain ⟨pa, pc, cg, cc, mg, mc, tb, fb, fn, bl, h⟩ := hW
  have c1 := h.c1
  have hc := h.cutCell hn
  have hf := h.cut.free n
  have hcl : (n : Int) < M.cuts.length := by have := h.ok.cuts; have := h.ok.made; omega
  have Hfin : Hid (IsW (w.setCell ⟨cg, n, none⟩ (.bool true)) p (M.cutE n) F) := by
    have hne : ∀ b o, w.heap[b]? = some o → (∀ (cs : Array Value) (fr : Nat × Nat), o ≠ Obj.cells cs 4 fr) → b ≠ cg := by
      intro b o hb ho e
      subst e
      obtain ⟨cur, hcur, _⟩ := h.cut
      rw [hcur] at hb
      cases hb
      exact ho _ _ rfl
    refine ⟨pa, pc, cg, cc, mg, mc, tb, fb, fn, bl, ?_⟩
    have hcut := h.cut.set n (.bool true)
    have e1 : (M.cuts.map Value.bool).set n (.bool true) = (M.cutE n).cuts.map Value.bool := by simp [WM.cutE]
    have e2 : (M.cutE n).cuts.length = M.cuts.length := by simp [WM.cutE]
    obtain ⟨mcur, hm1, hm2⟩ := h.mad
    obtain ⟨tes, tcl, htb⟩ := h.things.is
    obtain ⟨fes, fcl, hfb⟩ := h.facets.is
    have keep : ∀ b o, w.heap[b]? = some o → (∀ (cs : Array Value) (fr : Nat × Nat), o ≠ Obj.cells cs 4 fr) → (w.setCell ⟨cg, n, none⟩ (.bool true)).heap[b]? = w.heap[b]? := fun b o hb ho => by
      rw [hb]
      exact blk_other hb _ _ (hne b o hb ho)
    exact {
      hp := by rw [keep p _ h.hp (by simp), e2]; exact h.hp
      pars := fun j x hx => by
        obtain ⟨b, o, h1, h2, ⟨cs, fr, h3⟩, h4⟩ := h.pars j x hx
        have k := keep b _ h3 (by simp)
        exact ⟨b, o, h1, h2, ⟨cs, fr, k.trans h3⟩, (World.cell?_of_block (a := ⟨b, o + j, none⟩) k).trans h4⟩
      cut := by rw [e1] at hcut; exact hcut
      mad := Row.of_block ⟨mcur, hm1, hm2⟩ (keep mg _ hm1 (by simp))
      things := h.things.of_block (keep tb _ htb (by simp))
      facets := h.facets.of_block (keep fb _ hfb (by simp))
      fnle := h.fnle
      blk := fun r t ht => by
        obtain ⟨h1, h2, h3⟩ := h.blk r t ht
        refine ⟨(keep _ _ h1 (by simp)).trans h1, h2, h3.of_blocks (fun b cs e fr hF hb he => keep b _ hb (fun cs' fr' x => ?_)) fun _ h => h⟩
        cases x
        simp [deepTy] at he
      inj := h.inj
      own := h.own
      tf := h.tf
      lt := fun b hb => by have := h.lt b hb; simpa [World.setCell] using this
      ok := WM.cutE_ok h.ok n }
  have Hk : Hid (Keeps F w (w.setCell ⟨cg, n, none⟩ (.bool true))) := Keeps.setCell _ _ _ h.own.2.1
  clear h
  go_enter Tryz.func42, Tryz.ntmps42
  go_wp2_with (first | (go_at_call 46; refine hno.mono ?_; rintro e w' ⟨rfl, rfl⟩) | (go_at_call 74; refine hed.mono ?_; rintro e w' ⟨rfl, rfl⟩))
  go_ret
  exact ⟨rfl, Hfin.out, Hk.out, by simp [World.setCell]⟩
end Go.Proofs.YtifmifjbebpomaaGreatDoor
