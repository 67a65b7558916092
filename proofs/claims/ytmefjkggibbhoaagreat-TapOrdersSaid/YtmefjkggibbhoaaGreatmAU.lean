/- A part of the proof, several texts in one: Become, With, Open. -/
import Derived.Test.YtmefjkggibbhoaaGreatmAO
import Derived.Deep.DeepCutAuto
import Derived.Deep.CutBlock
import Derived.Test.YtmefjkggibbhoaaGreatmAE
import Derived.WalkKit
import Derived.ProofKit
import Derived.OpenShut
import Derived.ChangeSame
import Derived.ChangeSlices
import Derived.Carry
import Derived.RowKit
/- Become; tap.Make where there is room for one thing alone; With. -/
namespace Go.Proofs.YtmefjkggibbhoaaGreat
open Go.RowKit Go.ChangeMaps Go.MapKept

theorem sizeWorld : (Tryz.prog.info? 64).map (·.size) = some 6 := by kernel_rfl
/-- A whole World read, written. -/
def ldWd (a : Value) : Sem Next := do pure (.value (← Instr.loadAt 64 a))
def stWd (a x : Value) : Sem Next := do Instr.storeAt 64 a x; pure .skip
@[local go_sem ↓] theorem execOp_ldWd (ρ : Operand → Value) (d : Option Tmp) (a : Operand) (ty : TypeId) (pos : String) (af : Array Edge) (g : Option (Nat × Bool)) :
    execOp ρ { dst := d, op := .load 64 a, type := ty, pos := pos, after := af, guard := g } = ldWd (ρ a) := rfl
@[local go_sem ↓] theorem execOp_stWd (ρ : Operand → Value) (d : Option Tmp) (a x : Operand) (ty : TypeId) (pos : String) (af : Array Edge) (g : Option (Nat × Bool)) :
    execOp ρ { dst := d, op := .store 64 a x, type := ty, pos := pos, after := af, guard := g } = stWd (ρ a) (ρ x) := rfl
theorem loadWorld_blk {w : World} {b : Nat} {cs : Array Value} {fr : Nat × Nat} (hg : w.heap[b]? = some (.cells cs 64 fr)) (hs : cs.size = 6) : (ldWd (.pointer (some ⟨b, 0, none⟩))).run Tryz.prog w = .ok (.value (.agg cs)) w := by
  have := run_loadAt_blk hg Tryz.underlying64 rfl (by rw [hs]; exact sizeWorld)
  simp only [ldWd, Sem.run_bind, this, Result.andThen, Sem.run_pure]
theorem storeWorld_blk {w : World} {b : Nat} {c c' : Array Value} (hg : w.heap[b]? = some (.cells c 64 (0, 0))) (hs : c.size = 6) (hs' : c'.size = 6) (h1 : c'.all (·.oneCell') = true) :
    (stWd (.pointer (some ⟨b, 0, none⟩)) (.agg c')).run Tryz.prog w = .ok .skip (w.setRow b c') := by
  have := run_storeAt_blk (P := Tryz.prog) hg (by rw [hs']; exact sizeWorld) (by rw [hs, hs']) h1
  simp only [stWd, Sem.run_bind, this, Result.andThen, Sem.run_pure]
theorem setRow_keeps (w : World) (p : Nat) (xs : Array Value) : Keeps (fun b => b = p) w (w.setRow p xs) :=
  ⟨rfl, rfl, rfl, by simp [World.setRow], fun x _ hn => heap_setRow_other _ _ _ _ hn⟩

set_option maxHeartbeats 1000000 in
set_option maxRecDepth 8000 in
theorem Become_W {w : World} {p q : Nat} {M N : WM} {F G : Nat → Prop} (hW : IsW w p M F) (hO : IsW w q N G) (light : Hid (∀ r t, N.at r = some t → Lite t)) :
    Calls Tryz.prog 49 #[.pointer (some ⟨p, 0, none⟩), .pointer (some ⟨q, 0, none⟩)] w fun e w' => e = .returned (.int .i64 0) ∧ ∃ F', IsW w' p N F' ∧ Grew F w F' w' := by
  have HN1 := (show Hid _ from none_W hW)
  have HN2 := (show Hid _ from none_W hO)
  have HC := (show Hid _ from Copy_W hO light)
  have HW := (show Hid (IsW w p M F) from hW)
  clear hW hO
  go_enter Tryz.func49, Tryz.ntmps49
  go_wp2_with fail
  refine Calls.mono HN1.out ?_
  rintro e _ ⟨rfl, rfl⟩
  go_wp2_with fail
  refine Calls.mono HN2.out ?_
  rintro e _ ⟨rfl, rfl⟩
  go_wp2_with fail
  refine Calls.mono HC.out ?_
  rintro e w1 ⟨p', F1, rfl, hW1, hF1, hb1⟩
  obtain ⟨pa, pc, cg, cc, mg, mc, tb, fb, fn, bl, hV⟩ := hW1
  obtain ⟨pa0, pc0, cg0, cc0, mg0, mc0, tb0, fb0, fn0, bl0, hV0⟩ := HW.out.below hb1
  have hld := loadWorld_blk hV.hp rfl
  have hst := storeWorld_blk (c' := #[.slice pa N.parents.length pc, .slice (some ⟨cg, 0, none⟩) N.cuts.length cc, .map (some tb), .map (some fb), .int .i64 N.last, .slice (some ⟨mg, 0, none⟩) N.made.length mc]) hV0.hp rfl rfl (by simp [go_sem, Value.oneCell'])
  have HFin : Hid (∃ F', IsW (w1.setRow p #[.slice pa N.parents.length pc, .slice (some ⟨cg, 0, none⟩) N.cuts.length cc, .map (some tb), .map (some fb), .int .i64 N.last, .slice (some ⟨mg, 0, none⟩) N.made.length mc]) p N F' ∧ Grew F w F' (w1.setRow p #[.slice pa N.parents.length pc, .slice (some ⟨cg, 0, none⟩) N.cuts.length cc, .map (some tb), .map (some fb), .int .i64 N.last, .slice (some ⟨mg, 0, none⟩) N.made.length mc])) := by
    have hp : p < w.heap.size := HW.out.lt p HW.out.own
    have hk := setRow_keeps w1 p #[.slice pa N.parents.length pc, .slice (some ⟨cg, 0, none⟩) N.cuts.length cc, .map (some tb), .map (some fb), .int .i64 N.last, .slice (some ⟨mg, 0, none⟩) N.made.length mc]
    have hV1 := hV.keeps hk (fun b hb e => by have := hF1 b hb; omega)
    have hsz : w1.heap.size ≤ (w1.setRow p #[.slice pa N.parents.length pc, .slice (some ⟨cg, 0, none⟩) N.cuts.length cc, .map (some tb), .map (some fb), .int .i64 N.last, .slice (some ⟨mg, 0, none⟩) N.made.length mc]).heap.size := hk.size
    refine ⟨fun b => b = p ∨ F1 b, ⟨pa, pc, cg, cc, mg, mc, tb, fb, fn, bl, ?_⟩, ⟨Keeps.trans (S := F) (S' := fun b => b = p) (Keeps.of_below hb1) hk (fun _ _ h => h) (fun x _ e => by subst e; exact HW.out.own), fun b hb => ?_⟩⟩
    · exact {
        hp := heap_setRow_at hV0.hp
        pars := fun j x hx => by
          obtain ⟨b, o, h1, h2, h3⟩ := hV1.pars j x hx
          exact ⟨b, o, h1, .inr h2, h3⟩
        cut := hV1.cut
        mad := hV1.mad
        things := hV1.things
        facets := hV1.facets
        fnle := hV1.fnle
        blk := fun r t ht => by
          obtain ⟨h1, h2, h3⟩ := hV1.blk r t ht
          exact ⟨h1, .inr h2, h3.of_blocks (fun b cs e fr hF hb _ => rfl) (fun b hF => .inr hF)⟩
        inj := hV1.inj
        own := ⟨.inl rfl, .inr hV1.own.2.1, .inr hV1.own.2.2.1, .inr hV1.own.2.2.2.1, .inr hV1.own.2.2.2.2⟩
        tf := hV1.tf
        lt := fun b hb => by
          rcases hb with rfl | hb
          · have := hb1.size; omega
          · exact hV1.lt b hb
        ok := hV1.ok }
    · rcases hb with rfl | hb
      · exact .inl HW.out.own
      · exact .inr (hF1 b hb)
  clear hV hV0 hF1 hb1 HN1 HN2 HC HW
  go_wp2_with fail
  go_ret
  exact ⟨rfl, HFin.out⟩

theorem Grew.refl_below {F : Nat → Prop} {a b : World} (h : Below a.heap.size a b) : Grew F a F b := ⟨Keeps.of_below h, fun _ h => .inl h⟩
theorem made_tapNo {w : World} {p : Nat} {M : WM} {F : Nat → Prop} (hW : IsW w p M F) (hl : M.last + 1 ≤ 1099511627776) {h : Int} (home : 0 ≤ h ∧ h < M.made.length) (room : ¬ M.made.getD h.toNat 0 < 512) {r n c : Int} {v : Th} (hr : M.at r = some v) (hn : M.at n = some (tallyT h c)) :
    Calls Tryz.prog 50 #[.pointer (some ⟨p, 0, none⟩), .agg #[.int .u8 16, .int .i64 h, .int .u8 0, .int .i64 0, .string ⟨#[]⟩, .slice none 0 0, .int .i64 0, .slice none 0 0, .int .i64 0, .int .i64 0, .int .i64 r, .int .i64 n, .int .u8 0, .bool false, .slice none 0 0, .slice none 0 0]] w fun e w' => Hid (e = .returned (.tuple #[.int .i64 0, .int .i64 8]) ∧ Below w.heap.size w w') :=
  tmade_W (R := fun e w' => e = .returned (.tuple #[.int .i64 0, .int .i64 8]) ∧ Below w.heap.size w w') fun w1 hb => (Make_16 (hW.below hb) hl home (hW.ok.at_wf hr) (hW.ok.at_wf hn) hn rfl rfl hr).mono fun e w' hm => by
    rcases hm with ⟨hx, -⟩ | ⟨-, rfl, hb'⟩
    · exact absurd hx room
    · exact ⟨_, _, rfl, rfl, hb.trans (hb'.mono hb.size)⟩

/-- What the deferred call leaves where Make failed: the world as it was. -/
def BadPost (w : World) (p : Nat) (N : WM) (F : Nat → Prop) (b6 b7 b8 : Nat) (w' : World) : Prop :=
  ∃ F', IsW w' p N F' ∧ (∀ (F0 : Nat → Prop) (w0 : World), Grew F0 w0 F w → w0.heap.size ≤ b6 → w0.heap.size ≤ b7 → Grew F0 w0 F' w') ∧ w'.cell? ⟨b6, 0, none⟩ = some (.int .i64 0) ∧ w'.cell? ⟨b7, 0, none⟩ = some (.int .i64 0) ∧ w'.cell? ⟨b8, 0, none⟩ = some (.int .i64 8)

set_option maxHeartbeats 1000000 in
set_option maxRecDepth 8000 in
theorem tMake1_bad {w : World} {p q : Nat} {M N : WM} {F G : Nat → Prop} (b8 b3 b9 b6 b7 : Nat) (u : FrameMode) {x6 x7 : Int} (hW : IsW w p M F) (hO : IsW w q N G) (light : Hid (∀ r t, N.at r = some t → Lite t)) (h8 : w.heap[b8]? = some (.cells #[.int .i64 8] 27 (0, 0))) (h3 : w.heap[b3]? = some (.cells #[.pointer (some ⟨p, 0, none⟩)] 26 (0, 0)))
    (h9 : w.heap[b9]? = some (.cells #[.pointer (some ⟨q, 0, none⟩)] 26 (0, 0))) (h6 : w.heap[b6]? = some (.cells #[.int .i64 x6] 35 (0, 0))) (h7 : w.heap[b7]? = some (.cells #[.int .i64 x7] 35 (0, 0))) (n6 : ¬ F b6) (n7 : ¬ F b7) (n8 : ¬ F b8) (d1 : b6 ≠ b7) (d2 : b8 ≠ b6) (d3 : b8 ≠ b7) :
    CallsD Tryz.prog 48 #[.pointer (some ⟨b8, 0, none⟩), .pointer (some ⟨b3, 0, none⟩), .pointer (some ⟨b9, 0, none⟩), .pointer (some ⟨b6, 0, none⟩), .pointer (some ⟨b7, 0, none⟩)] u w fun e u' w' => u' = u ∧ e = .returned (.tuple #[]) ∧ Hid (BadPost w p N F b6 b7 b8 w') := by
  have c8 : w.cell? ⟨b8, 0, none⟩ = some (.int .i64 8) := by rw [cell_blk h8]; rfl
  have c3 : w.cell? ⟨b3, 0, none⟩ = some (.pointer (some ⟨p, 0, none⟩)) := by rw [cell_blk h3]; rfl
  have c9 : w.cell? ⟨b9, 0, none⟩ = some (.pointer (some ⟨q, 0, none⟩)) := by rw [cell_blk h9]; rfl
  have HB := (show Hid _ from Become_W hW hO light)
  have HQ := (show Hid _ from And.intro h6 (And.intro h7 h8))
  have HN := (show Hid (¬ F b6 ∧ ¬ F b7 ∧ ¬ F b8 ∧ b6 ≠ b7 ∧ b8 ≠ b6 ∧ b8 ≠ b7) from ⟨n6, n7, n8, d1, d2, d3⟩)
  clear hW hO h8 h3 h9 h6 h7 n6 n7 n8 d1 d2 d3
  go_enter_d Tryz.func48, Tryz.ntmps48
  go_wp2_with fail
  refine Calls.mono HB.out ?_
  rintro e w1 ⟨rfl, F1, hW1, hg1⟩
  obtain ⟨n6, n7, n8, d1, d2, d3⟩ := HN.out
  have q6 := (hg1.1.block b6 (blk_lt HQ.out.1) n6).trans HQ.out.1
  have q7 := (hg1.1.block b7 (blk_lt HQ.out.2.1) n7).trans HQ.out.2.1
  have q8 := (hg1.1.block b8 (blk_lt HQ.out.2.2) n8).trans HQ.out.2.2
  have e6 : w1.cell? ⟨b6, 0, none⟩ = some (.int .i64 x6) := by rw [cell_blk q6]; rfl
  have f6 : w1.frozen? ⟨b6, 0, none⟩ = false := frozen_blk q6 0
  have r7 := blk_other q7 ⟨b6, 0, none⟩ (.int .i64 0) (Ne.symm d1)
  have e7 : (w1.setCell ⟨b6, 0, none⟩ (.int .i64 0)).cell? ⟨b7, 0, none⟩ = some (.int .i64 x7) := by rw [cell_blk r7]; rfl
  have f7 : (w1.setCell ⟨b6, 0, none⟩ (.int .i64 0)).frozen? ⟨b7, 0, none⟩ = false := frozen_blk r7 0
  have hn : ∀ b, b < w.heap.size → ¬ F b → ¬ F1 b := fun b hb hF hF1 => by
    rcases hg1.2 b hF1 with h | h
    · exact hF h
    · omega
  have HP : Hid (BadPost w p N F b6 b7 b8 ((w1.setCell ⟨b6, 0, none⟩ (.int .i64 0)).setCell ⟨b7, 0, none⟩ (.int .i64 0))) := by
    have hk1 : Keeps (fun b => b = b6) w1 (w1.setCell ⟨b6, 0, none⟩ (.int .i64 0)) := Keeps.setCell w1 _ _ rfl
    have hk2 : Keeps (fun b => b = b7) (w1.setCell ⟨b6, 0, none⟩ (.int .i64 0)) ((w1.setCell ⟨b6, 0, none⟩ (.int .i64 0)).setCell ⟨b7, 0, none⟩ (.int .i64 0)) := Keeps.setCell _ _ _ rfl
    refine ⟨F1, (hW1.keeps hk1 (fun b hb e => hn b6 (blk_lt HQ.out.1) n6 (e ▸ hb))).keeps hk2 (fun b hb e => hn b7 (blk_lt HQ.out.2.1) n7 (e ▸ hb)), fun F0 w0 h0 h1 h2 => ((h0.trans' hg1).put b6 h1 _).put b7 h2 _, ?_, ?_, ?_⟩
    · rw [cell_blk (blk_other (blk_setCell q6 0 (.int .i64 0)) ⟨b7, 0, none⟩ _ d1)]; rfl
    · rw [cell_blk (blk_setCell r7 0 (.int .i64 0))]; rfl
    · rw [cell_blk (blk_other (blk_other q8 ⟨b6, 0, none⟩ _ d2) ⟨b7, 0, none⟩ _ d3)]; rfl
  clear q6 q7 q8 r7 hn hW1 hg1 n6 n7 n8 d1 d2 d3 c8 c3 c9 HB HQ HN
  go_wp2_with fail
  go_end0
  exact ⟨rfl, HP⟩

set_option maxHeartbeats 4000000 in
set_option maxRecDepth 100000 in
theorem tMake_full {w : World} {p : Nat} {M : WM} {F : Nat → Prop} (hW : IsW w p M F) (light : Hid (∀ r t, M.at r = some t → Lite t)) (hl : M.last + 2 ≤ 1099511627776) {h r : Int} (home : 0 ≤ h ∧ h < M.made.length) (room : M.made.getD h.toNat 0 = 511) {v : Th} (hr : M.at r = some v) :
    Calls Tryz.prog 16 #[.pointer (some ⟨p, 0, none⟩), .int .i64 h, .int .i64 r] w fun e w' => e = .returned (.tuple #[.int .i64 0, .int .i64 0, .int .i64 8]) ∧ ∃ F', IsW w' p M F' ∧ Grew F w F' w' := by
  have hmf : ∀ (fn : Fn) (first cap : Array Value) (w : World), (Instr.makeFunc fn first cap).run Tryz.prog w = .ok (.func fn first cap) w := fun _ _ _ _ => rfl
  have HW := (show Hid (IsW w p M F) from hW)
  have Hhome := (show Hid (0 ≤ h ∧ h < M.made.length) from home)
  have Hr := (show Hid (M.at r = some v) from hr)
  clear hW home hr
  go_enter_defers Tryz.func16, Tryz.ntmps16
  go_wp2_with fail
  obtain ⟨hb4, q3, q6, q7, q8, hs4⟩ := four w (.cells #[.pointer (some ⟨p, 0, none⟩)] 26) (.cells #[.int .i64 0] 35) (.cells #[.int .i64 0] 35) (.cells #[.int .i64 0] 27)
  revert hb4 q3 q6 q7 q8 hs4
  generalize (((w.alloc _).alloc _).alloc _).alloc _ = w4
  intro hb4 q3 q6 q7 q8 hs4
  have c3 : w4.cell? ⟨w.heap.size, 0, none⟩ = some (.pointer (some ⟨p, 0, none⟩)) := by rw [cell_blk q3]; rfl
  have c8 : w4.cell? ⟨w.heap.size + 3, 0, none⟩ = some (.int .i64 0) := by rw [cell_blk q8]; rfl
  have f8 : w4.frozen? ⟨w.heap.size + 3, 0, none⟩ = false := frozen_blk q8 0
  have hsame : w4.setCell ⟨w.heap.size + 3, 0, none⟩ (.int .i64 0) = w4 := setCell_same q8 rfl
  have HQ := (show Hid _ from And.intro q3 (And.intro q6 (And.intro q7 q8)))
  have HB4 := (show Hid (Below w.heap.size w w4 ∧ w4.heap.size = w.heap.size + 4) from ⟨hb4, hs4⟩)
  clear q3 q6 q7 q8 hb4 hs4
  go_wp2_with fail
  refine (tmay_W (HW.out.below HB4.out.1) Hhome.out (HW.out.ok.at_wf Hr.out) Hr.out).mono ?_
  rintro e _ ⟨rfl, rfl⟩
  go_wp2_with fail
  refine (Copy_W (HW.out.below HB4.out.1) light).mono ?_
  rintro e w5 ⟨p', F5, rfl, hW5, hF5, hb5⟩
  have hq := HQ.out
  have hb45 : ∀ b, b < w.heap.size + 4 → w5.heap[b]? = w4.heap[b]? := fun b hb => hb5.block b (by have := HB4.out.2; omega)
  have hs5 : w.heap.size + 4 ≤ w5.heap.size := by have := hb5.size; have := HB4.out.2; omega
  have q9 := blk_new w5 (.cells #[.pointer (some ⟨p', 0, none⟩)] 26)
  have hB6 : Below w5.heap.size w5 (w5.alloc (.cells #[.pointer (some ⟨p', 0, none⟩)] 26)) := (Below.refl _ _).alloc (Nat.le_refl _) _
  have HQ6 : Hid ((w5.alloc (.cells #[.pointer (some ⟨p', 0, none⟩)] 26)).heap[w.heap.size]? = some (.cells #[.pointer (some ⟨p, 0, none⟩)] 26 (0, 0)) ∧ (w5.alloc (.cells #[.pointer (some ⟨p', 0, none⟩)] 26)).heap[w.heap.size + 1]? = some (.cells #[.int .i64 0] 35 (0, 0)) ∧
      (w5.alloc (.cells #[.pointer (some ⟨p', 0, none⟩)] 26)).heap[w.heap.size + 2]? = some (.cells #[.int .i64 0] 35 (0, 0)) ∧ (w5.alloc (.cells #[.pointer (some ⟨p', 0, none⟩)] 26)).heap[w.heap.size + 3]? = some (.cells #[.int .i64 0] 27 (0, 0)) ∧
      (w5.alloc (.cells #[.pointer (some ⟨p', 0, none⟩)] 26)).heap[w5.heap.size]? = some (.cells #[.pointer (some ⟨p', 0, none⟩)] 26 (0, 0))) :=
    ⟨(hB6.block _ (by omega)).trans ((hb45 _ (by omega)).trans hq.1), (hB6.block _ (by omega)).trans ((hb45 _ (by omega)).trans hq.2.1), (hB6.block _ (by omega)).trans ((hb45 _ (by omega)).trans hq.2.2.1), (hB6.block _ (by omega)).trans ((hb45 _ (by omega)).trans hq.2.2.2), q9⟩
  have HB6 : Hid (Below w.heap.size w (w5.alloc (.cells #[.pointer (some ⟨p', 0, none⟩)] 26)) ∧ w.heap.size + 4 ≤ w5.heap.size ∧ w5.heap.size < (w5.alloc (.cells #[.pointer (some ⟨p', 0, none⟩)] 26)).heap.size) :=
    ⟨(HB4.out.1.trans (hb5.mono HB4.out.1.size)).trans (hB6.mono (by omega)), hs5, by simp⟩
  have HCy : Hid (IsW (w5.alloc (.cells #[.pointer (some ⟨p', 0, none⟩)] 26)) p' M F5 ∧ ∀ b, F5 b → w.heap.size + 4 ≤ b) := ⟨hW5.below hB6, fun b hb => by have := hF5 b hb; have := HB4.out.2; omega⟩
  clear hq hb45 hs5 q9 hB6 hb5 hW5 hF5 c3 c8 f8 hsame HQ HB4
  go_upto_region 6 with fail
  revert HQ6 HB6 HCy
  generalize w5.alloc _ = w6
  generalize w5.heap.size = b9
  intro HQ6 HB6 HCy
  clear w5
  have c3 : w6.cell? ⟨w.heap.size, 0, none⟩ = some (.pointer (some ⟨p, 0, none⟩)) := by rw [cell_blk HQ6.out.1]; rfl
  have hmt := made_tally (HW.out.below HB6.out.1) (by omega) Hhome.out (by omega)
  have HMT := (show Hid _ from hmt)
  clear hmt
  go_wp2_with fail
  refine Calls.mono HMT.out ?_
  rintro e w7 HM7
  obtain ⟨rfl, F7, hW7, hg7⟩ := HM7.out
  have hq := HQ6.out
  have hb := HB6.out
  have hlt : ∀ b, F b → b < w.heap.size := HW.out.lt
  have hn7 : ∀ b, w.heap.size ≤ b → b < w6.heap.size → ¬ F7 b := fun b h1 h2 e => by
    rcases hg7.2 b e with h | h
    · have := hlt b h; omega
    · omega
  have hk7 : ∀ b, w.heap.size ≤ b → b < w6.heap.size → w7.heap[b]? = w6.heap[b]? := fun b h1 h2 => hg7.1.block b h2 (fun e => by have := hlt b e; omega)
  have r3 := (hk7 _ (Nat.le_refl _) (by omega)).trans hq.1
  have r6 := (hk7 _ (by omega) (by omega)).trans hq.2.1
  have r7 := (hk7 _ (by omega) (by omega)).trans hq.2.2.1
  have r8 := (hk7 _ (by omega) (by omega)).trans hq.2.2.2.1
  have r9 := (hk7 _ (by omega) (by omega)).trans hq.2.2.2.2
  have f7 : w7.frozen? ⟨w.heap.size + 2, 0, none⟩ = false := frozen_blk r7 0
  have c7' : w7.cell? ⟨w.heap.size + 2, 0, none⟩ = some (.int .i64 0) := by rw [cell_blk r7]; rfl
  have s3 := blk_other r3 ⟨w.heap.size + 2, 0, none⟩ (.int .i64 (M.last + 1)) (by show w.heap.size ≠ w.heap.size + 2; omega)
  have s6 := blk_other r6 ⟨w.heap.size + 2, 0, none⟩ (.int .i64 (M.last + 1)) (by show w.heap.size + 1 ≠ w.heap.size + 2; omega)
  have s7 := blk_setCell r7 0 (.int .i64 (M.last + 1))
  have s8 := blk_other r8 ⟨w.heap.size + 2, 0, none⟩ (.int .i64 (M.last + 1)) (by show w.heap.size + 3 ≠ w.heap.size + 2; omega)
  have s9 := blk_other r9 ⟨w.heap.size + 2, 0, none⟩ (.int .i64 (M.last + 1)) (by show b9 ≠ w.heap.size + 2; omega)
  have e8 : (w7.setCell ⟨w.heap.size + 2, 0, none⟩ (.int .i64 (M.last + 1))).setCell ⟨w.heap.size + 3, 0, none⟩ (.int .i64 0) = w7.setCell ⟨w.heap.size + 2, 0, none⟩ (.int .i64 (M.last + 1)) := setCell_same s8 rfl
  have g8 : (w7.setCell ⟨w.heap.size + 2, 0, none⟩ (.int .i64 (M.last + 1))).frozen? ⟨w.heap.size + 3, 0, none⟩ = false := frozen_blk s8 0
  have c8' : (w7.setCell ⟨w.heap.size + 2, 0, none⟩ (.int .i64 (M.last + 1))).cell? ⟨w.heap.size + 3, 0, none⟩ = some (.int .i64 0) := by rw [cell_blk s8]; rfl
  have HW8 : Hid (IsW (w7.setCell ⟨w.heap.size + 2, 0, none⟩ (.int .i64 (M.last + 1))) p (M.add (tallyT h 0)) F7 ∧ Grew F w F7 (w7.setCell ⟨w.heap.size + 2, 0, none⟩ (.int .i64 (M.last + 1)))) :=
    ⟨hW7.keeps (Keeps.setCell (S := fun b => b = w.heap.size + 2) w7 _ _ rfl) (fun b hb' e => hn7 b (by omega) (by omega) hb'), (hg7.after_below HB6.out.1).put _ (by omega) _⟩
  have HCy8 : Hid (IsW (w7.setCell ⟨w.heap.size + 2, 0, none⟩ (.int .i64 (M.last + 1))) p' M F5 ∧ ∀ b, F5 b → w.heap.size + 4 ≤ b) :=
    ⟨(HCy.out.1.keeps hg7.1 (fun b hb' e => by have := hlt b e; have := HCy.out.2 b hb'; omega)).keeps (Keeps.setCell (S := fun b => b = w.heap.size + 2) w7 _ _ rfl) (fun b hb' e => by have := HCy.out.2 b hb'; omega), HCy.out.2⟩
  have HQ8 := (show Hid _ from And.intro s3 (And.intro s6 (And.intro s7 (And.intro s8 s9))))
  have HN8 : Hid (w.heap.size + 4 ≤ b9 ∧ b9 < (w7.setCell ⟨w.heap.size + 2, 0, none⟩ (.int .i64 (M.last + 1))).heap.size ∧ ∀ b, w.heap.size ≤ b → b ≤ b9 → ¬ F7 b) :=
    ⟨hb.2.1, by have := blk_lt s9; simpa [World.setCell] using this, fun b h1 h2 => hn7 b h1 (by omega)⟩
  clear hq hb hlt hn7 hk7 r3 r6 r7 r8 r9 s3 s6 s7 s8 s9 hW7 hg7 HM7 HMT c3 HQ6 HB6 HCy
  go_upto_region 7 with fail
  clear f7 c7' e8 g8 c8'
  revert HW8 HCy8 HQ8 HN8
  generalize w7.setCell _ _ = w8
  intro HW8 HCy8 HQ8 HN8
  clear w7 w6
  have c3 : w8.cell? ⟨w.heap.size, 0, none⟩ = some (.pointer (some ⟨p, 0, none⟩)) := by rw [cell_blk HQ8.out.1]; rfl
  have c7 : w8.cell? ⟨w.heap.size + 2, 0, none⟩ = some (.int .i64 (M.last + 1)) := by rw [cell_blk HQ8.out.2.2.1]; rfl
  have c8 : w8.cell? ⟨w.heap.size + 3, 0, none⟩ = some (.int .i64 0) := by rw [cell_blk HQ8.out.2.2.2.1]; rfl
  have hok := HW.out.ok
  have hmade : (M.add (tallyT h 0)).made.getD h.toNat 0 = M.made.getD h.toNat 0 + 1 ∧ (M.add (tallyT h 0)).made.length = M.made.length := by
    have e : (M.add (tallyT h 0)).made = M.made.set h.toNat (M.made.getD h.toNat 0 + 1) := if_neg (t := M.made) (show ¬ ((3 : Int) = 14) by decide)
    have := Hhome.out
    rw [e]
    refine ⟨?_, by simp⟩
    rw [List.getD_eq_getElem?_getD, List.getElem?_set_self (by omega)]
    rfl
  have hmt := made_tapNo HW8.out.1 (h := h) (r := r) (n := M.last + 1) (c := 0) (show M.last + 1 + 1 ≤ _ by omega) (by rw [hmade.2]; exact Hhome.out) (by rw [hmade.1]; omega) (WM.add_at_old hok _ Hr.out) (WM.add_at_new hok _)
  have HMT := (show Hid _ from hmt)
  clear hmt hok hmade
  go_wp2_with fail
  refine Calls.mono HMT.out ?_
  rintro e w9 HM9
  obtain ⟨rfl, hb9⟩ := HM9.out
  have hq := HQ8.out
  have r3 := below_blk hb9 hq.1
  have r6 := below_blk hb9 hq.2.1
  have r7 := below_blk hb9 hq.2.2.1
  have r8 := below_blk hb9 hq.2.2.2.1
  have r9 := below_blk hb9 hq.2.2.2.2
  have f6 : w9.frozen? ⟨w.heap.size + 1, 0, none⟩ = false := frozen_blk r6 0
  have c6' : w9.cell? ⟨w.heap.size + 1, 0, none⟩ = some (.int .i64 0) := by rw [cell_blk r6]; rfl
  have e6 : w9.setCell ⟨w.heap.size + 1, 0, none⟩ (.int .i64 0) = w9 := setCell_same r6 rfl
  have f8 : w9.frozen? ⟨w.heap.size + 3, 0, none⟩ = false := frozen_blk r8 0
  have c8'' : w9.cell? ⟨w.heap.size + 3, 0, none⟩ = some (.int .i64 0) := by rw [cell_blk r8]; rfl
  have s3 := blk_other r3 ⟨w.heap.size + 3, 0, none⟩ (.int .i64 8) (by show w.heap.size ≠ w.heap.size + 3; omega)
  have s6 := blk_other r6 ⟨w.heap.size + 3, 0, none⟩ (.int .i64 8) (by show w.heap.size + 1 ≠ w.heap.size + 3; omega)
  have s7 := blk_other r7 ⟨w.heap.size + 3, 0, none⟩ (.int .i64 8) (by show w.heap.size + 2 ≠ w.heap.size + 3; omega)
  have s8 := blk_setCell r8 0 (.int .i64 8)
  have s9 := blk_other r9 ⟨w.heap.size + 3, 0, none⟩ (.int .i64 8) (by show b9 ≠ w.heap.size + 3; have := HN8.out.1; omega)
  have hkk : Keeps (fun b => b = w.heap.size + 3) w9 (w9.setCell ⟨w.heap.size + 3, 0, none⟩ (.int .i64 8)) := Keeps.setCell w9 _ _ rfl
  have HW10 : Hid (IsW (w9.setCell ⟨w.heap.size + 3, 0, none⟩ (.int .i64 8)) p (M.add (tallyT h 0)) F7 ∧ Grew F w F7 (w9.setCell ⟨w.heap.size + 3, 0, none⟩ (.int .i64 8))) :=
    ⟨(HW8.out.1.below hb9).keeps hkk (fun b hb' e => HN8.out.2.2 b (by omega) (by have := HN8.out.1; omega) hb'), (HW8.out.2.trans' (Grew.refl_below hb9)).put _ (by omega) _⟩
  have HCy10 : Hid (IsW (w9.setCell ⟨w.heap.size + 3, 0, none⟩ (.int .i64 8)) p' M F5) := (HCy8.out.1.below hb9).keeps hkk (fun b hb' e => by have := HCy8.out.2 b hb'; omega)
  have HQ10 := (show Hid _ from And.intro s3 (And.intro s6 (And.intro s7 (And.intro s8 s9))))
  have HN10 : Hid (w.heap.size + 4 ≤ b9 ∧ ∀ b, w.heap.size ≤ b → b ≤ b9 → ¬ F7 b) := ⟨HN8.out.1, HN8.out.2.2⟩
  clear hq r3 r6 r7 r8 r9 s3 s6 s7 s8 s9 hkk hb9 HM9 HMT c3 c7 c8 HQ8 HN8 HW8 HCy8
  go_wp2_with fail
  revert HW10 HQ10 HCy10
  clear f6 c6' e6 f8 c8''
  generalize w9.setCell _ _ = w10
  intro HW10 HCy10 HQ10
  refine leaves_cons (f := 48) (args := #[.pointer (some ⟨w.heap.size + 3, 0, none⟩), .pointer (some ⟨w.heap.size, 0, none⟩), .pointer (some ⟨b9, 0, none⟩), .pointer (some ⟨w.heap.size + 1, 0, none⟩), .pointer (some ⟨w.heap.size + 2, 0, none⟩)]) (by simp) (by simp [go_sem]) ?_
  refine (tMake1_bad (w.heap.size + 3) w.heap.size b9 (w.heap.size + 1) (w.heap.size + 2) .returning HW10.out.1 HCy10.out light HQ10.out.2.2.2.1 HQ10.out.1 HQ10.out.2.2.2.2 HQ10.out.2.1 HQ10.out.2.2.1
    (HN10.out.2 _ (by omega) (by have := HN10.out.1; omega)) (HN10.out.2 _ (by omega) (by have := HN10.out.1; omega)) (HN10.out.2 _ (by omega) (by have := HN10.out.1; omega)) (by omega) (by omega) (by omega)).mono ?_
  rintro e u' w11 ⟨rfl, rfl, h11⟩
  obtain ⟨F', hW', hg', c6, c7, c8⟩ := h11.out
  refine ⟨.tuple #[.int .i64 0, .int .i64 0, .int .i64 8], ?_, rfl, F', hW', hg' F w HW10.out.2 (by omega) (by omega)⟩
  simp [results, Tryz.f16, go_sem, c6, c7, c8]
end Go.Proofs.YtmefjkggibbhoaaGreat
/- With: where there is room, where there is none. -/
namespace Go.Proofs.YtmefjkggibbhoaaGreat
open Go.RowKit Go.ChangeMaps Go.MapKept
variable {w : World} {p : Nat} {M : WM} {F : Nat → Prop}

set_option maxHeartbeats 1000000 in
set_option maxRecDepth 8000 in
/-- With is made, behind its tests. -/
theorem With_of (hW : IsW w p M F) {h r n c a b : Int} {R : Ending → World → Prop} (home : 0 ≤ h ∧ h < M.made.length) {v : Th} (hr : M.at r = some v) (hn : M.at n = some (tallyT h c))
    (hm : Calls Tryz.prog 50 #[.pointer (some ⟨p, 0, none⟩), .agg #[.int .u8 16, .int .i64 h, .int .u8 0, .int .i64 0, .string ⟨#[]⟩, .slice none 0 0, .int .i64 0, .slice none 0 0, .int .i64 0, .int .i64 0, .int .i64 r, .int .i64 n, .int .u8 0, .bool false, .slice none 0 0, .slice none 0 0]] w fun e w' => e = .returned (.tuple #[.int .i64 a, .int .i64 b]) ∧ Hid (R e w')) :
    Calls Tryz.prog 17 #[.pointer (some ⟨p, 0, none⟩), .int .i64 h, .int .i64 r, .int .i64 n] w fun e w' => Hid (R e w') := by
  have HM := (show Hid _ from hm)
  have hnw := hW.ok.at_wf hn
  have HY := (show Hid _ from tmay_W hW home (hW.ok.at_wf hr) hr)
  have hI := Is_W hW hnw
  rw [hn] at hI
  have HI := (show Hid _ from hI)
  have hH := Home_W hW hnw
  rw [show M.homeOf n = h by simp [WM.homeOf, hn], show M.hasHome n = true by simp [WM.hasHome, hn]] at hH
  have HH := (show Hid _ from hH)
  have hK := Kind_W hW hnw
  rw [show M.kindOf n = 3 by simp [WM.kindOf, hn]] at hK
  have HK := (show Hid _ from hK)
  clear hm hW hr hn hI hH hK hnw home
  go_enter Tryz.func17, Tryz.ntmps17
  go_wp2_with fail
  refine Calls.mono HY.out ?_
  rintro e _ ⟨rfl, rfl⟩
  go_wp2_with fail
  refine Calls.mono HI.out ?_
  rintro e _ ⟨rfl, rfl⟩
  go_wp2_with fail
  refine Calls.mono HH.out ?_
  rintro e _ ⟨rfl, rfl⟩
  go_wp2_with fail
  refine Calls.mono HK.out ?_
  rintro e _ ⟨rfl, rfl⟩
  go_wp2_with fail
  refine Calls.mono HM.out ?_
  rintro e w1 ⟨rfl, hR⟩
  go_wp2_with fail
  go_ret2
  exact hR

theorem With_W (hW : IsW w p M F) (hl : M.last + 1 ≤ 1099511627776) {h r n c : Int} (home : 0 ≤ h ∧ h < M.made.length) (room : M.made.getD h.toNat 0 < 512) {v : Th} (hr : M.at r = some v) (hn : M.at n = some (tallyT h c)) :
    Calls Tryz.prog 17 #[.pointer (some ⟨p, 0, none⟩), .int .i64 h, .int .i64 r, .int .i64 n] w fun e w' => Hid (MadeOk w p M F (tapT h r n) e w') :=
  With_of hW home hr hn ((made_tap hW hl home room hr hn).mono fun _ _ hm => ⟨hm.out.1, hm⟩)
theorem With_no (hW : IsW w p M F) (hl : M.last + 1 ≤ 1099511627776) {h r n c : Int} (home : 0 ≤ h ∧ h < M.made.length) (room : ¬ M.made.getD h.toNat 0 < 512) {v : Th} (hr : M.at r = some v) (hn : M.at n = some (tallyT h c)) :
    Calls Tryz.prog 17 #[.pointer (some ⟨p, 0, none⟩), .int .i64 h, .int .i64 r, .int .i64 n] w fun e w' => Hid (e = .returned (.tuple #[.int .i64 0, .int .i64 8]) ∧ Below w.heap.size w w') :=
  With_of hW home hr hn ((made_tapNo hW hl home room hr hn).mono fun _ _ hm => ⟨hm.out.1, hm⟩)
end Go.Proofs.YtmefjkggibbhoaaGreat
/- Arguments of a law that are slices or arrays of whole numbers: what the walk is given. -/
namespace Go.Proofs.YtmefjkggibbhoaaGreat
open Go.ChangeShapes Go.WideShapes Go.ChangeAt Go.RowKit

/-- The whole numbers that a slice holds. -/
def IntArg (k : IntKind) (w : World) (pa : Option Addr) (xs : List Int) : Prop :=
  xs = [] ∨ ∃ b o, pa = some ⟨b, o, none⟩ ∧ b < w.heap.size ∧ ∀ (j : Nat) (x : Int), xs[j]? = some x → w.cell? ⟨b, o + j, none⟩ = some (.int k x)
theorem IntArg.side {w : World} {pa : Option Addr} {xs : List Int} (h : IntArg .i64 w pa xs) : SideArg w pa xs := by
  rcases h with h | ⟨b, o, h1, -, h3⟩
  · exact .inl h
  · exact .inr ⟨b, o, h1, h3⟩

theorem open_arr3 {H : Type} {enc : TypeId × Value → H} {P : Program} {k e : TypeId} {q : IntKind} {W : World} {base : Nat} {sp : Nat → Bool} {held : Bool} (hu : P.underlying k = some (.array 3 e)) (he : P.underlying e = some (.int q)) (hc : P.cellsOf e = 1)
    {r : Reach} {b0 : Nat} {v : Value} (hk : P.cellsOf k = 3) (hval : Value.okWide P W r b0 k v) {d : DataW H} {ps : List MemPlace} (hd : DataW.Trod enc P W base sp held k v d ps) :
    ∃ a b c : Int, v = .agg #[.int q a, .int q b, .int q c] := by
  simp only [Value.okWide, hu] at hval
  obtain ⟨xs, rfl, hn, _⟩ := hval
  rw [hk] at hn
  obtain ⟨fuel, hf⟩ := hd
  cases fuel with
  | zero => simp [DataW.trod] at hf
  | succ m =>
    rw [DataW.trod_step] at hf
    unfold DataW.trodStep at hf
    simp only [hu, Value.cells] at hf
    rw [if_pos (by rw [hk]; simpa using hn)] at hf
    simp only [Option.map_eq_some_iff] at hf
    obtain ⟨ys, hy, -⟩ := hf
    rw [hc, show List.range 3 = [0, 1, 2] from rfl] at hy
    obtain ⟨l⟩ := xs
    match l, hn with
    | [x, y, z], _ =>
      simp only [List.mapM_cons, bind, Option.bind_eq_some_iff] at hy
      obtain ⟨u0, h0, _, ⟨u1, h1, _, ⟨u2, h2, _⟩, _⟩, _⟩ := hy
      obtain ⟨a, ha, -, -⟩ := DataW.trod_int he h0
      obtain ⟨b, hb, -, -⟩ := DataW.trod_int he h1
      obtain ⟨c, hc', -, -⟩ := DataW.trod_int he h2
      simp at ha hb hc'
      exact ⟨a, b, c, by rw [ha, hb, hc']⟩

/-- A slice of whole numbers, as the walks want it. -/
theorem open_nums {H : Type} {enc : TypeId × Value → H} {P : Program} {t e : TypeId} {k : IntKind} {W : World} {base : Nat} {held : Bool} (ht : P.underlying t = some (.slice e)) (he : P.underlying e = some (.int k)) (hc : P.cellsOf e = 1)
    {r : Reach} {b0 : Nat} {v : Value} (hval : Value.okWide P W r b0 t v) {d : DataW H} {ps : List MemPlace} (hd : DataW.Trod enc P W base (fun _ => true) held t v d ps) :
    ∃ (pa : Option Addr) (c : Nat) (xs : List Int), v = .slice pa xs.length c ∧ (xs.length : Int) ≤ maxLen ∧ (∀ x ∈ xs, (Lit.int k x).wf = true) ∧
      IntArg k W pa xs := by
  obtain ⟨fuel, hf⟩ := hd
  obtain ⟨a0, len, cap, rfl⟩ := okWide_slice ht hval
  rcases open_ints ht he hc hf with ⟨hcs, hx⟩ | ⟨a, len', cap', zs, hcs, _, hl, hm, hz, hx, hcell, hwz⟩
  · simp [Value.cells] at hcs
    obtain ⟨rfl, rfl, rfl⟩ := hcs
    exact ⟨none, 0, [], rfl, by unfold maxLen; simp, by simp, .inl rfl⟩
  · simp [Value.cells] at hcs
    obtain ⟨rfl, rfl, rfl⟩ := hcs
    simp only [if_true] at hz
    have hlen : (zs.take len).length = len := by simp; omega
    refine ⟨some a, cap, zs.take len, by rw [hlen], ?_, fun x hx => hwz x (List.mem_of_mem_take hx), ?_⟩
    · rw [hlen]
      omega
    by_cases h0 : len = 0
    · subst h0
      exact .inl rfl
    · right
      obtain ⟨b, off, spot⟩ := a
      have c0 := hcell 0 (by omega)
      have hspot : spot = none := by simpa [Addr.add] using World.cell?_spot c0
      subst hspot
      refine ⟨b, off, rfl, ?_, fun j x hj => ?_⟩
      · have := World.block_lt_of_cell? _ _ c0
        simpa [Addr.add] using this
      · have hj' := (List.getElem?_eq_some_iff.1 hj).1
        rw [hlen] at hj'
        rw [List.getElem?_take, if_pos hj'] at hj
        have hadd : (⟨b, off, none⟩ : Addr).add j = ⟨b, off + j, none⟩ := by unfold Addr.add; split <;> simp_all
        have := hcell j (by omega)
        rw [hadd] at this
        rw [this, List.getD_eq_getElem?_getD, hj]
        rfl
end Go.Proofs.YtmefjkggibbhoaaGreat
