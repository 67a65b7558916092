/- A part of the proof, several texts in one: Tap, TapB. -/
import Derived.Test.YtmefjkggibbhoaaGreatmAR
import Derived.Test.YtmefjkggibbhoaaGreatmAK
import Derived.Defers
import Derived.Deep.DeepCutAuto
import Derived.Deep.CutBlock
import Derived.Test.YtmefjkggibbhoaaGreatmAF
/- Taps: may, made, Make where there is room, With, Tally, Count. -/
namespace Go.Proofs.YtmefjkggibbhoaaGreat
open Go.RowKit Go.ChangeMaps Go.MapKept
variable {w : World} {p : Nat} {M : WM} {F : Nat → Prop}

set_option maxRecDepth 8000 in
theorem tmay_W (hW : IsW w p M F) {h r : Int} (home : 0 ≤ h ∧ h < M.made.length) (hr : (Lit.int .i64 r).wf = true) {t : Th} (ht : M.at r = some t) :
    Calls Tryz.prog 47 #[.pointer (some ⟨p, 0, none⟩), .int .i64 h, .int .i64 r] w fun e w' => e = .returned (.int .i64 0) ∧ w = w' := by
  have HS := (show Hid _ from Sides_W hW)
  have hI := Is_W hW hr
  rw [ht] at hI
  have HI := (show Hid _ from hI)
  have hne : ((M.made.length : Int) == 0) = false := by
    have := hW.ok.made
    exact beq_eq_false_iff_ne.2 (by omega)
  have h1 : ¬ h < 0 := by omega
  have h2 : ¬ (M.made.length : Int) ≤ h := by omega
  clear hW ht hI home
  go_enter Tryz.func47, Tryz.ntmps47
  go_wp2_with fail
  refine Calls.mono HS.out ?_
  rintro e _ ⟨rfl, rfl⟩
  go_wp2_with fail
  refine Calls.mono HS.out ?_
  rintro e _ ⟨rfl, rfl⟩
  go_wp2_with fail
  refine Calls.mono HI.out ?_
  rintro e _ ⟨rfl, rfl⟩
  go_wp2_with fail
  go_ret
  exact ⟨rfl, rfl⟩

set_option maxHeartbeats 1000000 in
set_option maxRecDepth 8000 in
/-- made is Make. -/
theorem tmade_W {R : Ending → World → Prop} {k h n tg bi : Int} (hm : ∀ w1, Below w.heap.size w w1 → Calls Tryz.prog 31 #[.pointer (some ⟨p, 0, none⟩), .agg #[.int .u8 k, .int .i64 h, .int .u8 0, .int .i64 0, .string ⟨#[]⟩, .slice none 0 0, .int .i64 0, .slice none 0 0, .int .i64 n, .int .i64 0, .int .i64 tg, .int .i64 bi, .int .u8 0, .bool false, .slice none 0 0, .slice none 0 0]] w1 fun e w' => ∃ a b : Int, e = .returned (.tuple #[.int .i64 a, .int .i64 b]) ∧ R (.returned (.tuple #[.int .i64 a, .int .i64 b])) w') :
    Calls Tryz.prog 50 #[.pointer (some ⟨p, 0, none⟩), .agg #[.int .u8 k, .int .i64 h, .int .u8 0, .int .i64 0, .string ⟨#[]⟩, .slice none 0 0, .int .i64 0, .slice none 0 0, .int .i64 n, .int .i64 0, .int .i64 tg, .int .i64 bi, .int .u8 0, .bool false, .slice none 0 0, .slice none 0 0]] w fun e w' => Hid (R e w') := by
  have HM := (show Hid _ from hm)
  clear hm
  have B1 := blk_new w (.cells #[.int .u8 k, .int .i64 h, .int .u8 0, .int .i64 0, .string ⟨#[]⟩, .slice none 0 0, .int .i64 0, .slice none 0 0, .int .i64 n, .int .i64 0, .int .i64 tg, .int .i64 bi, .int .u8 0, .bool false, .slice none 0 0, .slice none 0 0] 53)
  have hld := loadWhat_blk B1 rfl
  clear B1
  go_enter Tryz.func50, Tryz.ntmps50
  go_wp2_with fail
  refine Calls.mono (HM.out _ ((Below.refl _ w).alloc (Nat.le_refl _) _)) ?_
  rintro e w1 ⟨a, b, rfl, hR⟩
  have HR := (show Hid _ from hR)
  clear hR hld
  go_wp2_with fail
  go_ret2
  exact HR.out

set_option maxRecDepth 8000 in
theorem tMake1_ok (w : World) (u : FrameMode) (b8 b3 b9 b6 b7 : Nat) (h : w.cell? ⟨b8, 0, none⟩ = some (.int .i64 0)) :
    CallsD Tryz.prog 48 #[.pointer (some ⟨b8, 0, none⟩), .pointer (some ⟨b3, 0, none⟩), .pointer (some ⟨b9, 0, none⟩), .pointer (some ⟨b6, 0, none⟩), .pointer (some ⟨b7, 0, none⟩)] u w fun e u' w' => u' = u ∧ e = .returned (.tuple #[]) ∧ w = w' := by
  go_enter_d Tryz.func48, Tryz.ntmps48
  go_wp2
  go_end0
  exact ⟨rfl, rfl⟩

theorem Grew.after_below {F F' : Nat → Prop} {a b c : World} (h : Below a.heap.size a b) (k : Grew F b F' c) : Grew F a F' c := by
  refine ⟨Below.keeps h k.1, fun x hx => ?_⟩
  rcases k.2 x hx with h' | h'
  · exact .inl h'
  · exact .inr (Nat.le_trans h.size h')
/-- What made leaves where there is room. -/
def MadeOk (w : World) (p : Nat) (M : WM) (F : Nat → Prop) (t : Th) (e : Ending) (w' : World) : Prop :=
  e = .returned (.tuple #[.int .i64 (M.last + 1), .int .i64 0]) ∧ ∃ F', IsW w' p (M.add t) F' ∧ Grew F w F' w'
abbrev tallyT (h n : Int) : Th := lt 3 h 0 0 n 0 0 0 0 false
abbrev tapT (h r n : Int) : Th := lt 16 h 0 0 0 0 r n 0 false

theorem made_tally (hW : IsW w p M F) (hl : M.last + 1 ≤ 1099511627776) {h : Int} (home : 0 ≤ h ∧ h < M.made.length) (room : M.made.getD h.toNat 0 < 512) :
    Calls Tryz.prog 50 #[.pointer (some ⟨p, 0, none⟩), .agg #[.int .u8 3, .int .i64 h, .int .u8 0, .int .i64 0, .string ⟨#[]⟩, .slice none 0 0, .int .i64 0, .slice none 0 0, .int .i64 0, .int .i64 0, .int .i64 0, .int .i64 0, .int .u8 0, .bool false, .slice none 0 0, .slice none 0 0]] w fun e w' => Hid (MadeOk w p M F (tallyT h 0) e w') :=
  tmade_W (R := MadeOk w p M F (tallyT h 0)) fun w1 hb => (Make_3 (hW.below hb) hl home (n := 0) (by decide)).mono fun e w' hm => by
    rcases hm with ⟨-, rfl, F', h1, h2⟩ | ⟨hx, -⟩
    · rw [makeM, if_neg (by simp)] at h1
      exact ⟨_, _, rfl, rfl, F', h1, h2.after_below hb⟩
    · exact absurd room hx
theorem made_tap (hW : IsW w p M F) (hl : M.last + 1 ≤ 1099511627776) {h : Int} (home : 0 ≤ h ∧ h < M.made.length) (room : M.made.getD h.toNat 0 < 512) {r n c : Int} {v : Th} (hr : M.at r = some v) (hn : M.at n = some (tallyT h c)) :
    Calls Tryz.prog 50 #[.pointer (some ⟨p, 0, none⟩), .agg #[.int .u8 16, .int .i64 h, .int .u8 0, .int .i64 0, .string ⟨#[]⟩, .slice none 0 0, .int .i64 0, .slice none 0 0, .int .i64 0, .int .i64 0, .int .i64 r, .int .i64 n, .int .u8 0, .bool false, .slice none 0 0, .slice none 0 0]] w fun e w' => Hid (MadeOk w p M F (tapT h r n) e w') :=
  tmade_W (R := MadeOk w p M F (tapT h r n)) fun w1 hb => (Make_16 (hW.below hb) hl home (hW.ok.at_wf hr) (hW.ok.at_wf hn) hn rfl rfl hr).mono fun e w' hm => by
    rcases hm with ⟨-, rfl, F', h1, h2⟩ | ⟨hx, -⟩
    · rw [makeM, if_neg (by simp)] at h1
      exact ⟨_, _, rfl, rfl, F', h1, h2.after_below hb⟩
    · exact absurd room hx

theorem four (w : World) (o1 o2 o3 o4 : Obj) : Below w.heap.size w ((((w.alloc o1).alloc o2).alloc o3).alloc o4) ∧ ((((w.alloc o1).alloc o2).alloc o3).alloc o4).heap[w.heap.size]? = some o1 ∧ ((((w.alloc o1).alloc o2).alloc o3).alloc o4).heap[w.heap.size + 1]? = some o2 ∧
    ((((w.alloc o1).alloc o2).alloc o3).alloc o4).heap[w.heap.size + 2]? = some o3 ∧ ((((w.alloc o1).alloc o2).alloc o3).alloc o4).heap[w.heap.size + 3]? = some o4 ∧ ((((w.alloc o1).alloc o2).alloc o3).alloc o4).heap.size = w.heap.size + 4 := by
  have h3 := blk_new ((w.alloc o1).alloc o2) o3
  have h4 := blk_new (((w.alloc o1).alloc o2).alloc o3) o4
  simp only [World.size_alloc] at h3 h4
  exact ⟨((((Below.refl _ w).alloc (Nat.le_refl _) _).alloc (by simp) _).alloc (by simp; omega) _).alloc (by simp; omega) _, blk_old _ _ (blk_old _ _ (blk2_old w o1 o2)), blk_old _ _ (blk_old _ _ (blk2_new w o1 o2)), blk_old _ _ h3, h4, by simp⟩
theorem Grew.trans' {F F' F'' : Nat → Prop} {a b c : World} (h : Grew F a F' b) (k : Grew F' b F'' c) : Grew F a F'' c := by
  obtain ⟨h1, h2⟩ := h
  obtain ⟨k1, k2⟩ := k
  refine ⟨⟨k1.os.trans h1.os, k1.tape.trans h1.tape, k1.output.trans h1.output, Nat.le_trans h1.size k1.size, fun x hx hF => (k1.block x (Nat.lt_of_lt_of_le hx h1.size) (fun e => ?_)).trans (h1.block x hx hF)⟩, fun x hx => ?_⟩
  · rcases h2 x e with h | h
    · exact hF h
    · omega
  · rcases k2 x hx with h | h
    · exact h2 x h
    · exact .inr (Nat.le_trans h1.size h)
theorem Grew.put {F F' : Nat → Prop} {a b : World} (h : Grew F a F' b) (q : Nat) (hq : a.heap.size ≤ q) (v : Value) : Grew F a F' (b.setCell ⟨q, 0, none⟩ v) :=
  ⟨⟨h.1.os, h.1.tape, h.1.output, by simpa [World.setCell] using h.1.size, fun x hx hF => (Below.heap_setCell _ _ _ _ (by show x ≠ q; omega)).trans (h.1.block x hx hF)⟩, h.2⟩

set_option maxHeartbeats 4000000 in
set_option maxRecDepth 100000 in
theorem tMake_W (hW : IsW w p M F) (light : Hid (∀ r t, M.at r = some t → Lite t)) (hl : M.last + 2 ≤ 1099511627776) {h r : Int} (home : 0 ≤ h ∧ h < M.made.length) (room : M.made.getD h.toNat 0 + 1 < 512) {v : Th} (hr : M.at r = some v) :
    Calls Tryz.prog 16 #[.pointer (some ⟨p, 0, none⟩), .int .i64 h, .int .i64 r] w fun e w' => e = .returned (.tuple #[.int .i64 (M.last + 2), .int .i64 (M.last + 1), .int .i64 0]) ∧
      ∃ F', IsW w' p ((M.add (tallyT h 0)).add (tapT h r (M.last + 1))) F' ∧ Grew F w F' w' := by
  have hmf : ∀ (fn : Fn) (first cap : Array Value) (w : World), (Instr.makeFunc fn first cap).run Tryz.prog w = .ok (.func fn first cap) w := fun _ _ _ _ => rfl
  have HW := (show Hid (IsW w p M F) from hW)
  have Hhome := (show Hid (0 ≤ h ∧ h < M.made.length) from home)
  have Hr := (show Hid (M.at r = some v) from hr)
  clear hW home hr
  go_enter_defers Tryz.func16, Tryz.ntmps16
  go_wp2_with fail
  obtain ⟨hb4, q3, q6, q7, q8, hs4⟩ := four w (.cells #[.pointer (some ⟨p, 0, none⟩)] 26) (.cells #[.int .i64 0] 35) (.cells #[.int .i64 0] 35) (.cells #[.int .i64 0] 27)
  revert hb4 q3 q6 q7 q8 hs4
  generalize (((w.alloc _).alloc _).alloc _).alloc _ = w4
  intro hb4 q3 q6 q7 q8 hs4
  have c3 : w4.cell? ⟨w.heap.size, 0, none⟩ = some (.pointer (some ⟨p, 0, none⟩)) := by rw [cell_blk q3]; rfl
  have c8 : w4.cell? ⟨w.heap.size + 3, 0, none⟩ = some (.int .i64 0) := by rw [cell_blk q8]; rfl
  have f8 : w4.frozen? ⟨w.heap.size + 3, 0, none⟩ = false := frozen_blk q8 0
  have hsame : w4.setCell ⟨w.heap.size + 3, 0, none⟩ (.int .i64 0) = w4 := setCell_same q8 rfl
  have HQ := (show Hid _ from And.intro q3 (And.intro q6 (And.intro q7 q8)))
  have HB4 := (show Hid (Below w.heap.size w w4 ∧ w4.heap.size = w.heap.size + 4) from ⟨hb4, hs4⟩)
  clear q3 q6 q7 q8 hb4 hs4
  go_wp2_with fail
  refine (tmay_W (HW.out.below HB4.out.1) Hhome.out (HW.out.ok.at_wf Hr.out) Hr.out).mono ?_
  rintro e _ ⟨rfl, rfl⟩
  go_wp2_with fail
  refine (Copy_W (HW.out.below HB4.out.1) light).mono ?_
  rintro e w5 ⟨p', F5, rfl, hW5, hF5, hb5⟩
  have hq := HQ.out
  have hb45 : ∀ b, b < w.heap.size + 4 → w5.heap[b]? = w4.heap[b]? := fun b hb => hb5.block b (by have := HB4.out.2; omega)
  have hs5 : w.heap.size + 4 ≤ w5.heap.size := by have := hb5.size; have := HB4.out.2; omega
  have q9 := blk_new w5 (.cells #[.pointer (some ⟨p', 0, none⟩)] 26)
  have hB6 : Below w5.heap.size w5 (w5.alloc (.cells #[.pointer (some ⟨p', 0, none⟩)] 26)) := (Below.refl _ _).alloc (Nat.le_refl _) _
  have HQ6 : Hid ((w5.alloc (.cells #[.pointer (some ⟨p', 0, none⟩)] 26)).heap[w.heap.size]? = some (.cells #[.pointer (some ⟨p, 0, none⟩)] 26 (0, 0)) ∧ (w5.alloc (.cells #[.pointer (some ⟨p', 0, none⟩)] 26)).heap[w.heap.size + 1]? = some (.cells #[.int .i64 0] 35 (0, 0)) ∧
      (w5.alloc (.cells #[.pointer (some ⟨p', 0, none⟩)] 26)).heap[w.heap.size + 2]? = some (.cells #[.int .i64 0] 35 (0, 0)) ∧ (w5.alloc (.cells #[.pointer (some ⟨p', 0, none⟩)] 26)).heap[w.heap.size + 3]? = some (.cells #[.int .i64 0] 27 (0, 0)) ∧
      (w5.alloc (.cells #[.pointer (some ⟨p', 0, none⟩)] 26)).heap[w5.heap.size]? = some (.cells #[.pointer (some ⟨p', 0, none⟩)] 26 (0, 0))) :=
    ⟨(hB6.block _ (by omega)).trans ((hb45 _ (by omega)).trans hq.1), (hB6.block _ (by omega)).trans ((hb45 _ (by omega)).trans hq.2.1), (hB6.block _ (by omega)).trans ((hb45 _ (by omega)).trans hq.2.2.1), (hB6.block _ (by omega)).trans ((hb45 _ (by omega)).trans hq.2.2.2), q9⟩
  have HB6 : Hid (Below w.heap.size w (w5.alloc (.cells #[.pointer (some ⟨p', 0, none⟩)] 26)) ∧ w.heap.size + 4 ≤ w5.heap.size ∧ w5.heap.size < (w5.alloc (.cells #[.pointer (some ⟨p', 0, none⟩)] 26)).heap.size) :=
    ⟨(HB4.out.1.trans (hb5.mono HB4.out.1.size)).trans (hB6.mono (by omega)), hs5, by simp⟩
  clear hq hb45 hs5 q9 hB6 hb5 hW5 hF5 c3 c8 f8 hsame HQ HB4
  go_upto_region 6 with fail
  revert HQ6 HB6
  generalize w5.alloc _ = w6
  generalize w5.heap.size = b9
  intro HQ6 HB6
  clear w5
  have c3 : w6.cell? ⟨w.heap.size, 0, none⟩ = some (.pointer (some ⟨p, 0, none⟩)) := by rw [cell_blk HQ6.out.1]; rfl
  have hmt := made_tally (HW.out.below HB6.out.1) (by omega) Hhome.out (by omega)
  have HMT := (show Hid _ from hmt)
  clear hmt
  go_wp2_with fail
  refine Calls.mono HMT.out ?_
  rintro e w7 HM7
  obtain ⟨rfl, F7, hW7, hg7⟩ := HM7.out
  have hq := HQ6.out
  have hb := HB6.out
  have hlt : ∀ b, F b → b < w.heap.size := HW.out.lt
  have hn7 : ∀ b, w.heap.size ≤ b → b < w6.heap.size → ¬ F7 b := fun b h1 h2 e => by
    rcases hg7.2 b e with h | h
    · have := hlt b h; omega
    · omega
  have hk7 : ∀ b, w.heap.size ≤ b → b < w6.heap.size → w7.heap[b]? = w6.heap[b]? := fun b h1 h2 => hg7.1.block b h2 (fun e => by have := hlt b e; omega)
  have r3 := (hk7 _ (Nat.le_refl _) (by omega)).trans hq.1
  have r6 := (hk7 _ (by omega) (by omega)).trans hq.2.1
  have r7 := (hk7 _ (by omega) (by omega)).trans hq.2.2.1
  have r8 := (hk7 _ (by omega) (by omega)).trans hq.2.2.2.1
  have r9 := (hk7 _ (by omega) (by omega)).trans hq.2.2.2.2
  have f7 : w7.frozen? ⟨w.heap.size + 2, 0, none⟩ = false := frozen_blk r7 0
  have c7' : w7.cell? ⟨w.heap.size + 2, 0, none⟩ = some (.int .i64 0) := by rw [cell_blk r7]; rfl
  have s3 := blk_other r3 ⟨w.heap.size + 2, 0, none⟩ (.int .i64 (M.last + 1)) (by show w.heap.size ≠ w.heap.size + 2; omega)
  have s6 := blk_other r6 ⟨w.heap.size + 2, 0, none⟩ (.int .i64 (M.last + 1)) (by show w.heap.size + 1 ≠ w.heap.size + 2; omega)
  have s7 := blk_setCell r7 0 (.int .i64 (M.last + 1))
  have s8 := blk_other r8 ⟨w.heap.size + 2, 0, none⟩ (.int .i64 (M.last + 1)) (by show w.heap.size + 3 ≠ w.heap.size + 2; omega)
  have s9 := blk_other r9 ⟨w.heap.size + 2, 0, none⟩ (.int .i64 (M.last + 1)) (by show b9 ≠ w.heap.size + 2; omega)
  have e8 : (w7.setCell ⟨w.heap.size + 2, 0, none⟩ (.int .i64 (M.last + 1))).setCell ⟨w.heap.size + 3, 0, none⟩ (.int .i64 0) = w7.setCell ⟨w.heap.size + 2, 0, none⟩ (.int .i64 (M.last + 1)) := setCell_same s8 rfl
  have g8 : (w7.setCell ⟨w.heap.size + 2, 0, none⟩ (.int .i64 (M.last + 1))).frozen? ⟨w.heap.size + 3, 0, none⟩ = false := frozen_blk s8 0
  have c8' : (w7.setCell ⟨w.heap.size + 2, 0, none⟩ (.int .i64 (M.last + 1))).cell? ⟨w.heap.size + 3, 0, none⟩ = some (.int .i64 0) := by rw [cell_blk s8]; rfl
  have HW8 : Hid (IsW (w7.setCell ⟨w.heap.size + 2, 0, none⟩ (.int .i64 (M.last + 1))) p (M.add (tallyT h 0)) F7 ∧ Grew F w F7 (w7.setCell ⟨w.heap.size + 2, 0, none⟩ (.int .i64 (M.last + 1)))) :=
    ⟨hW7.keeps (Keeps.setCell (S := fun b => b = w.heap.size + 2) w7 _ _ rfl) (fun b hb' e => hn7 b (by omega) (by omega) hb'), (hg7.after_below HB6.out.1).put _ (by omega) _⟩
  have HQ8 := (show Hid _ from And.intro s3 (And.intro s6 (And.intro s7 (And.intro s8 s9))))
  have HN8 : Hid (w.heap.size + 4 ≤ b9 ∧ b9 < (w7.setCell ⟨w.heap.size + 2, 0, none⟩ (.int .i64 (M.last + 1))).heap.size ∧ ∀ b, w.heap.size ≤ b → b ≤ b9 → ¬ F7 b) :=
    ⟨hb.2.1, by have := blk_lt s9; simpa [World.setCell] using this, fun b h1 h2 => hn7 b h1 (by omega)⟩
  clear hq hb hlt hn7 hk7 r3 r6 r7 r8 r9 s3 s6 s7 s8 s9 hW7 hg7 HM7 HMT c3 HQ6 HB6
  go_upto_region 7 with fail
  clear f7 c7' e8 g8 c8'
  revert HW8 HQ8 HN8
  generalize w7.setCell _ _ = w8
  intro HW8 HQ8 HN8
  clear w7 w6
  have c3 : w8.cell? ⟨w.heap.size, 0, none⟩ = some (.pointer (some ⟨p, 0, none⟩)) := by rw [cell_blk HQ8.out.1]; rfl
  have c7 : w8.cell? ⟨w.heap.size + 2, 0, none⟩ = some (.int .i64 (M.last + 1)) := by rw [cell_blk HQ8.out.2.2.1]; rfl
  have c8 : w8.cell? ⟨w.heap.size + 3, 0, none⟩ = some (.int .i64 0) := by rw [cell_blk HQ8.out.2.2.2.1]; rfl
  have hok := HW.out.ok
  have hmade : (M.add (tallyT h 0)).made.getD h.toNat 0 = M.made.getD h.toNat 0 + 1 ∧ (M.add (tallyT h 0)).made.length = M.made.length := by
    have e : (M.add (tallyT h 0)).made = M.made.set h.toNat (M.made.getD h.toNat 0 + 1) := if_neg (t := M.made) (show ¬ ((3 : Int) = 14) by decide)
    have := Hhome.out
    rw [e]
    refine ⟨?_, by simp⟩
    rw [List.getD_eq_getElem?_getD, List.getElem?_set_self (by omega)]
    rfl
  have hmt := made_tap HW8.out.1 (h := h) (r := r) (n := M.last + 1) (c := 0) (show M.last + 1 + 1 ≤ _ by omega) (by rw [hmade.2]; exact Hhome.out) (by rw [hmade.1]; exact room) (WM.add_at_old hok _ Hr.out) (WM.add_at_new hok _)
  have HMT := (show Hid _ from hmt)
  clear hmt hok hmade
  go_wp2_with fail
  refine Calls.mono HMT.out ?_
  rintro e w9 HM9
  obtain ⟨rfl, F9, hW9, hg9⟩ := HM9.out
  rw [show (M.add (tallyT h 0)).last + 1 = M.last + 2 by show M.last + 1 + 1 = _; omega]
  have hq := HQ8.out
  have hb := HN8.out
  have hk9 : ∀ b, w.heap.size ≤ b → b ≤ b9 → w9.heap[b]? = w8.heap[b]? := fun b h1 h2 => hg9.1.block b (by omega) (hb.2.2 b h1 h2)
  have hn9 : ∀ b, w.heap.size ≤ b → b ≤ b9 → ¬ F9 b := fun b h1 h2 e => by
    rcases hg9.2 b e with h | h
    · exact hb.2.2 b h1 h2 h
    · omega
  have r3 := (hk9 _ (Nat.le_refl _) (by omega)).trans hq.1
  have r6 := (hk9 _ (by omega) (by omega)).trans hq.2.1
  have r7 := (hk9 _ (by omega) (by omega)).trans hq.2.2.1
  have r8 := (hk9 _ (by omega) (by omega)).trans hq.2.2.2.1
  have f6 : w9.frozen? ⟨w.heap.size + 1, 0, none⟩ = false := frozen_blk r6 0
  have c6' : w9.cell? ⟨w.heap.size + 1, 0, none⟩ = some (.int .i64 0) := by rw [cell_blk r6]; rfl
  have s6 := blk_setCell r6 0 (.int .i64 (M.last + 2))
  have s7 := blk_other r7 ⟨w.heap.size + 1, 0, none⟩ (.int .i64 (M.last + 2)) (by show w.heap.size + 2 ≠ w.heap.size + 1; omega)
  have s8 := blk_other r8 ⟨w.heap.size + 1, 0, none⟩ (.int .i64 (M.last + 2)) (by show w.heap.size + 3 ≠ w.heap.size + 1; omega)
  have e8 : (w9.setCell ⟨w.heap.size + 1, 0, none⟩ (.int .i64 (M.last + 2))).setCell ⟨w.heap.size + 3, 0, none⟩ (.int .i64 0) = w9.setCell ⟨w.heap.size + 1, 0, none⟩ (.int .i64 (M.last + 2)) := setCell_same s8 rfl
  have g8 : (w9.setCell ⟨w.heap.size + 1, 0, none⟩ (.int .i64 (M.last + 2))).frozen? ⟨w.heap.size + 3, 0, none⟩ = false := frozen_blk s8 0
  have c8' : (w9.setCell ⟨w.heap.size + 1, 0, none⟩ (.int .i64 (M.last + 2))).cell? ⟨w.heap.size + 3, 0, none⟩ = some (.int .i64 0) := by rw [cell_blk s8]; rfl
  have HW10 : Hid (IsW (w9.setCell ⟨w.heap.size + 1, 0, none⟩ (.int .i64 (M.last + 2))) p ((M.add (tallyT h 0)).add (tapT h r (M.last + 1))) F9 ∧ Grew F w F9 (w9.setCell ⟨w.heap.size + 1, 0, none⟩ (.int .i64 (M.last + 2)))) :=
    ⟨hW9.keeps (Keeps.setCell (S := fun b => b = w.heap.size + 1) w9 _ _ rfl) (fun b hb' e => hn9 b (by omega) (by omega) hb'), (HW8.out.2.trans' hg9).put _ (by omega) _⟩
  have HQ10 := (show Hid _ from And.intro s6 (And.intro s7 s8))
  clear hq hb hk9 hn9 r3 r6 r7 r8 s6 s7 s8 hW9 hg9 HM9 HMT c3 c7 c8 HQ8 HN8 HW8
  go_wp2_with fail
  revert HW10 HQ10 c8'
  clear f6 c6' e8 g8
  generalize w9.setCell _ _ = w10
  intro c8' HW10 HQ10
  refine leaves_cons (f := 48) (args := #[.pointer (some ⟨w.heap.size + 3, 0, none⟩), .pointer (some ⟨w.heap.size, 0, none⟩), .pointer (some ⟨b9, 0, none⟩), .pointer (some ⟨w.heap.size + 1, 0, none⟩), .pointer (some ⟨w.heap.size + 2, 0, none⟩)]) (by simp) (by simp [go_sem]) ?_
  refine (tMake1_ok w10 .returning (w.heap.size + 3) w.heap.size b9 (w.heap.size + 1) (w.heap.size + 2) c8').mono ?_
  rintro e u' _ ⟨rfl, rfl, rfl⟩
  have c6 : w10.cell? ⟨w.heap.size + 1, 0, none⟩ = some (.int .i64 (M.last + 2)) := by rw [cell_blk HQ10.out.1]; rfl
  have c7 : w10.cell? ⟨w.heap.size + 2, 0, none⟩ = some (.int .i64 (M.last + 1)) := by rw [cell_blk HQ10.out.2.1]; rfl
  refine ⟨.tuple #[.int .i64 (M.last + 2), .int .i64 (M.last + 1), .int .i64 0], ?_, rfl, F9, HW10.out.1, HW10.out.2⟩
  simp [results, Tryz.f16, go_sem, c6, c7, c8']
end Go.Proofs.YtmefjkggibbhoaaGreat
/- Taps: Tally, Count, count. -/
namespace Go.Proofs.YtmefjkggibbhoaaGreat
open Go.RowKit Go.ChangeMaps Go.MapKept
variable {w : World} {p : Nat} {M : WM} {F : Nat → Prop}

set_option maxRecDepth 8000 in
theorem Tally_tap (hW : IsW w p M F) {r h tg n : Int} (ht : M.at r = some (tapT h tg n)) :
    Calls Tryz.prog 19 #[.pointer (some ⟨p, 0, none⟩), .int .i64 r] w fun e w' => e = .returned (.tuple #[.int .i64 n, .int .i64 0]) ∧ Below w.heap.size w w' := by
  have HQ := (show Hid _ from What_lt hW (hW.ok.at_wf ht) ht plain0)
  clear hW ht
  go_enter Tryz.func19, Tryz.ntmps19
  go_wp2_with fail
  refine Calls.mono HQ.out ?_
  rintro e w1 ⟨rfl, hb1⟩
  obtain ⟨w2, hst, hb2, hg2⟩ := box_what w1 #[.int .u8 16, .int .i64 h, .int .u8 0, .int .i64 0, .string ⟨#[]⟩, .slice none 0 0, .int .i64 0, .slice none 0 0, .int .i64 0, .int .i64 0, .int .i64 tg, .int .i64 n, .int .u8 0, .bool false, .slice none 0 0, .slice none 0 0] rfl (by simp [go_sem])
  have HB2 := (show Hid (Below w.heap.size w w2) from hb1.trans (hb2.mono hb1.size))
  have c0 : w2.cell? ⟨w1.heap.size, 0, none⟩ = some (.int .u8 16) := by rw [cell_blk hg2]; rfl
  have c11 : w2.cell? ⟨w1.heap.size, 11, none⟩ = some (.int .i64 n) := by rw [cell_blk hg2]; rfl
  clear hb1 hb2 hg2
  go_wp2_with fail
  go_ret2
  exact ⟨rfl, HB2.out⟩

set_option maxRecDepth 8000 in
theorem Tally_not (hW : IsW w p M F) {r k h vk vn n l tg bi s : Int} {fu : Bool} (ht : M.at r = some (lt k h vk vn n l tg bi s fu)) (hp : Plain vk vn) (hk : k ≠ 16) :
    Calls Tryz.prog 19 #[.pointer (some ⟨p, 0, none⟩), .int .i64 r] w fun e w' => e = .returned (.tuple #[.int .i64 0, .int .i64 130]) ∧ Below w.heap.size w w' := by
  have HQ := (show Hid _ from What_lt hW (hW.ok.at_wf ht) ht hp)
  have hk2 : (k != 16) = true := by simpa using hk
  clear hW ht hk
  go_enter Tryz.func19, Tryz.ntmps19
  go_wp2_with fail
  refine Calls.mono HQ.out ?_
  rintro e w1 ⟨rfl, hb1⟩
  obtain ⟨w2, hst, hb2, hg2⟩ := box_what w1 #[.int .u8 k, .int .i64 h, .int .u8 vk, .int .i64 vn, .string ⟨#[]⟩, .slice none 0 0, .int .i64 0, .slice none 0 0, .int .i64 n, .int .i64 l, .int .i64 tg, .int .i64 bi, .int .u8 s, .bool fu, .slice none 0 0, .slice none 0 0] rfl (by simp [go_sem])
  have HB2 := (show Hid (Below w.heap.size w w2) from hb1.trans (hb2.mono hb1.size))
  have c0 : w2.cell? ⟨w1.heap.size, 0, none⟩ = some (.int .u8 k) := by rw [cell_blk hg2]; rfl
  clear hb1 hb2 hg2
  go_wp2_with fail
  go_ret2
  exact ⟨rfl, HB2.out⟩

set_option maxRecDepth 8000 in
theorem Count_tap (hW : IsW w p M F) {r h tg n h' c : Int} (ht : M.at r = some (tapT h tg n)) (hn : M.at n = some (tallyT h' c)) :
    Calls Tryz.prog 18 #[.pointer (some ⟨p, 0, none⟩), .int .i64 r] w fun e w' => e = .returned (.tuple #[.int .i64 c, .int .i64 0]) ∧ Below w.heap.size w w' := by
  have HT := (show Hid _ from Tally_tap hW ht)
  have HQ : Hid (∀ w1, Below w.heap.size w w1 → Calls Tryz.prog 14 #[.pointer (some ⟨p, 0, none⟩), .int .i64 n] w1 fun e w' => e = .returned (.tuple #[.agg #[.int .u8 3, .int .i64 h', .int .u8 0, .int .i64 0, .string ⟨#[]⟩, .slice none 0 0, .int .i64 0, .slice none 0 0, .int .i64 c, .int .i64 0, .int .i64 0, .int .i64 0, .int .u8 0, .bool false, .slice none 0 0, .slice none 0 0], .int .i64 0]) ∧ Below w1.heap.size w1 w') := fun w1 hb => What_lt (hW.below hb) (hW.ok.at_wf hn) hn plain0
  clear hW ht hn
  go_enter Tryz.func18, Tryz.ntmps18
  go_wp2_with fail
  refine Calls.mono HT.out ?_
  rintro e w1 ⟨rfl, hb1⟩
  have HB1 := (show Hid (Below w.heap.size w w1) from hb1)
  clear hb1
  go_wp2_with fail
  refine Calls.mono (HQ.out w1 HB1.out) ?_
  rintro e w2 ⟨rfl, hb2⟩
  obtain ⟨w3, hst, hb3, hg3⟩ := box_what w2 #[.int .u8 3, .int .i64 h', .int .u8 0, .int .i64 0, .string ⟨#[]⟩, .slice none 0 0, .int .i64 0, .slice none 0 0, .int .i64 c, .int .i64 0, .int .i64 0, .int .i64 0, .int .u8 0, .bool false, .slice none 0 0, .slice none 0 0] rfl (by simp [go_sem])
  have HB3 := (show Hid (Below w.heap.size w w3) from HB1.out.trans ((hb2.trans (hb3.mono hb2.size)).mono HB1.out.size))
  have c8 : w3.cell? ⟨w2.heap.size, 8, none⟩ = some (.int .i64 c) := by rw [cell_blk hg3]; rfl
  clear hb2 hb3 hg3
  go_wp2_with fail
  go_ret2
  exact ⟨rfl, HB3.out⟩

set_option maxRecDepth 8000 in
theorem Count_not (hW : IsW w p M F) {r k h vk vn n l tg bi s : Int} {fu : Bool} (ht : M.at r = some (lt k h vk vn n l tg bi s fu)) (hp : Plain vk vn) (hk : k ≠ 16) :
    Calls Tryz.prog 18 #[.pointer (some ⟨p, 0, none⟩), .int .i64 r] w fun e w' => e = .returned (.tuple #[.int .i64 0, .int .i64 130]) ∧ Below w.heap.size w w' := by
  have HT := (show Hid _ from Tally_not hW ht hp hk)
  clear hW ht hk
  go_enter Tryz.func18, Tryz.ntmps18
  go_wp2_with fail
  refine Calls.mono HT.out ?_
  rintro e w1 ⟨rfl, hb1⟩
  have HB1 := (show Hid (Below w.heap.size w w1) from hb1)
  clear hb1
  go_wp2_with fail
  go_ret2
  exact ⟨rfl, HB1.out⟩

/-- A tally one on. -/
def up (c : Int) : Int := min (c + 1) 9007199254740992

set_option maxHeartbeats 1000000 in
set_option maxRecDepth 8000 in
theorem count_W (hW : IsW w p M F) {r h tg n h' c : Int} (ht : M.at r = some (tapT h tg n)) (hn : M.at n = some (tallyT h' c)) (home : 0 ≤ h' ∧ h' < M.made.length) (hc : 0 ≤ c ∧ c ≤ 9007199254740992) :
    Calls Tryz.prog 43 #[.agg #[.pointer (some ⟨p, 0, none⟩)], .int .i64 r] w fun e w' => e = .returned (.tuple #[]) ∧ IsW w' p (M.set n (tallyT h' (up c))) F ∧ Keeps F w w' := by
  have HQ : Hid (∀ w1, Below w.heap.size w w1 → Calls Tryz.prog 14 #[.pointer (some ⟨p, 0, none⟩), .int .i64 r] w1 fun e w' => e = .returned (.tuple #[.agg #[.int .u8 16, .int .i64 h, .int .u8 0, .int .i64 0, .string ⟨#[]⟩, .slice none 0 0, .int .i64 0, .slice none 0 0, .int .i64 0, .int .i64 0, .int .i64 tg, .int .i64 n, .int .u8 0, .bool false, .slice none 0 0, .slice none 0 0], .int .i64 0]) ∧ Below w1.heap.size w1 w') := fun w1 hb => What_lt (hW.below hb) (hW.ok.at_wf ht) ht plain0
  have HQ2 : Hid (∀ w1, Below w.heap.size w w1 → Calls Tryz.prog 14 #[.pointer (some ⟨p, 0, none⟩), .int .i64 n] w1 fun e w' => e = .returned (.tuple #[.agg #[.int .u8 3, .int .i64 h', .int .u8 0, .int .i64 0, .string ⟨#[]⟩, .slice none 0 0, .int .i64 0, .slice none 0 0, .int .i64 c, .int .i64 0, .int .i64 0, .int .i64 0, .int .u8 0, .bool false, .slice none 0 0, .slice none 0 0], .int .i64 0]) ∧ Below w1.heap.size w1 w') := fun w1 hb => What_lt (hW.below hb) (hW.ok.at_wf hn) hn plain0
  have HW := (show Hid (IsW w p M F) from hW)
  have Hn := (show Hid (M.at n = some _) from hn)
  have Hhome := (show Hid (0 ≤ h' ∧ h' < M.made.length) from home)
  obtain ⟨hc0, hc1⟩ := hc
  clear hW ht hn home
  go_enter Tryz.func43, Tryz.ntmps43
  go_wp2_with fail
  refine Calls.mono (HQ.out _ ((Below.refl _ w).alloc (Nat.le_refl _) _)) ?_
  rintro e w1 ⟨rfl, hb1⟩
  have hw1 := below_blk hb1 (blk_new w (.cells #[.pointer (some ⟨p, 0, none⟩)] 101))
  have hB1 : Below w.heap.size w w1 := ((Below.refl _ w).alloc (Nat.le_refl _) _).trans (hb1.mono (by simp))
  obtain ⟨w2, hst, hb2, hg2⟩ := box_what w1 #[.int .u8 16, .int .i64 h, .int .u8 0, .int .i64 0, .string ⟨#[]⟩, .slice none 0 0, .int .i64 0, .slice none 0 0, .int .i64 0, .int .i64 0, .int .i64 tg, .int .i64 n, .int .u8 0, .bool false, .slice none 0 0, .slice none 0 0] rfl (by simp [go_sem])
  have hw2 := below_blk hb2 hw1
  have HB2 := (show Hid (Below w.heap.size w w2) from hB1.trans (hb2.mono hB1.size))
  have c0 : w2.cell? ⟨w.heap.size, 0, none⟩ = some (.pointer (some ⟨p, 0, none⟩)) := by rw [cell_blk hw2]; rfl
  have c11 : w2.cell? ⟨w1.heap.size, 11, none⟩ = some (.int .i64 n) := by rw [cell_blk hg2]; rfl
  have HG2 := (show Hid _ from And.intro hw2 hg2)
  have Hlt1 := (show Hid (w.heap.size < w1.heap.size) from blk_lt hw1)
  clear hb1 hw1 hB1 hb2 hg2 hw2
  go_wp2_with fail
  clear hst
  refine Calls.mono (HQ2.out w2 HB2.out) ?_
  rintro e w3 ⟨rfl, hb3⟩
  obtain ⟨w4, hst, hb4, hg4⟩ := box_what w3 #[.int .u8 3, .int .i64 h', .int .u8 0, .int .i64 0, .string ⟨#[]⟩, .slice none 0 0, .int .i64 0, .slice none 0 0, .int .i64 c, .int .i64 0, .int .i64 0, .int .i64 0, .int .u8 0, .bool false, .slice none 0 0, .slice none 0 0] rfl (by simp [go_sem])
  have hb24 : Below w2.heap.size w2 w4 := hb3.trans (hb4.mono hb3.size)
  have hw4 := below_blk hb24 HG2.out.1
  have hu4 := below_blk hb24 HG2.out.2
  have HB4 := (show Hid (Below w.heap.size w w4) from HB2.out.trans (hb24.mono HB2.out.size))
  have hne1 : w.heap.size ≠ w3.heap.size := by have := blk_lt HG2.out.1; have := hb3.size; omega
  have hne2 : w1.heap.size ≠ w3.heap.size := by have := blk_lt HG2.out.2; have := hb3.size; omega
  have hge : w.heap.size ≤ w3.heap.size := Nat.le_trans HB2.out.size hb3.size
  have c8 : w4.cell? ⟨w3.heap.size, 8, none⟩ = some (.int .i64 c) := by rw [cell_blk hg4]; rfl
  have f8 : w4.frozen? ⟨w3.heap.size, 8, none⟩ = false := frozen_blk hg4 8
  have HS : Hid ((w4.setCell ⟨w3.heap.size, 8, none⟩ (.int .i64 (min (c + 1) 9007199254740992))).heap[w.heap.size]? = some (.cells #[.pointer (some ⟨p, 0, none⟩)] 101 (0, 0)) ∧
      (w4.setCell ⟨w3.heap.size, 8, none⟩ (.int .i64 (min (c + 1) 9007199254740992))).heap[w1.heap.size]? = some (.cells #[.int .u8 16, .int .i64 h, .int .u8 0, .int .i64 0, .string ⟨#[]⟩, .slice none 0 0, .int .i64 0, .slice none 0 0, .int .i64 0, .int .i64 0, .int .i64 tg, .int .i64 n, .int .u8 0, .bool false, .slice none 0 0, .slice none 0 0] 53 (0, 0)) ∧
      (w4.setCell ⟨w3.heap.size, 8, none⟩ (.int .i64 (min (c + 1) 9007199254740992))).heap[w3.heap.size]? = some (.cells #[.int .u8 3, .int .i64 h', .int .u8 0, .int .i64 0, .string ⟨#[]⟩, .slice none 0 0, .int .i64 0, .slice none 0 0, .int .i64 (min (c + 1) 9007199254740992), .int .i64 0, .int .i64 0, .int .i64 0, .int .u8 0, .bool false, .slice none 0 0, .slice none 0 0] 53 (0, 0)) ∧
      Below w.heap.size w (w4.setCell ⟨w3.heap.size, 8, none⟩ (.int .i64 (min (c + 1) 9007199254740992)))) :=
    ⟨blk_other hw4 ⟨w3.heap.size, 8, none⟩ _ hne1, blk_other hu4 ⟨w3.heap.size, 8, none⟩ _ hne2, blk_setCell hg4 8 _, HB4.out.setCell (p := ⟨w3.heap.size, 8, none⟩) hge _⟩
  clear hb3 hb4 hg4 hb24 hw4 hu4 hne1 hne2 hge c0 c11 HG2 HQ HQ2
  go_upto_region 4 with fail
  clear hst c8 f8
  revert HS
  generalize w4.setCell _ _ = w5
  intro HS
  have d0 : w5.cell? ⟨w.heap.size, 0, none⟩ = some (.pointer (some ⟨p, 0, none⟩)) := by rw [cell_blk HS.out.1]; rfl
  have d11 : w5.cell? ⟨w1.heap.size, 11, none⟩ = some (.int .i64 n) := by rw [cell_blk HS.out.2.1]; rfl
  have hld := loadWhat_blk HS.out.2.2.1 rfl
  have hW5 := HW.out.below HS.out.2.2.2
  have hlay := Lay_lt hW5 (r := n) (n' := min (c + 1) 9007199254740992) (vk' := 0) (vn' := 0) (l' := 0) (fu' := false) (HW.out.ok.at_wf Hn.out) Hn.out plain0 (fun w hW => form_3 hW h' (min (c + 1) 9007199254740992) (sideB_iff.2 Hhome.out) (by omega))
  have HLAY := (show Hid _ from hlay)
  clear hlay hW5
  go_wp2_with fail
  refine Calls.mono HLAY.out ?_
  rintro e w6 ⟨rfl, hW6, hk6⟩
  have HF6 : Hid (IsW w6 p (M.set n (tallyT h' (up c))) F ∧ Keeps F w w6) := ⟨hW6, Below.keeps HS.out.2.2.2 hk6⟩
  clear hW6 hk6 hld d0 d11 HLAY HS
  go_wp2_with fail
  go_end0
  exact ⟨rfl, HF6.out.1, HF6.out.2⟩
end Go.Proofs.YtmefjkggibbhoaaGreat
