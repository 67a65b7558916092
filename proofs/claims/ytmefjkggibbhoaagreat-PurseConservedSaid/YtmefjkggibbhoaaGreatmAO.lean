/- A part of the proof, several texts in one: Check, Clone, New. -/
import Derived.Test.YtmefjkggibbhoaaGreatmAN
import Derived.Test.YtmefjkggibbhoaaGreatmAG
import Derived.Deep.QuietTactic
import Derived.BigQuiet
import Derived.Test.YtmefjkggibbhoaaGreatmAE
import Derived.Test.YtmefjkggibbhoaaGreatmAC
import Derived.Deep.OwnRows
/- Check: no mint has lost anything. -/
namespace Go.Proofs.YtmefjkggibbhoaaGreat
open Go.RowKit Go.Shelf Go.ChangeMaps Go.MapKept
attribute [local go_sem] Oper.semAt_some

/-- Between two rounds of Check. -/
structure CkAt (w : World) (b0 : Nat) (p : Nat) (W : World) : Prop where
  below : Below w.heap.size w W
  size : b0 ≤ W.heap.size
  q1 : W.heap[w.heap.size]? = some (.cells #[.pointer (some ⟨p, 0, none⟩)] 26 (0, 0))
  q2 : W.heap[w.heap.size + 1]? = some (.cells #[.int .i64 0] 27 (0, 0))
theorem CkAt.grown {w W W' : World} {b0 p : Nat} {row : Option Nat} (h : CkAt w b0 p W) (hb0 : w.heap.size + 2 ≤ b0) (hg : W.grownBy W' row) (hr : ∀ x, row = some x → b0 ≤ x) : CkAt w b0 p W' := by
  have hk : ∀ c, c < b0 → c < W.heap.size → W'.heap[c]? = W.heap[c]? := fun c hc hl => hg.block c hl (fun e => by have := hr c e.symm; omega)
  exact ⟨h.below.grown hg h.below.size (fun k e => by have := hr k e; omega), Nat.le_trans h.size hg.size, (hk _ (by omega) (blk_lt h.q1)).trans h.q1, (hk _ (by omega) (blk_lt h.q2)).trans h.q2⟩

set_option maxHeartbeats 4000000 in
set_option maxRecDepth 100000 in
theorem Check_W {w : World} {p : Nat} {M : WM} {F : Nat → Prop} (hW : IsW w p M F)
    (hP : ∀ x ∈ M.things, x.2.kind = 9 → ∃ h n m, x.2 = purseT h n m ∧ 0 ≤ n)
    (hT : ∀ x ∈ M.things, x.2.kind = 8 → ∃ h N lo, x.2 = mintT h N lo ∧ N - lo = sumF (M.things.filter (isP x.1))) :
    Calls Tryz.prog 27 #[.pointer (some ⟨p, 0, none⟩)] w fun e w' => e = .returned (.int .i64 0) ∧ Below w.heap.size w w' := by
  have HW := (show Hid (IsW w p M F) from hW)
  have HP := (show Hid _ from hP)
  have HT := (show Hid _ from hT)
  clear hW hP hT
  refine (callsIn_wide (n := 5)).1 ?_
  refine callsIn_of_wp_marks Tryz.func27 rfl trivial ?_ rfl
  simp only [Tryz.ntmps27, List.size_toArray, List.length_cons, List.length_nil, Nat.reduceAdd, Nat.reduceSub, Array.replicate_succ, Array.replicate_zero, List.push_toArray, List.append_toArray, List.nil_append, List.cons_append]
  gi_wp2_with fail
  have hB1 : Below w.heap.size w ((w.alloc (.cells #[.pointer (some ⟨p, 0, none⟩)] 26)).alloc (.cells #[.int .i64 0] 27)) := ((Below.refl _ w).alloc (Nat.le_refl _) _).alloc (by simp) _
  have q1 := blk2_old w (.cells #[.pointer (some ⟨p, 0, none⟩)] 26) (.cells #[.int .i64 0] 27)
  have q2 := blk2_new w (.cells #[.pointer (some ⟨p, 0, none⟩)] 26) (.cells #[.int .i64 0] 27)
  have hs1 : ((w.alloc (.cells #[.pointer (some ⟨p, 0, none⟩)] 26)).alloc (.cells #[.int .i64 0] 27)).heap.size = w.heap.size + 2 := by simp
  generalize (w.alloc (.cells #[.pointer (some ⟨p, 0, none⟩)] 26)).alloc (.cells #[.int .i64 0] 27) = w1 at *
  refine ⟨trivial, (callsIn_wide.2 (Sides_W (HW.out.below hB1))).mono ?_⟩
  rintro e _ ⟨rfl, rfl⟩
  have hmd : ((M.made.length : Int) == 0) = false := by
    have := HW.out.ok.made
    exact beq_eq_false_iff_ne.2 (by omega)
  have c1 : w1.cell? ⟨w.heap.size, 0, none⟩ = some (.pointer (some ⟨p, 0, none⟩)) := by rw [cell_blk q1]; rfl
  have HQ := (show Hid _ from And.intro q1 q2)
  have HB1 := (show Hid (Below w.heap.size w w1 ∧ w1.heap.size = w.heap.size + 2) from ⟨hB1, hs1⟩)
  clear q1 q2 hB1 hs1
  gi_wp2_with fail
  refine ⟨trivial, (callsIn_wide.2 (Things_W w1 p)).mono ?_⟩
  rintro e _ ⟨rfl, rfl⟩
  gi_wp2_with fail
  obtain ⟨hq1, hq2⟩ := HQ.out
  have HB4 : Hid (Below w.heap.size w (w1.alloc (.cells #[.pointer (some ⟨p, 0, none⟩)] 26))) := HB1.out.1.alloc HB1.out.1.size _
  have hbx : (w1.alloc (.cells #[.pointer (some ⟨p, 0, none⟩)] 26)).cell? ⟨w1.heap.size, 0, none⟩ = some (.pointer (some ⟨p, 0, none⟩)) := by
    rw [cell_blk (World.alloc_heap_new w1 _)]; rfl
  have hin : CkAt w (w1.alloc (.cells #[.pointer (some ⟨p, 0, none⟩)] 26)).heap.size p (w1.alloc (.cells #[.pointer (some ⟨p, 0, none⟩)] 26)) :=
    ⟨HB4.out, Nat.le_refl _, (Below.heap_alloc _ _ _ (blk_lt hq1)).trans hq1, (Below.heap_alloc _ _ _ (blk_lt hq2)).trans hq2⟩
  have hsz4 : w.heap.size + 2 ≤ (w1.alloc (.cells #[.pointer (some ⟨p, 0, none⟩)] 26)).heap.size := by
    have := HB1.out.2
    simp
    omega
  have hseq := things1_seq (n := 4) (HW.out.below HB4.out) hbx (fun _ _ => False) (fun _ _ _ h => h.elim) (fun y : {x // x ∈ M.things} => y.1) M.things.attach (List.attach_map_subtype_val _)
  have HSQ := (show Hid _ from hseq)
  clear hseq hbx c1 hq1 hq2 HQ HB1
  generalize hw4 : w1.alloc (.cells #[.pointer (some ⟨p, 0, none⟩)] 26) = w4 at *
  clear hw4
  generalize w1.heap.size = bx at *
  refine wpIn_rangeFunc_ownF rfl (by decide) (gf := 44) (lb := #[.pointer (some ⟨bx, 0, none⟩)]) rfl trivial (enters_of Tryz.func44 (by kernel_rfl) rfl) HSQ.out (fun h k => h.trans k)
    (fun W l o o' hl ho hc _ => ⟨by simp, fun b cs e fr hb _ => (World.putObj_heap_other (fun h => by subst h; rw [hb] at ho; cases ho; cases hc)).trans hb, fun _ h => h.elim⟩) (Below.refl _ _) (fun _ => rfl)
    (fun (_ : List {x // x ∈ M.things}) W => CkAt w w4.heap.size p W) (fun _ _ _ => False)
    (fun s W W' row hs hg hr => by exact CkAt.grown hs hsz4 hg (fun x e => (hr x e).1)) (fun _ _ _ _ _ hs _ _ => hs) hin
    (fun x => { tmps := #[.pointer (some ⟨p, 0, none⟩), .pointer (some ⟨w.heap.size, 0, none⟩), .pointer (some ⟨w.heap.size + 1, 0, none⟩), .int .i64 x.1.1, .int .u8 x.1.2.kind, undef, undef, undef, undef, .pointer (some ⟨p, 0, none⟩), .bool false, .bool false, .pointer (some ⟨p, 0, none⟩), .int .i64 M.made.length, .bool false, .bool false, .pointer (some ⟨p, 0, none⟩), .func (.func 44) #[] #[.pointer (some ⟨bx, 0, none⟩)], .int .i64 x.1.1, .int .u8 x.1.2.kind, undef, undef, undef, undef, undef, undef, undef, undef, undef, undef, undef, undef, undef, undef, undef], defers := [] }) ?assign ?body ?done ?stop
  case assign =>
    intro l x W K hK
    gi_wp2
    exact hK
  case body =>
    rintro l pre ⟨⟨i, t⟩, hm⟩ W hI -
    have hat : M.at i = some t := HW.out.ok.at_of_mem hm
    have hiw := HW.out.ok.at_wf hat
    by_cases hk : t.kind = 8
    · obtain ⟨h', n', lo', rfl, hsum⟩ := HT.out (i, t) hm hk
      have hsm := Sum_W (HW.out.below hI.below) hiw hat HP.out
      have hbd := sumF_le (M.things.filter (isP i)) (fun y hy => by
        obtain ⟨h1, h2⟩ := List.mem_filter.1 hy
        have h3 : y.2.kind = 9 := by simp only [isP, Bool.and_eq_true, decide_eq_true_eq] at h2; exact h2.1
        obtain ⟨a, b, c, e, hn⟩ := HP.out y h1 h3
        rw [e]
        exact hn)
      replace hsum : n' - lo' = sumF (M.things.filter (isP i)) := hsum
      generalize sumF (M.things.filter (isP i)) = S at *
      have HSM := (show Hid _ from hsm)
      have HI := (show Hid _ from hI)
      have c1 : W.cell? ⟨w.heap.size, 0, none⟩ = some (.pointer (some ⟨p, 0, none⟩)) := by rw [cell_blk hI.q1]; rfl
      have hwr : wrap64 (n' - lo') = S := by rw [hsum]; unfold wrap64; omega
      clear hsm hI hk hsum hbd
      gi_wp2_with fail
      refine ⟨trivial, (CallsIn.inRound l (callsIn_wide.2 HSM.out)).mono ?_⟩
      rintro e W1 ⟨rfl, hb1⟩
      gi_wp2_with fail
      exact ⟨keepsOthers_of_below hb1, ⟨hb1.size, fun b cs e fr hb _ => (hb1.block b (blk_lt hb)).trans hb, fun _ h => h.elim⟩, CkAt.grown HI.out hsz4 (grownBy_of_below hb1) (fun _ e => by cases e)⟩
    · have hk0 : (t.kind != 8) = true := by simpa using hk
      have HI := (show Hid _ from hI)
      clear hI
      gi_wp2_with fail
      exact ⟨keepsOthers_of_below (Below.refl _ _), KpO.refl _ _, HI.out⟩
  case done =>
    rintro D ys W hD rfl hI hK
    obtain ⟨c2, f2⟩ := box_facts hI.q2
    have HI := (show Hid _ from hI)
    clear hI
    gi_wp2_with fail
    have hne : w.heap.size + 1 ≠ D := by omega
    have hK' : (W.setCell ⟨w.heap.size + 1, 0, none⟩ (.int .i64 0)).heap[D]? = some (.deferred (some [])) := (Below.heap_setCell _ _ _ _ (fun e => hne e.symm)).trans hK
    have hs := heap_setCell_box (.int .i64 0) HI.out.q2
    have c5 : ((W.setCell ⟨w.heap.size + 1, 0, none⟩ (.int .i64 0)).putObj D (.deferred none)).cell? ⟨w.heap.size + 1, 0, none⟩ = some (.int .i64 0) := by
      rw [cell_blk ((World.putObj_heap_other hne).trans hs)]; rfl
    refine ⟨by simp, .inl ⟨_, _, rfl, run_takeDeferred hK', ?_⟩⟩
    refine ⟨.int .i64 0, ?_, rfl, (HI.out.below.setCell (p := ⟨w.heap.size + 1, 0, none⟩) (Nat.le_succ _) _).grown (grownBy_putObj' _ D _) ?_ (fun k e => by cases e; omega)⟩
    · simp [results, Tryz.f27, go_sem, c5]
    · have := HI.out.below.size
      simpa [World.setCell] using this
  case stop =>
    rintro D c pre W _ _ h _
    exact h.elim
end Go.Proofs.YtmefjkggibbhoaaGreat
/- slices.Clone of sides; a region of any order, by what stays true. -/
namespace Go.Proofs.YtmefjkggibbhoaaGreat
open Go.RowKit Go.ChangeMaps Go.MapKept

/-- The sides that a slice holds. -/
def SideS (w : World) (v : Value) (xs : List Int) : Prop :=
  (∃ n c, v = .slice none n c ∧ xs = []) ∨ ∃ b off c, v = .slice (some ⟨b, off, none⟩) xs.length c ∧ ∀ (j : Nat) (x : Int), xs[j]? = some x → w.cell? ⟨b, off + j, none⟩ = some (.int .i64 x)

set_option maxRecDepth 8000 in
theorem cloneSide_nil (w : World) (n c : Nat) : Calls Tryz.prog 32 #[.slice none n c] w fun e w' => e = .returned (.slice none 0 0) ∧ w = w' := by
  go_enter Tryz.func32, Tryz.ntmps32
  go_wp2
  go_ret
  exact ⟨rfl, rfl⟩

theorem infoSide : (Tryz.prog.info? 30).map (fun i => (i.zero, i.size, i.bytes)) = some (some (.int .i64 0), 1, 8) := by kernel_rfl
theorem append_sides {w : World} {ops : Array Oper} {rest : List Oper} {o : Oper} {a : Act} {Q : Exit → Act → World → Prop} (hgd : o.guard = none) (s x : Operand)
    (ho : o.op = .call { callee := .builtin .append, args := #[s, x], argTypes := #[58, 58] }) (A : Addr) (c n : Nat) (xs : List Int) (hs : a.eval s = .slice (some ⟨w.heap.size, 0, none⟩) 0 0) (hn : n = xs.length)
    (hx : a.eval x = .slice (some A) n c) (hc : Hid (∀ (j : Nat) (x : Int), xs[j]? = some x → w.cell? (A.add j) = some (.int .i64 x))) (hn : Hid (xs.length < 16))
    (h : ∀ v' w', w'.ownsRow w.heap.size 30 1 v' xs.length (xs.map (Value.int .i64)) → Below w.heap.size w w' → wpList Tryz.prog ops Q rest (a.put o.dst v') w') : wpList Tryz.prog ops Q (o :: rest) a (w.alloc (.cells #[] 30)) := by
  obtain ⟨i, hi, hz, h1, h2⟩ := info_parts infoSide
  have hn := hn.out
  refine wpList_append_own _ hgd s x 58 ho w.heap.size 30 i (.int .i64 0) 1 8 Tryz.underlying58 hi hz h1 h2 rfl (by decide) (.slice (some ⟨w.heap.size, 0, none⟩) 0 0) 0 [] hs
    ⟨by simp, .inr ⟨w.heap.size, 0, #[], rfl, Nat.le_refl _, blk_new _ _, by omega, by unfold maxLen; omega, by simp, by simp⟩⟩ A n c (xs.map (Value.int .i64)) hx (by simp; omega)
    (fun j u hu => ?_) (fun u hu => ?_) (by unfold maxLen; omega) (by omega) (by simp) ?_
  · rw [List.getElem?_map] at hu
    cases hj : xs[j]? with
    | none => rw [hj] at hu; cases hu
    | some y =>
      rw [hj] at hu
      cases hu
      exact cell_al (hc.out j y hj) _
  · obtain ⟨y, -, rfl⟩ := List.mem_map.1 hu
    rfl
  · intro v' w' r1 r2 _
    have hg : w.grownBy w' (Value.slice (some ⟨w.heap.size, 0, none⟩) 0 0).ownBlock := (World.grownBy_alloc w _ _).trans r2
    refine h v' w' (by simpa [*] using r1) ⟨hg.os, hg.tape, hg.output, hg.size, fun k hk => hg.block k (by omega) (fun e => ?_)⟩
    simp [Value.ownBlock] at e
    omega

set_option maxRecDepth 8000 in
theorem cloneSide_at (w : World) (A : Addr) (c : Nat) (xs : List Int) (hx : ∀ (j : Nat) (x : Int), xs[j]? = some x → w.cell? (A.add j) = some (.int .i64 x)) (hn : xs.length < 16) :
    Calls Tryz.prog 32 #[.slice (some A) xs.length c] w fun e w' => ∃ v, e = .returned v ∧ w'.ownsRow w.heap.size 30 1 v xs.length (xs.map (Value.int .i64)) ∧ Below w.heap.size w w' := by
  have Hx := (show Hid _ from hx)
  have Hn := (show Hid (xs.length < 16) from hn)
  obtain ⟨n, hnx⟩ : ∃ n, n = xs.length := ⟨_, rfl⟩
  have Hnx := (show Hid (n = xs.length) from hnx)
  rw [← hnx]
  clear hx hn hnx
  go_enter Tryz.func32, Tryz.ntmps32
  go_wp2_with (at_builtin; refine append_sides rfl _ _ rfl A c n xs rfl Hnx.out rfl Hx Hn ?_; intro v w1 hv hb1; have HV := (show Hid _ from hv); have HB1 := (show Hid (Below w.heap.size w w1) from hb1); clear hv hb1)
  go_ret
  exact ⟨v, rfl, Hnx.out ▸ HV.out, HB1.out⟩
theorem cloneSide_some (w : World) (b off c : Nat) (xs : List Int) (hx : ∀ (j : Nat) (x : Int), xs[j]? = some x → w.cell? ⟨b, off + j, none⟩ = some (.int .i64 x)) (hn : xs.length < 16) :
    Calls Tryz.prog 32 #[.slice (some ⟨b, off, none⟩) xs.length c] w fun e w' => ∃ v, e = .returned v ∧ w'.ownsRow w.heap.size 30 1 v xs.length (xs.map (Value.int .i64)) ∧ Below w.heap.size w w' :=
  cloneSide_at w ⟨b, off, none⟩ c xs (fun j x h => by
    have hadd : (⟨b, off, none⟩ : Addr).add j = ⟨b, off + j, none⟩ := by unfold Addr.add; split <;> simp_all
    rw [hadd]
    exact hx j x h) hn
end Go.Proofs.YtmefjkggibbhoaaGreat
/- New: a world of nothing. -/
namespace Go.Proofs.YtmefjkggibbhoaaGreat
open Go.RowKit Go.ChangeMaps Go.MapKept

def TreeOk (xs : List Int) : Prop := xs.length < 16 ∧ ∀ (i : Nat) (p : Int), xs[i]? = some p → 0 ≤ p ∧ p ≤ i

def WM.new (xs : List Int) : WM := ⟨xs, List.replicate (xs.length + 1) false, [], 0, List.replicate (xs.length + 1) 0⟩

theorem WM.new_ok {xs : List Int} (h : TreeOk xs) : (WM.new xs).ok where
  sides := h.1
  cuts := by simp [WM.new]
  made := by simp [WM.new]
  tree := h.2
  keys := by simp [WM.new]
  range := by simp [WM.new]
  last := by simp [WM.new]
  mades := fun i x hx => by
    simp only [WM.new, List.getElem?_replicate] at hx
    split at hx
    · cases hx; omega
    · cases hx
  wf := fun r t ht => by simp [WM.new, WM.at] at ht
  homes := fun r t ht => by simp [WM.new, WM.at] at ht
  wrap := ⟨fun _ => 0, fun _ => by simp, fun r t ht => by simp [WM.new, WM.at] at ht⟩
  gate := fun r t ht => by simp [WM.new, WM.at] at ht
  purse := fun r t ht => by simp [WM.new, WM.at] at ht
  facet := fun r t r' t' ht => by simp [WM.new, WM.at] at ht

theorem infoBool : (Tryz.prog.info? 4).map (fun i => (i.zero, i.size, i.bytes)) = some (some (.bool false), 1, 1) := by kernel_rfl
theorem infoInt : (Tryz.prog.info? 3).map (fun i => (i.zero, i.size, i.bytes)) = some (some (.int .i64 0), 1, 8) := by kernel_rfl

theorem made_row {w : World} {e : TypeId} {z : Value} {n : Nat} (hn : n ≤ 16) : Row (w.alloc (.cells (madeCells #[z] n) e)) w.heap.size e n (List.replicate n z) :=
  ⟨madeCells #[z] n, blk_new _ _, by simp [madeCells], by simp, by unfold maxLen; omega, fun j x hx => by
    rw [List.getElem?_replicate] at hx
    split at hx
    · cases hx
      rename_i h
      simp [madeCells, h, Nat.mod_one]
    · cases hx⟩

/-! ### the region that lays the world: what stays true of it -/
def upd {α : Type} (f : Nat → α) (i : Nat) (x : α) (j : Nat) : α := if j = i then x else f j

def NSides (w0 : World) (xs : List Int) (v : Value) (w : World) : Prop :=
  ∃ pa pc, v = .slice pa xs.length pc ∧ ∀ (j : Nat) (x : Int), xs[j]? = some x → ∃ b o, pa = some ⟨b, o, none⟩ ∧ w0.heap.size ≤ b ∧ b < w.heap.size ∧ (∃ cs fr, w.heap[b]? = some (.cells cs 30 fr)) ∧ w.cell? ⟨b, o + j, none⟩ = some (.int .i64 x)
def NRow (w0 : World) (n : Nat) (e : TypeId) (z : Value) (v : Value) (w : World) : Prop :=
  ∃ g, v = .slice (some ⟨g, 0, none⟩) n n ∧ w0.heap.size ≤ g ∧ g < w.heap.size ∧ Row w g e n (List.replicate n z)
def NMap (w0 : World) (k : TypeId) (v : Value) (w : World) : Prop := ∃ b, v = .map (some b) ∧ w0.heap.size ≤ b ∧ HasMap Tryz.prog k w b (fun _ => none) 0

theorem NSides.move {w0 : World} {xs : List Int} {v : Value} {w w' : World} (h : NSides w0 xs v w) (hb : Below w.heap.size w w') : NSides w0 xs v w' := by
  obtain ⟨pa, pc, h1, h2⟩ := h
  refine ⟨pa, pc, h1, fun j x hx => ?_⟩
  obtain ⟨b, o, h3, h4, h5, ⟨cs, fr, h6⟩, h7⟩ := h2 j x hx
  exact ⟨b, o, h3, h4, Nat.lt_of_lt_of_le h5 hb.size, ⟨cs, fr, below_blk hb h6⟩, (hb.cell (p := ⟨b, o + j, none⟩) h5).trans h7⟩
theorem NRow.move {w0 : World} {n : Nat} {e : TypeId} {z : Value} {v : Value} {w w' : World} (h : NRow w0 n e z v w) (hb : Below w.heap.size w w') : NRow w0 n e z v w' := by
  obtain ⟨g, h1, h2, h3, h4⟩ := h
  exact ⟨g, h1, h2, Nat.lt_of_lt_of_le h3 hb.size, h4.of_block (hb.block g h3)⟩
theorem NMap.move {w0 : World} {k : TypeId} {v : Value} {w w' : World} (h : NMap w0 k v w) (hb : Below w.heap.size w w') : NMap w0 k v w' := by
  obtain ⟨b, h1, h2, h3⟩ := h
  exact ⟨b, h1, h2, h3.of_block (hb.block b h3.lt)⟩

structure NI (w0 : World) (v : Value) (xs : List Int) (G : Nat → Bool) (T : Nat → Value) (w : World) : Prop where
  b : Below w0.heap.size w0 w
  a0 : T 0 = v
  a6 : T 6 = .int .i64 ((xs.length : Int) + 1)
  k0 : G 0 = true → T 28 = v
  k1 : G 1 = true → NSides w0 xs (T 29) w
  k2 : G 2 = true → T 30 = .int .i64 ((xs.length : Int) + 1)
  k3 : G 3 = true → NRow w0 (xs.length + 1) 4 (.bool false) (T 31) w
  k4 : G 4 = true → T 32 = .int .i64 ((xs.length : Int) + 1)
  k5 : G 5 = true → NRow w0 (xs.length + 1) 3 (.int .i64 0) (T 33) w
  k6 : G 6 = true → NMap w0 35 (T 34) w
  k7 : G 7 = true → NMap w0 140 (T 35) w
  k67 : G 6 = true → G 7 = true → T 34 ≠ T 35
  o8 : G 8 = true → G 1 = true ∧ G 3 = true ∧ G 5 = true ∧ G 6 = true ∧ G 7 = true
  k8 : G 8 = true → T 36 = .agg #[T 29, T 31, T 34, T 35, .int .i64 0, T 33]
  o9 : G 9 = true → G 8 = true
  k9 : G 9 = true → ∃ p, T 37 = .pointer (some ⟨p, 0, none⟩) ∧ w0.heap.size ≤ p ∧ w.heap[p]? = some (.cells #[T 29, T 31, T 34, T 35, .int .i64 0, T 33] 64 (0, 0))
  o10 : G 10 = true → G 9 = true
  k10 : G 10 = true → T 2 = T 37
  k11 : G 11 = true → T 3 = .int .i64 0

section
variable {w0 : World} {v : Value} {xs : List Int} {G : Nat → Bool} {T : Nat → Value} {w : World}

theorem NI.move {w' : World} (h : NI w0 v xs G T w) (hb : Below w.heap.size w w') : NI w0 v xs G T w' where
  b := h.b.trans (hb.mono h.b.size)
  a0 := h.a0
  a6 := h.a6
  k0 := h.k0
  k1 := fun g => (h.k1 g).move hb
  k2 := h.k2
  k3 := fun g => (h.k3 g).move hb
  k4 := h.k4
  k5 := fun g => (h.k5 g).move hb
  k6 := fun g => (h.k6 g).move hb
  k7 := fun g => (h.k7 g).move hb
  k67 := h.k67
  o8 := h.o8
  k8 := h.k8
  o9 := h.o9
  k9 := fun g => by
    obtain ⟨p, h1, h2, h3⟩ := h.k9 g
    exact ⟨p, h1, h2, below_blk hb h3⟩
  o10 := h.o10
  k10 := h.k10
  k11 := h.k11

set_option maxHeartbeats 2000000 in
theorem NI.step (h : NI w0 v xs G T w) (i d : Nat) (x : Value) (hi : G i = false)
    (hd : d = [28, 29, 30, 31, 32, 33, 34, 35, 36, 37, 2, 3].getD i 99) (hlt : i < 12)
    (f0 : i = 0 → x = v) (f1 : i = 1 → NSides w0 xs x w) (f2 : i = 2 → x = .int .i64 ((xs.length : Int) + 1)) (f3 : i = 3 → NRow w0 (xs.length + 1) 4 (.bool false) x w)
    (f4 : i = 4 → x = .int .i64 ((xs.length : Int) + 1)) (f5 : i = 5 → NRow w0 (xs.length + 1) 3 (.int .i64 0) x w) (f6 : i = 6 → NMap w0 35 x w ∧ (G 7 = true → x ≠ T 35))
    (f7 : i = 7 → NMap w0 140 x w ∧ (G 6 = true → T 34 ≠ x)) (f8 : i = 8 → (G 1 = true ∧ G 3 = true ∧ G 5 = true ∧ G 6 = true ∧ G 7 = true) ∧ x = .agg #[T 29, T 31, T 34, T 35, .int .i64 0, T 33])
    (f9 : i = 9 → G 8 = true ∧ ∃ p, x = .pointer (some ⟨p, 0, none⟩) ∧ w0.heap.size ≤ p ∧ w.heap[p]? = some (.cells #[T 29, T 31, T 34, T 35, .int .i64 0, T 33] 64 (0, 0)))
    (f10 : i = 10 → G 9 = true ∧ x = T 37) (f11 : i = 11 → x = .int .i64 0) : NI w0 v xs (upd G i true) (upd T d x) w := by
  have n1 : G 8 = true → ¬ G 1 = false := fun g e => by have := (h.o8 g).1; rw [e] at this; cases this
  have n3 : G 8 = true → ¬ G 3 = false := fun g e => by have := (h.o8 g).2.1; rw [e] at this; cases this
  have n5 : G 8 = true → ¬ G 5 = false := fun g e => by have := (h.o8 g).2.2.1; rw [e] at this; cases this
  have n6 : G 8 = true → ¬ G 6 = false := fun g e => by have := (h.o8 g).2.2.2.1; rw [e] at this; cases this
  have n7 : G 8 = true → ¬ G 7 = false := fun g e => by have := (h.o8 g).2.2.2.2; rw [e] at this; cases this
  obtain ⟨hb, a0, a6, k0, k1, k2, k3, k4, k5, k6, k7, k67, o8, k8, o9, k9, o10, k10, k11⟩ := h
  match i, hlt with
  | 0, _ =>
    have f := f0 rfl
    clear f0 f1 f2 f3 f4 f5 f6 f7 f8 f9 f10 f11
    subst hd
    constructor <;> first | assumption | (simp only [upd, List.getD_eq_getElem?_getD]; intros; simp_all)
  | 1, _ =>
    have f := f1 rfl
    clear f1 f0 f2 f3 f4 f5 f6 f7 f8 f9 f10 f11
    subst hd
    constructor <;> first | assumption | (simp only [upd, List.getD_eq_getElem?_getD]; intros; simp_all)
  | 2, _ =>
    have f := f2 rfl
    clear f2 f0 f1 f3 f4 f5 f6 f7 f8 f9 f10 f11
    subst hd
    constructor <;> first | assumption | (simp only [upd, List.getD_eq_getElem?_getD]; intros; simp_all)
  | 3, _ =>
    have f := f3 rfl
    clear f3 f0 f1 f2 f4 f5 f6 f7 f8 f9 f10 f11
    subst hd
    constructor <;> first | assumption | (simp only [upd, List.getD_eq_getElem?_getD]; intros; simp_all)
  | 4, _ =>
    have f := f4 rfl
    clear f4 f0 f1 f2 f3 f5 f6 f7 f8 f9 f10 f11
    subst hd
    constructor <;> first | assumption | (simp only [upd, List.getD_eq_getElem?_getD]; intros; simp_all)
  | 5, _ =>
    have f := f5 rfl
    clear f5 f0 f1 f2 f3 f4 f6 f7 f8 f9 f10 f11
    subst hd
    constructor <;> first | assumption | (simp only [upd, List.getD_eq_getElem?_getD]; intros; simp_all)
  | 6, _ =>
    have f := f6 rfl
    clear f6 f0 f1 f2 f3 f4 f5 f7 f8 f9 f10 f11
    subst hd
    constructor <;> first | assumption | (simp only [upd, List.getD_eq_getElem?_getD]; intros; simp_all)
  | 7, _ =>
    have f := f7 rfl
    clear f7 f0 f1 f2 f3 f4 f5 f6 f8 f9 f10 f11
    subst hd
    constructor <;> first | assumption | (simp only [upd, List.getD_eq_getElem?_getD]; intros; simp_all)
  | 8, _ =>
    have f := f8 rfl
    clear f8 f0 f1 f2 f3 f4 f5 f6 f7 f9 f10 f11
    subst hd
    constructor <;> first | assumption | (simp only [upd, List.getD_eq_getElem?_getD]; intros; simp_all)
  | 9, _ =>
    have f := f9 rfl
    clear f9 f0 f1 f2 f3 f4 f5 f6 f7 f8 f10 f11
    subst hd
    constructor <;> first | assumption | (simp only [upd, List.getD_eq_getElem?_getD]; intros; simp_all)
  | 10, _ =>
    have f := f10 rfl
    clear f10 f0 f1 f2 f3 f4 f5 f6 f7 f8 f9 f11
    subst hd
    constructor <;> first | assumption | (simp only [upd, List.getD_eq_getElem?_getD]; intros; simp_all)
  | 11, _ =>
    have f := f11 rfl
    clear f11 f0 f1 f2 f3 f4 f5 f6 f7 f8 f9 f10
    subst hd
    constructor <;> first | assumption | (simp only [upd, List.getD_eq_getElem?_getD]; intros; simp_all)
theorem NI.world (h : NI w0 v xs G T w) (ht : TreeOk xs) (hG : ∀ i, i < 12 → G i = true) :
    ∃ p, T 2 = .pointer (some ⟨p, 0, none⟩) ∧ T 3 = .int .i64 0 ∧ IsW w p (WM.new xs) (fun b => w0.heap.size ≤ b ∧ b < w.heap.size) := by
  obtain ⟨p, h37, hp0, hp⟩ := h.k9 (hG 9 (by decide))
  obtain ⟨pa, pc, h29, hpar⟩ := h.k1 (hG 1 (by decide))
  obtain ⟨cg, h31, hc0, hc1, hcut⟩ := h.k3 (hG 3 (by decide))
  obtain ⟨mg, h33, hm0, hm1, hmad⟩ := h.k5 (hG 5 (by decide))
  obtain ⟨tb, h34, ht0, hthi⟩ := h.k6 (hG 6 (by decide))
  obtain ⟨fb, h35, hf0, hfac⟩ := h.k7 (hG 7 (by decide))
  have hne := h.k67 (hG 6 (by decide)) (hG 7 (by decide))
  rw [h29, h31, h33, h34, h35] at hp
  refine ⟨p, (h.k10 (hG 10 (by decide))).trans h37, h.k11 (hG 11 (by decide)), pa, pc, cg, xs.length + 1, mg, xs.length + 1, tb, fb, 0, fun _ => 0, ?_⟩
  exact {
    hp := by simpa [WM.new] using hp
    pars := fun j x hx => by
      obtain ⟨b, o, h1, h2, h3, h4, h5⟩ := hpar j x hx
      exact ⟨b, o, h1, ⟨h2, h3⟩, h4, h5⟩
    cut := by simpa [WM.new] using hcut
    mad := by simpa [WM.new] using hmad
    things := hthi.congr (fun key kl _ => by unfold thf; split <;> simp [WM.new, WM.at])
    facets := hfac.congr (fun key kl _ => by
      unfold faf
      split
      · split
        · simp [WM.new, WM.find]
        · rfl
      · rfl)
    fnle := by simp [WM.new]
    blk := fun r t ht => by simp [WM.new, WM.at] at ht
    inj := fun r r' t t' ht => by simp [WM.new, WM.at] at ht
    own := ⟨⟨hp0, blk_lt hp⟩, ⟨hc0, hc1⟩, ⟨hm0, hm1⟩, ⟨ht0, hthi.lt⟩, ⟨hf0, hfac.lt⟩⟩
    tf := fun e => hne (by rw [h34, h35, e])
    lt := fun b hb => hb.2
    ok := WM.new_ok ht }
end
end Go.Proofs.YtmefjkggibbhoaaGreat
