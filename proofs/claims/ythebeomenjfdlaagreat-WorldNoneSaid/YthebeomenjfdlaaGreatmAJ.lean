/- A part of the proof, several texts in one: NoS, Facet, Free, Bare. -/
import Derived.Test.YthebeomenjfdlaaGreatmAI
import Derived.Test.YthebeomenjfdlaaGreatmAE
import Derived.Deep.QuietTactic
import Derived.BigQuiet
import Derived.Test.YthebeomenjfdlaaGreatmAD
import Derived.Test.YthebeomenjfdlaaGreatmAG
import Derived.Test.YthebeomenjfdlaaGreatmAC
import Derived.Test.YthebeomenjfdlaaGreatmAB
import Derived.StillTailTactics
import Derived.BigRegion
/- The document's SameWhat and Same at what is zero: yes. -/
namespace Go.Proofs.YthebeomenjfdlaaGreat
open Go.RowKit Go.ChangeMaps Go.MapKept

set_option maxHeartbeats 1000000 in
set_option maxRecDepth 8000 in
theorem same04_nil (w : World) (k : Int) : Calls Tryz.prog 89 #[.agg #[.int .u8 k, .int .i64 0, .string ⟨#[]⟩, .slice none 0 0, .int .i64 0], .agg #[.int .u8 k, .int .i64 0, .string ⟨#[]⟩, .slice none 0 0, .int .i64 0]] w fun e w' => e = .returned (.bool true) ∧ Below w.heap.size w w' := by
  have HB : Hid (Below w.heap.size w ((w.alloc (.cells #[.int .u8 k, .int .i64 0, .string ⟨#[]⟩, .slice none 0 0, .int .i64 0] 34)).alloc (.cells #[.int .u8 k, .int .i64 0, .string ⟨#[]⟩, .slice none 0 0, .int .i64 0] 34))) :=
    ((Below.refl w.heap.size w).alloc (Nat.le_refl _) _).alloc (by simp) _
  go_enter Tryz.func89, Tryz.ntmps89
  go_wp2_with fail
  go_loopw [5] (fun vi wr => vi = .int .i64 0 ∧ wr = (w.alloc (.cells #[.int .u8 k, .int .i64 0, .string ⟨#[]⟩, .slice none 0 0, .int .i64 0] 34)).alloc (.cells #[.int .u8 k, .int .i64 0, .string ⟨#[]⟩, .slice none 0 0, .int .i64 0] 34)) (fun _ _ => 0)
  case atStart => exact ⟨rfl, rfl⟩
  case round =>
    obtain ⟨rfl, rfl⟩ := hrel
    go_wp2_with fail
    go_ret
    exact ⟨rfl, HB.out⟩

set_option maxRecDepth 8000 in
theorem list07_W (w : World) : Calls Tryz.prog 90 #[.slice none 0 0] w fun e w' => e = .returned (.agg #[.int .u8 3, .int .i64 0, .string ⟨#[]⟩, .slice none 0 0, .int .i64 0]) ∧ Below w.heap.size w w' := by
  go_enter Tryz.func90, Tryz.ntmps90
  go_wp2_with fail
  go_returns
  exact ⟨rfl, by go_grown⟩

set_option maxRecDepth 8000 in
theorem sameCode07_nil (w : World) : Calls Tryz.prog 91 #[.slice none 0 0, .slice none 0 0] w fun e w' => e = .returned (.bool true) ∧ Below w.heap.size w w' := by
  go_enter Tryz.func91, Tryz.ntmps91
  go_wp2_with fail
  go_loopw [5] (fun vi wr => vi = .int .i64 0 ∧ wr = w) (fun _ _ => 0)
  case atStart => exact ⟨rfl, rfl⟩
  case round =>
    obtain ⟨rfl, rfl⟩ := hrel
    go_wp2_with fail
    go_ret
    exact ⟨rfl, Below.refl _ _⟩

/-- The zero What. -/
def zW : Array Value := #[.int .u8 0, .int .i64 0, .int .u8 0, .int .i64 0, .string ⟨#[]⟩, .slice none 0 0, .int .i64 0, .slice none 0 0, .int .i64 0, .int .i64 0, .int .i64 0, .int .i64 0, .int .u8 0, .bool false, .slice none 0 0, .slice none 0 0]
theorem zW_cells {w : World} {g : Nat} (h : w.heap[g]? = some (.cells zW 42 (0, 0))) : w.cell? ⟨g, 0, none⟩ = some (.int .u8 0) ∧ w.cell? ⟨g, 1, none⟩ = some (.int .i64 0) ∧ w.cell? ⟨g, 2, none⟩ = some (.int .u8 0) ∧ w.cell? ⟨g, 3, none⟩ = some (.int .i64 0) ∧ w.cell? ⟨g, 4, none⟩ = some (.string ⟨#[]⟩) ∧ w.cell? ⟨g, 5, none⟩ = some (.slice none 0 0) ∧ w.cell? ⟨g, 6, none⟩ = some (.int .i64 0) ∧ w.cell? ⟨g, 7, none⟩ = some (.slice none 0 0) ∧ w.cell? ⟨g, 8, none⟩ = some (.int .i64 0) ∧ w.cell? ⟨g, 9, none⟩ = some (.int .i64 0) ∧ w.cell? ⟨g, 10, none⟩ = some (.int .i64 0) ∧ w.cell? ⟨g, 11, none⟩ = some (.int .i64 0) ∧ w.cell? ⟨g, 12, none⟩ = some (.int .u8 0) ∧ w.cell? ⟨g, 13, none⟩ = some (.bool false) ∧ w.cell? ⟨g, 14, none⟩ = some (.slice none 0 0) ∧ w.cell? ⟨g, 15, none⟩ = some (.slice none 0 0) := by
  refine ⟨?_, ?_, ?_, ?_, ?_, ?_, ?_, ?_, ?_, ?_, ?_, ?_, ?_, ?_, ?_, ?_⟩ <;> (rw [cell_blk h]; rfl)
/-- Two zero Whats lie in the blocks g and g + 1. -/
def TwoW (w : World) (w' : World) : Prop := Below w.heap.size w w' ∧ w'.heap[w.heap.size]? = some (.cells zW 42 (0, 0)) ∧ w'.heap[w.heap.size + 1]? = some (.cells zW 42 (0, 0))
theorem TwoW.below {w w1 w2 : World} (h : TwoW w w1) (hb : Below w1.heap.size w1 w2) : TwoW w w2 :=
  ⟨h.1.trans (hb.mono h.1.size), below_blk hb h.2.1, below_blk hb h.2.2⟩
set_option maxHeartbeats 4000000 in
set_option maxRecDepth 20000 in
theorem sameWhat07_zero (w : World) : Calls Tryz.prog 40 #[.agg #[.int .u8 0, .int .i64 0, .int .u8 0, .int .i64 0, .string ⟨#[]⟩, .slice none 0 0, .int .i64 0, .slice none 0 0, .int .i64 0, .int .i64 0, .int .i64 0, .int .i64 0, .int .u8 0, .bool false, .slice none 0 0, .slice none 0 0], .agg #[.int .u8 0, .int .i64 0, .int .u8 0, .int .i64 0, .string ⟨#[]⟩, .slice none 0 0, .int .i64 0, .slice none 0 0, .int .i64 0, .int .i64 0, .int .i64 0, .int .i64 0, .int .u8 0, .bool false, .slice none 0 0, .slice none 0 0]] w fun e w' => e = .returned (.bool true) ∧ Below w.heap.size w w' := by
  have HT : Hid (∀ w2, w2 = ((w.alloc (.cells zW 42)).alloc (.cells zW 42)) → TwoW w w2) := fun w2 e => by
    subst e
    exact ⟨((Below.refl _ w).alloc (Nat.le_refl _) _).alloc (by simp) _, blk2_old w _ _, blk2_new w _ _⟩
  simp only [zW] at HT
  go_enter Tryz.func40, Tryz.ntmps40
  go_upto_region 1 with fail
  revert HT
  generalize ((w.alloc _).alloc _) = w2
  intro HT
  have HT := (show Hid (TwoW w w2) from HT.out w2 rfl)
  refine region_class (C := fun w' => Below w2.heap.size w2 w') (by kernel_rfl) (by kernel_rfl) below_drew ?_
  repeat (first
    | go_big_quiet_step (fail)
    | quiet_step (fail)
    | (refine wpQuiet_step (fun K hK => ?_); go_simp; first
        | (refine hK _ ?_; clear hK K)
        | (apply Exists.intro
           refine ⟨fun w' hC => ?_, hK _ ?_⟩
           · obtain ⟨a0, a1, a2, a3, a4, a5, a6, a7, a8, a9, a10, a11, a12, a13, a14, a15⟩ := zW_cells (HT.out.below hC).2.1
             obtain ⟨b0, b1, b2, b3, b4, b5, b6, b7, b8, b9, b10, b11, b12, b13, b14, b15⟩ := zW_cells (HT.out.below hC).2.2
             first
               | exact rfl
               | (go_simp; exact rfl)
               | (go_simp; exact ⟨rfl, rfl⟩)
               | exact (same04_nil w' _).mono fun e w'' ⟨he, hb⟩ => ⟨he, hC.trans (hb.mono hC.size)⟩
               | exact (list07_W w').mono fun e w'' ⟨he, hb⟩ => ⟨he, hC.trans (hb.mono hC.size)⟩
           clear hK K)))
  refine wpQuiet_nil ?_
  intro w6 hC6
  have HT := (show Hid (TwoW w w6) from HT.out.below hC6)
  clear hC6
  obtain ⟨a0, a1, a2, a3, a4, a5, a6, a7, a8, a9, a10, a11, a12, a13, a14, a15⟩ := zW_cells HT.out.2.1
  obtain ⟨b0, b1, b2, b3, b4, b5, b6, b7, b8, b9, b10, b11, b12, b13, b14, b15⟩ := zW_cells HT.out.2.2
  go_wp2_with fail
  go_loopw [5] (fun vi wr => vi = .int .i64 0 ∧ wr = w6) (fun _ _ => 0)
  case atStart => exact ⟨rfl, rfl⟩
  case round =>
    obtain ⟨rfl, rfl⟩ := hrel
    go_wp2_with fail
    refine (sameCode07_nil _).mono ?_
    rintro e w7 ⟨rfl, hb⟩
    have HB := (show Hid (Below w.heap.size w w7) from HT.out.1.trans (hb.mono HT.out.1.size))
    clear hb a0 a1 a2 a3 a4 a5 a6 a7 a8 a9 a10 a11 a12 a13 a14 a15 b0 b1 b2 b3 b4 b5 b6 b7 b8 b9 b10 b11 b12 b13 b14 b15
    go_wp2_with fail
    go_ret
    exact ⟨rfl, HB.out⟩
set_option maxHeartbeats 4000000 in
set_option maxRecDepth 20000 in
theorem same07_zero (w : World) : Calls Tryz.prog 57 #[.agg #[.slice none 0 0, .slice none 0 0, .slice none 0 0, .int .i64 0, .slice none 0 0], .agg #[.slice none 0 0, .slice none 0 0, .slice none 0 0, .int .i64 0, .slice none 0 0]] w fun e w' => e = .returned (.bool true) ∧ Below w.heap.size w w' := by
  have HB : Hid (Below w.heap.size w ((w.alloc (.cells #[.slice none 0 0, .slice none 0 0, .slice none 0 0, .int .i64 0, .slice none 0 0] 108)).alloc (.cells #[.slice none 0 0, .slice none 0 0, .slice none 0 0, .int .i64 0, .slice none 0 0] 108))) := ((Below.refl _ w).alloc (Nat.le_refl _) _).alloc (by simp) _
  go_enter Tryz.func57, Tryz.ntmps57
  go_wp2_with fail
  go_loopw [5] (fun vi wr => vi = .int .i64 0 ∧ wr = (w.alloc (.cells #[.slice none 0 0, .slice none 0 0, .slice none 0 0, .int .i64 0, .slice none 0 0] 108)).alloc (.cells #[.slice none 0 0, .slice none 0 0, .slice none 0 0, .int .i64 0, .slice none 0 0] 108)) (fun _ _ => 0)
  case atStart => exact ⟨rfl, rfl⟩
  case round =>
    obtain ⟨rfl, rfl⟩ := hrel
    go_wp2_with fail
    go_loopw [6] (fun vi wr => vi = .int .i64 0 ∧ wr = (w.alloc (.cells #[.slice none 0 0, .slice none 0 0, .slice none 0 0, .int .i64 0, .slice none 0 0] 108)).alloc (.cells #[.slice none 0 0, .slice none 0 0, .slice none 0 0, .int .i64 0, .slice none 0 0] 108)) (fun _ _ => 0)
    case atStart => exact ⟨rfl, rfl⟩
    case round =>
      obtain ⟨rfl, rfl⟩ := hrel
      go_wp2_with fail
      go_loopw [7] (fun vi wr => vi = .int .i64 0 ∧ wr = (w.alloc (.cells #[.slice none 0 0, .slice none 0 0, .slice none 0 0, .int .i64 0, .slice none 0 0] 108)).alloc (.cells #[.slice none 0 0, .slice none 0 0, .slice none 0 0, .int .i64 0, .slice none 0 0] 108)) (fun _ _ => 0)
      case atStart => exact ⟨rfl, rfl⟩
      case round =>
        obtain ⟨rfl, rfl⟩ := hrel
        go_wp2_with fail
        go_loopw [8] (fun vi wr => vi = .int .i64 0 ∧ wr = (w.alloc (.cells #[.slice none 0 0, .slice none 0 0, .slice none 0 0, .int .i64 0, .slice none 0 0] 108)).alloc (.cells #[.slice none 0 0, .slice none 0 0, .slice none 0 0, .int .i64 0, .slice none 0 0] 108)) (fun _ _ => 0)
        case atStart => exact ⟨rfl, rfl⟩
        case round =>
          obtain ⟨rfl, rfl⟩ := hrel
          go_wp2_with fail
          go_ret
          exact ⟨rfl, HB.out⟩
end Go.Proofs.YthebeomenjfdlaaGreat
/- Facet. -/
namespace Go.Proofs.YthebeomenjfdlaaGreat
open Go.RowKit Go.ChangeMaps Go.MapKept
variable {w : World} {p : Nat} {M : WM} {F : Nat → Prop}

set_option maxHeartbeats 1000000 in
set_option maxRecDepth 8000 in
theorem Facet_what (hW : IsW w p M F) {r s v : Int} {t : Th} (hr : (Lit.int .i64 r).wf = true) (ht : M.at r = some t) (hv : AbleIs M 63 r v) (hs : s = v) :
    Calls Tryz.prog 34 #[.pointer (some ⟨p, 0, none⟩), .int .i64 r, .int .u8 s] w fun e w' => e = .returned (.tuple #[.int .i64 0, .int .i64 70]) ∧ Below w.heap.size w w' := by
  subst hs
  have HW : Hid (IsW w p M F) := hW
  have Hv : Hid (AbleIs M 63 r s) := hv
  have hIs : (M.at r).isSome = true := by rw [ht]; rfl
  clear hW hv
  go_enter Tryz.func34, Tryz.ntmps34
  go_wp2_with fail
  refine (none_W HW.out).mono ?_
  rintro e _ ⟨rfl, rfl⟩
  go_wp2_with fail
  refine (Is_W HW.out hr).mono ?_
  rw [hIs]
  rintro e _ ⟨rfl, rfl⟩
  go_wp2_with fail
  refine (Able_W HW.out hr Hv.out).mono ?_
  rintro e w1 ⟨rfl, hb1⟩
  have HB : Hid (Below w.heap.size w w1) := hb1
  clear hb1
  go_wp2_with fail
  refine (Kind_W (HW.out.below HB.out) hr).mono ?_
  rintro e _ ⟨rfl, rfl⟩
  go_wp2_with fail
  all_goals (go_ret2; exact ⟨rfl, HB.out⟩)

/-- A facet. -/
abbrev ft (r s : Int) : Th := lt 14 0 0 0 0 0 r 0 s false

set_option maxHeartbeats 1000000 in
set_option maxRecDepth 8000 in
theorem Facet_there (hW : IsW w p M F) {r s v q : Int} {t : Th} (hr : (Lit.int .i64 r).wf = true) (hsw : (Lit.int .u8 s).wf = true) (ht : M.at r = some t) (h14 : t.kind ≠ 14) (hv : AbleIs M 63 r v) (hs : s ≠ v)
    (hand : bits BinOp.andNot .u8 s v = 0) (hf : M.find r s = some q) :
    Calls Tryz.prog 34 #[.pointer (some ⟨p, 0, none⟩), .int .i64 r, .int .u8 s] w fun e w' => e = .returned (.tuple #[.int .i64 q, .int .i64 0]) ∧ Below w.heap.size w w' := by
  have HW : Hid (IsW w p M F) := hW
  have Hv : Hid (AbleIs M 63 r v) := hv
  have hIs : (M.at r).isSome = true := by rw [ht]; rfl
  have hK : (M.kindOf r == 14) = false := by simp [WM.kindOf, ht, h14]
  have hsv : (s == v) = false := by simpa using hs
  have Hf : Hid (M.find r s = some q) := hf
  clear hW hv hf ht
  go_enter Tryz.func34, Tryz.ntmps34
  go_wp2_with fail
  refine (none_W HW.out).mono ?_
  rintro e _ ⟨rfl, rfl⟩
  go_wp2_with fail
  refine (Is_W HW.out hr).mono ?_
  rw [hIs]
  rintro e _ ⟨rfl, rfl⟩
  go_wp2_with fail
  refine (Able_W HW.out hr Hv.out).mono ?_
  rintro e w1 ⟨rfl, hb1⟩
  have HB : Hid (Below w.heap.size w w1) := hb1
  clear hb1
  go_wp2_with fail
  refine (Kind_W (HW.out.below HB.out) hr).mono ?_
  rintro e _ ⟨rfl, rfl⟩
  go_wp2_with fail
  refine (Find_W (HW.out.below HB.out) hr hsw).mono ?_
  rw [Hf.out]
  rintro e _ ⟨rfl, rfl⟩
  go_wp2_with fail
  go_ret2
  exact ⟨rfl, HB.out⟩

set_option maxHeartbeats 1000000 in
set_option maxRecDepth 8000 in
theorem Facet_new (hW : IsW w p M F) {r s v : Int} {t : Th} (hr : (Lit.int .i64 r).wf = true) (hsw : (Lit.int .u8 s).wf = true) (ht : M.at r = some t) (h14 : t.kind ≠ 14) (hv : AbleIs M 63 r v) (hs : s ≠ v)
    (hand : bits BinOp.andNot .u8 s v = 0) (hf : M.find r s = none) (hs0 : 0 ≤ s ∧ s ≤ 255) (hl : M.last + 1 ≤ 1099511627776) :
    Calls Tryz.prog 34 #[.pointer (some ⟨p, 0, none⟩), .int .i64 r, .int .u8 s] w fun e w' => e = .returned (.tuple #[.int .i64 (M.last + 1), .int .i64 0]) ∧ ∃ F', IsW w' p (M.add (ft r s)) F' ∧ Grew F w F' w' := by
  have a : AddOk M (ft r s) := {
    wf := ⟨⟨by show (1 : Int) ≤ 14; decide, by show (14 : Int) ≤ 16; decide⟩, hr, rfl, hs0⟩
    last := hl
    home := fun h => absurd rfl h
    made := fun h => absurd rfl h
    wrap := fun _ => ⟨t, ht⟩
    gate := fun h => absurd (show (14 : Int) = 15 from h) (by decide)
    purse := fun h => absurd (show (14 : Int) = 9 from h) (by decide)
    facet := fun _ => hf }
  have HA : Hid (AddOk M (ft r s)) := a
  have HW : Hid (IsW w p M F) := hW
  have Hv : Hid (AbleIs M 63 r v) := hv
  have hIs : (M.at r).isSome = true := by rw [ht]; rfl
  have hK : (M.kindOf r == 14) = false := by simp [WM.kindOf, ht, h14]
  have hsv : (s == v) = false := by simpa using hs
  have Hf : Hid (M.find r s = none) := hf
  clear hW hv hf ht a hl
  go_enter Tryz.func34, Tryz.ntmps34
  go_wp2_with fail
  refine (none_W HW.out).mono ?_
  rintro e _ ⟨rfl, rfl⟩
  go_wp2_with fail
  refine (Is_W HW.out hr).mono ?_
  rw [hIs]
  rintro e _ ⟨rfl, rfl⟩
  go_wp2_with fail
  refine (Able_W HW.out hr Hv.out).mono ?_
  rintro e w1 ⟨rfl, hb1⟩
  have HB : Hid (Below w.heap.size w w1) := hb1
  clear hb1
  go_wp2_with fail
  refine (Kind_W (HW.out.below HB.out) hr).mono ?_
  rintro e _ ⟨rfl, rfl⟩
  go_wp2_with fail
  refine (Find_W (HW.out.below HB.out) hr hsw).mono ?_
  rw [Hf.out]
  rintro e _ ⟨rfl, rfl⟩
  go_wp2_with fail
  refine (lay_W (HW.out.below HB.out) HA.out (deep_lt _ NoB _ _ _ _ _ _ _ _ _ _) (fun _ h => h.elim)).mono ?_
  rintro e w5 ⟨rfl, hW5, hk5⟩
  have HF : Hid (∃ F', IsW w5 p (M.add (ft r s)) F' ∧ Grew F w F' w5) := ⟨_, hW5, Below.keeps HB.out hk5, by
    have := HB.out.size
    rintro b ((h | h) | h)
    · exact .inl h
    · exact h.elim
    · right; omega⟩
  clear hW5 hk5
  go_wp2_with fail
  go_ret2
  exact ⟨rfl, HF.out⟩
end Go.Proofs.YthebeomenjfdlaaGreat
/- Free, where no gate stands on the way. -/
namespace Go.Proofs.YthebeomenjfdlaaGreat
open Go.RowKit Go.ChangeMaps Go.MapKept
variable {w : World} {p : Nat} {M : WM} {F : Nat → Prop}

theorem cell_below' {w w' : World} (hb : Below w.heap.size w w') {a : Addr} {v : Value} (h : w.cell? a = some v) : w'.cell? a = some v := by
  have : a.block < w.heap.size := by
    unfold World.cell? at h
    cases ho : w.heap[a.block]? with
    | none => simp [ho] at h
    | some o => exact blk_lt ho
  exact (hb.cell this).trans h

theorem meas_step {n k : Nat} (h : k < n) (hw : wrap64 ((k : Int) + 1) = (k : Int) + 1) : n - (intOf (.int .i64 (wrap64 ((k : Int) + 1)))).toNat < n - (intOf (.int .i64 (k : Int))).toNat := by
  rw [hw]
  have e1 : (intOf (.int .i64 ((k : Int) + 1))).toNat = k + 1 := by simp only [intOf]; omega
  have e2 : (intOf (.int .i64 (k : Int))).toNat = k := by simp only [intOf]; omega
  rw [e1, e2]
  omega

def freeL (M : WM) : Int → List Int → Bool
  | _, [] => true
  | a, r :: l => match M.at r with
    | none => false
    | some t => if t.kind = 14 then freeL M a l else if M.openB a t.home = true then freeL M t.home l else false

def freeE (v : Bool) : Int := if v = true then 0 else 7

set_option maxHeartbeats 1000000 in
set_option maxRecDepth 8000 in
theorem Free_W (hW : IsW w p M F) {a r : Int} {l : List Int} (ha : sideB M a = true) (hr : (Lit.int .i64 r).wf = true) (hl : WayIs M r l) {t0 : Th} (ht0 : M.at r = some t0)
    (hall : ∀ x ∈ l, ∃ t, M.at x = some t ∧ t.kind ≠ 15) :
    Calls Tryz.prog 54 #[.pointer (some ⟨p, 0, none⟩), .int .i64 a, .int .i64 r] w fun e w' => e = .returned (.int .i64 (freeE (freeL M a l))) ∧ Below w.heap.size w w' := by
  have hn := Way_W hW hr hl
  have hlen : Hid ((l.length : Int) ≤ 1099511627777) := by
    obtain ⟨l', h1, h2⟩ := way_ex hW.ok r
    obtain rfl := hl.uniq h1
    have := hW.ok.last
    show _ ≤ _
    omega
  have HW : Hid (IsW w p M F) := hW
  have Hall := (show Hid _ from hall)
  have hIs : (M.at r).isSome = true := by rw [ht0]; rfl
  obtain ⟨v, hv⟩ : ∃ v, v = freeL M a l := ⟨_, rfl⟩
  have Hv : Hid (freeL M a l = v) := hv.symm
  rw [← hv]
  clear hW hall hv ht0 hl
  go_enter Tryz.func54, Tryz.ntmps54
  go_wp2_with fail
  refine (none_W HW.out).mono ?_
  rintro e _ ⟨rfl, rfl⟩
  go_wp2_with fail
  refine (side_W HW.out a).mono ?_
  rw [ha]
  rintro e _ ⟨rfl, rfl⟩
  go_wp2_with fail
  refine (Is_W HW.out hr).mono ?_
  rw [hIs]
  rintro e _ ⟨rfl, rfl⟩
  go_wp2_with fail
  refine hn.mono ?_
  rintro e w1 ⟨vl, rfl, hown, hb⟩
  have HB : Hid (Below w.heap.size w w1) := hb
  obtain ⟨pa, c, hvl, hcells⟩ : ∃ pa c, vl = .slice pa l.length c ∧ Hid (∀ (j : Nat) (x : Int), l[j]? = some x → ∃ g, pa = some ⟨g, 0, none⟩ ∧ w1.cell? ⟨g, j, none⟩ = some (.int .i64 x)) := by
    rcases hown.2 with ⟨rfl, h0⟩ | ⟨g, cap, cur, rfl, hbase, hg, h1, h2, h3, h4⟩
    · have : l = [] := by simpa using h0
      subst this
      exact ⟨none, 0, rfl, fun j x hx => by simp at hx⟩
    · refine ⟨_, _, rfl, fun j x hx => ⟨g, rfl, ?_⟩⟩
      rw [cell_blk hg]
      have hj := (List.getElem?_eq_some_iff.1 hx).1
      have e : (cur.toList.take (l.length * 1))[j]? = (l.map (Value.int .i64))[j]? := by rw [h4]
      rw [List.getElem?_take, if_pos (by omega), List.getElem?_map, hx] at e
      simpa using e
  subst hvl
  obtain ⟨n, hnl⟩ : ∃ n, n = l.length := ⟨_, rfl⟩
  have Hn : Hid (n = l.length) := hnl
  have Hnb : Hid ((n : Int) ≤ 1099511627777) := by show _ ≤ _; rw [hnl]; exact hlen.out
  rw [← hnl]
  clear hown hb hn hlen hnl
  go_wp2_with fail
  go_loopw [1, 27] (fun va vi wr => ∃ (x : Int) (k : Nat), va = .int .i64 x ∧ vi = .int .i64 k ∧ k ≤ n ∧ Hid (freeL M x (l.drop k) = v) ∧ Below w1.heap.size w1 wr) (fun _ vi _ => n - (intOf vi).toNat)
  case atStart => exact ⟨a, 0, rfl, rfl, Nat.zero_le _, Hv.out, Below.refl _ _⟩
  case round =>
    obtain ⟨x, k, rfl, rfl, hk, Hx, hb2⟩ := hrel
    have HB2 := (show Hid (Below w1.heap.size w1 wr) from hb2)
    have HWr : Hid (IsW wr p M F) := (HW.out.below HB.out).below hb2
    by_cases hkn : k < n
    · obtain ⟨y, hy⟩ : ∃ y, l[k]? = some y := ⟨_, List.getElem?_eq_getElem (by have := Hn.out; omega)⟩
      obtain ⟨g, rfl, hc0⟩ := hcells.out k y hy
      have hc := cell_below' hb2 hc0
      obtain ⟨t, ht, h15⟩ := Hall.out y (List.mem_of_getElem? hy)
      have hyr := HW.out.ok.at_range ht
      have hyl := HW.out.ok.last
      have hyw : (Lit.int .i64 y).wf = true := WalkArith.wf_i64 (by omega)
      have hdrop : l.drop k = y :: l.drop (k + 1) := by
        rw [List.drop_eq_getElem_cons (by have := Hn.out; omega)]
        congr 1
        have := List.getElem?_eq_getElem (l := l) (i := k) (by have := Hn.out; omega)
        rw [this] at hy
        exact Option.some.inj hy
      have hkz : (k : Int) < (n : Int) := by omega
      have hwk : wrap64 ((k : Int) + 1) = (k : Int) + 1 := by have := Hnb.out; unfold wrap64; omega
      have hk15 : (t.kind == 15) = false := by simpa using h15
      have HX : Hid ((if t.kind = 14 then freeL M x (l.drop (k + 1)) else if M.openB x t.home = true then freeL M t.home (l.drop (k + 1)) else false) = v) := by
        have := Hx.out
        rw [hdrop, freeL, ht] at this
        exact this
      obtain ⟨pa', pc, cg, cc, mg, mc, tb, fb, fn, bl, h⟩ := HWr.out
      have c2 := h.c2
      have hlk := h.look hyw
      rw [ht] at hlk
      simp only [Option.map_some] at hlk
      obtain ⟨k0, k1, -, -, k6, k7, k8, k9⟩ := thc_cell (h.blk y t ht).1
      clear hb2 hc0 hy hdrop hyr hyl h15 ht h
      by_cases h14 : t.kind = 14
      · have hk14 : (t.kind == 14) = true := by simpa using h14
        have HX2 : Hid (freeL M x (l.drop (k + 1)) = v) := by
          have := HX.out
          rw [if_pos h14] at this
          exact this
        clear HX h14
        go_wp2_with fail
        go_round
        case rel =>
          exact ⟨x, k + 1, rfl, by rw [hwk]; rfl, by omega, HX2.out, HB2.out⟩
        case measure => exact meas_step hkn hwk
      · have hk14 : (t.kind == 14) = false := by simpa using h14
        have hOp : ∀ m, Calls Tryz.prog 46 #[.pointer (some ⟨p, 0, none⟩), .int .i64 x, .int .i64 t.home] (wr.drewN m) fun e w' => e = .returned (.bool (M.openB x t.home)) ∧ w' = wr.drewN m := fun m =>
          (Open_W (HWr.out.below (w' := wr.drewN m) ⟨rfl, rfl, rfl, Nat.le_refl _, fun _ _ => rfl⟩) x t.home).mono (fun _ _ h => ⟨h.1, h.2.symm⟩)
        cases ho : M.openB x t.home with
        | true =>
          simp only [ho] at hOp
          have HX2 : Hid (freeL M t.home (l.drop (k + 1)) = v) := by
            have := HX.out
            rw [if_neg h14, if_pos ho] at this
            exact this
          clear HX h14 ho
          go_wp2_with fail
          go_quiet ((go_at_call 46; exact Calls.quiet_of_same (hOp _)))
          go_wp2_with fail
          go_round
          case rel => exact ⟨t.home, k + 1, rfl, by rw [hwk]; rfl, by omega, HX2.out, HB2.out.trans ⟨rfl, rfl, rfl, Nat.le_refl _, fun _ _ => rfl⟩⟩
          case measure => exact meas_step hkn hwk
        | false =>
          simp only [ho] at hOp
          have HX2 : Hid (v = false) := by
            have := HX.out
            rw [if_neg h14, ho] at this
            exact this.symm
          clear HX h14 ho
          go_wp2_with fail
          go_quiet ((go_at_call 46; exact Calls.quiet_of_same (hOp _)))
          go_wp2_with fail
          go_ret
          have hv := HX2.out
          subst hv
          exact ⟨rfl, HB.out.trans ((HB2.out.trans (⟨rfl, rfl, rfl, Nat.le_refl _, fun _ _ => rfl⟩ : Below w1.heap.size wr (wr.drewN nq))).mono HB.out.size)⟩
    · have hkz : ¬ (k : Int) < (n : Int) := by omega
      have hkn' : k = n := by omega
      have HX2 : Hid (v = true) := by
        have := Hx.out
        rw [hkn', Hn.out, List.drop_length] at this
        exact this.symm
      clear Hx
      go_wp2_with fail
      go_ret
      have hv := HX2.out
      subst hv
      exact ⟨rfl, HB.out.trans (HB2.out.mono HB.out.size)⟩
end Go.Proofs.YthebeomenjfdlaaGreat
/- bare: a What with just the fields that its kind names. One theorem a kind; printed by gen_bare.py. -/
namespace Go.Proofs.YthebeomenjfdlaaGreat
open Go.RowKit Go.ChangeMaps Go.MapKept

set_option maxRecDepth 8000 in
theorem bare_0 (w : World) (h vn vr n l tg bi vk s : Int) (vs : ByteArray) (fu : Bool) (a1 a2 a3 a4 : Option Addr) (n1 c1 n2 c2 n3 c3 n4 c4 : Nat) :
    Calls Tryz.prog 122 #[.agg #[.int .u8 0, .int .i64 h, .int .u8 vk, .int .i64 vn, .string vs, .slice a1 n1 c1, .int .i64 vr, .slice a2 n2 c2, .int .i64 n, .int .i64 l, .int .i64 tg, .int .i64 bi, .int .u8 s, .bool fu, .slice a3 n3 c3, .slice a4 n4 c4]] w fun e w' => e = .returned (.agg #[.int .u8 0, .int .i64 h, .int .u8 0, .int .i64 0, .string ⟨#[]⟩, .slice none 0 0, .int .i64 0, .slice none 0 0, .int .i64 0, .int .i64 0, .int .i64 0, .int .i64 0, .int .u8 0, .bool false, .slice none 0 0, .slice none 0 0]) ∧ Below w.heap.size w w' := by
  go_enter Tryz.func122, Tryz.ntmps122
  go_wp2
  refine bodyPost_ret (results_What rfl _ _ _ _ _ rfl (blk_at1 _ _ _ _ rfl) rfl) rfl ⟨rfl, by go_grown⟩

set_option maxRecDepth 8000 in
theorem bare_1 (w : World) (h vn vr n l tg bi vk s : Int) (vs : ByteArray) (fu : Bool) (a1 a2 a3 a4 : Option Addr) (n1 c1 n2 c2 n3 c3 n4 c4 : Nat) :
    Calls Tryz.prog 122 #[.agg #[.int .u8 1, .int .i64 h, .int .u8 vk, .int .i64 vn, .string vs, .slice a1 n1 c1, .int .i64 vr, .slice a2 n2 c2, .int .i64 n, .int .i64 l, .int .i64 tg, .int .i64 bi, .int .u8 s, .bool fu, .slice a3 n3 c3, .slice a4 n4 c4]] w fun e w' => e = .returned (.agg #[.int .u8 1, .int .i64 h, .int .u8 vk, .int .i64 vn, .string vs, .slice a1 n1 c1, .int .i64 vr, .slice none 0 0, .int .i64 0, .int .i64 0, .int .i64 0, .int .i64 0, .int .u8 0, .bool false, .slice none 0 0, .slice none 0 0]) ∧ Below w.heap.size w w' := by
  go_enter Tryz.func122, Tryz.ntmps122
  go_wp2
  refine bodyPost_ret (results_What rfl _ _ _ _ _ rfl (blk_at1 _ _ _ _ rfl) rfl) rfl ⟨rfl, by go_grown⟩

set_option maxRecDepth 8000 in
theorem bare_2 (w : World) (h vn vr n l tg bi vk s : Int) (vs : ByteArray) (fu : Bool) (a1 a2 a3 a4 : Option Addr) (n1 c1 n2 c2 n3 c3 n4 c4 : Nat) :
    Calls Tryz.prog 122 #[.agg #[.int .u8 2, .int .i64 h, .int .u8 vk, .int .i64 vn, .string vs, .slice a1 n1 c1, .int .i64 vr, .slice a2 n2 c2, .int .i64 n, .int .i64 l, .int .i64 tg, .int .i64 bi, .int .u8 s, .bool fu, .slice a3 n3 c3, .slice a4 n4 c4]] w fun e w' => e = .returned (.agg #[.int .u8 2, .int .i64 h, .int .u8 0, .int .i64 0, .string ⟨#[]⟩, .slice none 0 0, .int .i64 0, .slice a2 n2 c2, .int .i64 0, .int .i64 0, .int .i64 0, .int .i64 0, .int .u8 0, .bool false, .slice none 0 0, .slice none 0 0]) ∧ Below w.heap.size w w' := by
  go_enter Tryz.func122, Tryz.ntmps122
  go_wp2
  refine bodyPost_ret (results_What rfl _ _ _ _ _ rfl (blk_at1 _ _ _ _ rfl) rfl) rfl ⟨rfl, by go_grown⟩

set_option maxRecDepth 8000 in
theorem bare_3 (w : World) (h vn vr n l tg bi vk s : Int) (vs : ByteArray) (fu : Bool) (a1 a2 a3 a4 : Option Addr) (n1 c1 n2 c2 n3 c3 n4 c4 : Nat) :
    Calls Tryz.prog 122 #[.agg #[.int .u8 3, .int .i64 h, .int .u8 vk, .int .i64 vn, .string vs, .slice a1 n1 c1, .int .i64 vr, .slice a2 n2 c2, .int .i64 n, .int .i64 l, .int .i64 tg, .int .i64 bi, .int .u8 s, .bool fu, .slice a3 n3 c3, .slice a4 n4 c4]] w fun e w' => e = .returned (.agg #[.int .u8 3, .int .i64 h, .int .u8 0, .int .i64 0, .string ⟨#[]⟩, .slice none 0 0, .int .i64 0, .slice none 0 0, .int .i64 n, .int .i64 0, .int .i64 0, .int .i64 0, .int .u8 0, .bool false, .slice none 0 0, .slice none 0 0]) ∧ Below w.heap.size w w' := by
  go_enter Tryz.func122, Tryz.ntmps122
  go_wp2
  refine bodyPost_ret (results_What rfl _ _ _ _ _ rfl (blk_at1 _ _ _ _ rfl) rfl) rfl ⟨rfl, by go_grown⟩

set_option maxRecDepth 8000 in
theorem bare_4 (w : World) (h vn vr n l tg bi vk s : Int) (vs : ByteArray) (fu : Bool) (a1 a2 a3 a4 : Option Addr) (n1 c1 n2 c2 n3 c3 n4 c4 : Nat) :
    Calls Tryz.prog 122 #[.agg #[.int .u8 4, .int .i64 h, .int .u8 vk, .int .i64 vn, .string vs, .slice a1 n1 c1, .int .i64 vr, .slice a2 n2 c2, .int .i64 n, .int .i64 l, .int .i64 tg, .int .i64 bi, .int .u8 s, .bool fu, .slice a3 n3 c3, .slice a4 n4 c4]] w fun e w' => e = .returned (.agg #[.int .u8 4, .int .i64 h, .int .u8 0, .int .i64 0, .string ⟨#[]⟩, .slice none 0 0, .int .i64 0, .slice a2 n2 c2, .int .i64 0, .int .i64 0, .int .i64 0, .int .i64 0, .int .u8 0, .bool false, .slice none 0 0, .slice none 0 0]) ∧ Below w.heap.size w w' := by
  go_enter Tryz.func122, Tryz.ntmps122
  go_wp2
  refine bodyPost_ret (results_What rfl _ _ _ _ _ rfl (blk_at1 _ _ _ _ rfl) rfl) rfl ⟨rfl, by go_grown⟩

set_option maxRecDepth 8000 in
theorem bare_5 (w : World) (h vn vr n l tg bi vk s : Int) (vs : ByteArray) (fu : Bool) (a1 a2 a3 a4 : Option Addr) (n1 c1 n2 c2 n3 c3 n4 c4 : Nat) :
    Calls Tryz.prog 122 #[.agg #[.int .u8 5, .int .i64 h, .int .u8 vk, .int .i64 vn, .string vs, .slice a1 n1 c1, .int .i64 vr, .slice a2 n2 c2, .int .i64 n, .int .i64 l, .int .i64 tg, .int .i64 bi, .int .u8 s, .bool fu, .slice a3 n3 c3, .slice a4 n4 c4]] w fun e w' => e = .returned (.agg #[.int .u8 5, .int .i64 h, .int .u8 0, .int .i64 0, .string ⟨#[]⟩, .slice none 0 0, .int .i64 0, .slice none 0 0, .int .i64 0, .int .i64 0, .int .i64 0, .int .i64 0, .int .u8 0, .bool false, .slice none 0 0, .slice none 0 0]) ∧ Below w.heap.size w w' := by
  go_enter Tryz.func122, Tryz.ntmps122
  go_wp2
  refine bodyPost_ret (results_What rfl _ _ _ _ _ rfl (blk_at1 _ _ _ _ rfl) rfl) rfl ⟨rfl, by go_grown⟩

set_option maxRecDepth 8000 in
theorem bare_6 (w : World) (h vn vr n l tg bi vk s : Int) (vs : ByteArray) (fu : Bool) (a1 a2 a3 a4 : Option Addr) (n1 c1 n2 c2 n3 c3 n4 c4 : Nat) :
    Calls Tryz.prog 122 #[.agg #[.int .u8 6, .int .i64 h, .int .u8 vk, .int .i64 vn, .string vs, .slice a1 n1 c1, .int .i64 vr, .slice a2 n2 c2, .int .i64 n, .int .i64 l, .int .i64 tg, .int .i64 bi, .int .u8 s, .bool fu, .slice a3 n3 c3, .slice a4 n4 c4]] w fun e w' => e = .returned (.agg #[.int .u8 6, .int .i64 h, .int .u8 0, .int .i64 0, .string ⟨#[]⟩, .slice none 0 0, .int .i64 0, .slice none 0 0, .int .i64 0, .int .i64 0, .int .i64 tg, .int .i64 0, .int .u8 0, .bool false, .slice none 0 0, .slice none 0 0]) ∧ Below w.heap.size w w' := by
  go_enter Tryz.func122, Tryz.ntmps122
  go_wp2
  refine bodyPost_ret (results_What rfl _ _ _ _ _ rfl (blk_at1 _ _ _ _ rfl) rfl) rfl ⟨rfl, by go_grown⟩

set_option maxRecDepth 8000 in
theorem bare_7 (w : World) (h vn vr n l tg bi vk s : Int) (vs : ByteArray) (fu : Bool) (a1 a2 a3 a4 : Option Addr) (n1 c1 n2 c2 n3 c3 n4 c4 : Nat) :
    Calls Tryz.prog 122 #[.agg #[.int .u8 7, .int .i64 h, .int .u8 vk, .int .i64 vn, .string vs, .slice a1 n1 c1, .int .i64 vr, .slice a2 n2 c2, .int .i64 n, .int .i64 l, .int .i64 tg, .int .i64 bi, .int .u8 s, .bool fu, .slice a3 n3 c3, .slice a4 n4 c4]] w fun e w' => e = .returned (.agg #[.int .u8 7, .int .i64 h, .int .u8 vk, .int .i64 vn, .string vs, .slice a1 n1 c1, .int .i64 vr, .slice none 0 0, .int .i64 0, .int .i64 0, .int .i64 tg, .int .i64 0, .int .u8 0, .bool false, .slice none 0 0, .slice none 0 0]) ∧ Below w.heap.size w w' := by
  go_enter Tryz.func122, Tryz.ntmps122
  go_wp2
  go_region
  all_goals go_wp2
  all_goals refine bodyPost_ret (results_What rfl _ _ _ _ _ rfl (blk_at1d _ _ _ _ rfl) rfl) rfl ⟨rfl, by go_grown⟩

set_option maxRecDepth 8000 in
theorem bare_8 (w : World) (h vn vr n l tg bi vk s : Int) (vs : ByteArray) (fu : Bool) (a1 a2 a3 a4 : Option Addr) (n1 c1 n2 c2 n3 c3 n4 c4 : Nat) :
    Calls Tryz.prog 122 #[.agg #[.int .u8 8, .int .i64 h, .int .u8 vk, .int .i64 vn, .string vs, .slice a1 n1 c1, .int .i64 vr, .slice a2 n2 c2, .int .i64 n, .int .i64 l, .int .i64 tg, .int .i64 bi, .int .u8 s, .bool fu, .slice a3 n3 c3, .slice a4 n4 c4]] w fun e w' => e = .returned (.agg #[.int .u8 8, .int .i64 h, .int .u8 0, .int .i64 0, .string ⟨#[]⟩, .slice none 0 0, .int .i64 0, .slice none 0 0, .int .i64 n, .int .i64 l, .int .i64 0, .int .i64 0, .int .u8 0, .bool false, .slice none 0 0, .slice none 0 0]) ∧ Below w.heap.size w w' := by
  go_enter Tryz.func122, Tryz.ntmps122
  go_wp2
  go_region
  all_goals go_wp2
  all_goals refine bodyPost_ret (results_What rfl _ _ _ _ _ rfl (blk_at1d _ _ _ _ rfl) rfl) rfl ⟨rfl, by go_grown⟩

set_option maxRecDepth 8000 in
theorem bare_9 (w : World) (h vn vr n l tg bi vk s : Int) (vs : ByteArray) (fu : Bool) (a1 a2 a3 a4 : Option Addr) (n1 c1 n2 c2 n3 c3 n4 c4 : Nat) :
    Calls Tryz.prog 122 #[.agg #[.int .u8 9, .int .i64 h, .int .u8 vk, .int .i64 vn, .string vs, .slice a1 n1 c1, .int .i64 vr, .slice a2 n2 c2, .int .i64 n, .int .i64 l, .int .i64 tg, .int .i64 bi, .int .u8 s, .bool fu, .slice a3 n3 c3, .slice a4 n4 c4]] w fun e w' => e = .returned (.agg #[.int .u8 9, .int .i64 h, .int .u8 0, .int .i64 0, .string ⟨#[]⟩, .slice none 0 0, .int .i64 0, .slice none 0 0, .int .i64 n, .int .i64 0, .int .i64 tg, .int .i64 0, .int .u8 0, .bool false, .slice none 0 0, .slice none 0 0]) ∧ Below w.heap.size w w' := by
  go_enter Tryz.func122, Tryz.ntmps122
  go_wp2
  go_region
  all_goals go_wp2
  all_goals refine bodyPost_ret (results_What rfl _ _ _ _ _ rfl (blk_at1d _ _ _ _ rfl) rfl) rfl ⟨rfl, by go_grown⟩

set_option maxRecDepth 8000 in
theorem bare_10 (w : World) (h vn vr n l tg bi vk s : Int) (vs : ByteArray) (fu : Bool) (a1 a2 a3 a4 : Option Addr) (n1 c1 n2 c2 n3 c3 n4 c4 : Nat) :
    Calls Tryz.prog 122 #[.agg #[.int .u8 10, .int .i64 h, .int .u8 vk, .int .i64 vn, .string vs, .slice a1 n1 c1, .int .i64 vr, .slice a2 n2 c2, .int .i64 n, .int .i64 l, .int .i64 tg, .int .i64 bi, .int .u8 s, .bool fu, .slice a3 n3 c3, .slice a4 n4 c4]] w fun e w' => e = .returned (.agg #[.int .u8 10, .int .i64 h, .int .u8 vk, .int .i64 vn, .string vs, .slice a1 n1 c1, .int .i64 vr, .slice none 0 0, .int .i64 0, .int .i64 0, .int .i64 0, .int .i64 0, .int .u8 0, .bool fu, .slice none 0 0, .slice none 0 0]) ∧ Below w.heap.size w w' := by
  go_enter Tryz.func122, Tryz.ntmps122
  go_wp2
  go_region
  all_goals go_wp2
  all_goals refine bodyPost_ret (results_What rfl _ _ _ _ _ rfl (blk_at1d _ _ _ _ rfl) rfl) rfl ⟨rfl, by go_grown⟩

set_option maxRecDepth 8000 in
theorem bare_11 (w : World) (h vn vr n l tg bi vk s : Int) (vs : ByteArray) (fu : Bool) (a1 a2 a3 a4 : Option Addr) (n1 c1 n2 c2 n3 c3 n4 c4 : Nat) :
    Calls Tryz.prog 122 #[.agg #[.int .u8 11, .int .i64 h, .int .u8 vk, .int .i64 vn, .string vs, .slice a1 n1 c1, .int .i64 vr, .slice a2 n2 c2, .int .i64 n, .int .i64 l, .int .i64 tg, .int .i64 bi, .int .u8 s, .bool fu, .slice a3 n3 c3, .slice a4 n4 c4]] w fun e w' => e = .returned (.agg #[.int .u8 11, .int .i64 h, .int .u8 0, .int .i64 0, .string ⟨#[]⟩, .slice none 0 0, .int .i64 0, .slice none 0 0, .int .i64 0, .int .i64 0, .int .i64 tg, .int .i64 0, .int .u8 0, .bool false, .slice none 0 0, .slice none 0 0]) ∧ Below w.heap.size w w' := by
  go_enter Tryz.func122, Tryz.ntmps122
  go_wp2
  refine bodyPost_ret (results_What rfl _ _ _ _ _ rfl (blk_at1 _ _ _ _ rfl) rfl) rfl ⟨rfl, by go_grown⟩

set_option maxRecDepth 8000 in
theorem bare_12 (w : World) (h vn vr n l tg bi vk s : Int) (vs : ByteArray) (fu : Bool) (a1 a2 a3 a4 : Option Addr) (n1 c1 n2 c2 n3 c3 n4 c4 : Nat) :
    Calls Tryz.prog 122 #[.agg #[.int .u8 12, .int .i64 h, .int .u8 vk, .int .i64 vn, .string vs, .slice a1 n1 c1, .int .i64 vr, .slice a2 n2 c2, .int .i64 n, .int .i64 l, .int .i64 tg, .int .i64 bi, .int .u8 s, .bool fu, .slice a3 n3 c3, .slice a4 n4 c4]] w fun e w' => e = .returned (.agg #[.int .u8 12, .int .i64 h, .int .u8 0, .int .i64 0, .string ⟨#[]⟩, .slice none 0 0, .int .i64 0, .slice none 0 0, .int .i64 0, .int .i64 0, .int .i64 0, .int .i64 0, .int .u8 0, .bool false, .slice a3 n3 c3, .slice a4 n4 c4]) ∧ Below w.heap.size w w' := by
  go_enter Tryz.func122, Tryz.ntmps122
  go_wp2
  go_region
  all_goals go_wp2
  all_goals refine bodyPost_ret (results_What rfl _ _ _ _ _ rfl (blk_at1d _ _ _ _ rfl) rfl) rfl ⟨rfl, by go_grown⟩

set_option maxRecDepth 8000 in
theorem bare_13 (w : World) (h vn vr n l tg bi vk s : Int) (vs : ByteArray) (fu : Bool) (a1 a2 a3 a4 : Option Addr) (n1 c1 n2 c2 n3 c3 n4 c4 : Nat) :
    Calls Tryz.prog 122 #[.agg #[.int .u8 13, .int .i64 h, .int .u8 vk, .int .i64 vn, .string vs, .slice a1 n1 c1, .int .i64 vr, .slice a2 n2 c2, .int .i64 n, .int .i64 l, .int .i64 tg, .int .i64 bi, .int .u8 s, .bool fu, .slice a3 n3 c3, .slice a4 n4 c4]] w fun e w' => e = .returned (.agg #[.int .u8 13, .int .i64 h, .int .u8 0, .int .i64 0, .string ⟨#[]⟩, .slice none 0 0, .int .i64 0, .slice none 0 0, .int .i64 0, .int .i64 0, .int .i64 tg, .int .i64 0, .int .u8 0, .bool fu, .slice none 0 0, .slice none 0 0]) ∧ Below w.heap.size w w' := by
  go_enter Tryz.func122, Tryz.ntmps122
  go_wp2
  go_region
  all_goals go_wp2
  all_goals refine bodyPost_ret (results_What rfl _ _ _ _ _ rfl (blk_at1d _ _ _ _ rfl) rfl) rfl ⟨rfl, by go_grown⟩

set_option maxRecDepth 8000 in
theorem bare_14 (w : World) (h vn vr n l tg bi vk s : Int) (vs : ByteArray) (fu : Bool) (a1 a2 a3 a4 : Option Addr) (n1 c1 n2 c2 n3 c3 n4 c4 : Nat) :
    Calls Tryz.prog 122 #[.agg #[.int .u8 14, .int .i64 h, .int .u8 vk, .int .i64 vn, .string vs, .slice a1 n1 c1, .int .i64 vr, .slice a2 n2 c2, .int .i64 n, .int .i64 l, .int .i64 tg, .int .i64 bi, .int .u8 s, .bool fu, .slice a3 n3 c3, .slice a4 n4 c4]] w fun e w' => e = .returned (.agg #[.int .u8 14, .int .i64 0, .int .u8 0, .int .i64 0, .string ⟨#[]⟩, .slice none 0 0, .int .i64 0, .slice none 0 0, .int .i64 0, .int .i64 0, .int .i64 tg, .int .i64 0, .int .u8 s, .bool false, .slice none 0 0, .slice none 0 0]) ∧ Below w.heap.size w w' := by
  go_enter Tryz.func122, Tryz.ntmps122
  go_wp2
  refine bodyPost_ret (results_What rfl _ _ _ _ _ rfl (blk_at1 _ _ _ _ rfl) rfl) rfl ⟨rfl, by go_grown⟩

set_option maxRecDepth 8000 in
theorem bare_15 (w : World) (h vn vr n l tg bi vk s : Int) (vs : ByteArray) (fu : Bool) (a1 a2 a3 a4 : Option Addr) (n1 c1 n2 c2 n3 c3 n4 c4 : Nat) :
    Calls Tryz.prog 122 #[.agg #[.int .u8 15, .int .i64 h, .int .u8 vk, .int .i64 vn, .string vs, .slice a1 n1 c1, .int .i64 vr, .slice a2 n2 c2, .int .i64 n, .int .i64 l, .int .i64 tg, .int .i64 bi, .int .u8 s, .bool fu, .slice a3 n3 c3, .slice a4 n4 c4]] w fun e w' => e = .returned (.agg #[.int .u8 15, .int .i64 h, .int .u8 0, .int .i64 0, .string ⟨#[]⟩, .slice none 0 0, .int .i64 0, .slice none 0 0, .int .i64 0, .int .i64 0, .int .i64 tg, .int .i64 bi, .int .u8 0, .bool false, .slice none 0 0, .slice none 0 0]) ∧ Below w.heap.size w w' := by
  go_enter Tryz.func122, Tryz.ntmps122
  go_wp2
  go_region
  all_goals go_wp2
  all_goals refine bodyPost_ret (results_What rfl _ _ _ _ _ rfl (blk_at1d _ _ _ _ rfl) rfl) rfl ⟨rfl, by go_grown⟩

set_option maxRecDepth 8000 in
theorem bare_16 (w : World) (h vn vr n l tg bi vk s : Int) (vs : ByteArray) (fu : Bool) (a1 a2 a3 a4 : Option Addr) (n1 c1 n2 c2 n3 c3 n4 c4 : Nat) :
    Calls Tryz.prog 122 #[.agg #[.int .u8 16, .int .i64 h, .int .u8 vk, .int .i64 vn, .string vs, .slice a1 n1 c1, .int .i64 vr, .slice a2 n2 c2, .int .i64 n, .int .i64 l, .int .i64 tg, .int .i64 bi, .int .u8 s, .bool fu, .slice a3 n3 c3, .slice a4 n4 c4]] w fun e w' => e = .returned (.agg #[.int .u8 16, .int .i64 h, .int .u8 0, .int .i64 0, .string ⟨#[]⟩, .slice none 0 0, .int .i64 0, .slice none 0 0, .int .i64 0, .int .i64 0, .int .i64 tg, .int .i64 bi, .int .u8 0, .bool false, .slice none 0 0, .slice none 0 0]) ∧ Below w.heap.size w w' := by
  go_enter Tryz.func122, Tryz.ntmps122
  go_wp2
  go_region
  all_goals go_wp2
  all_goals refine bodyPost_ret (results_What rfl _ _ _ _ _ rfl (blk_at1d _ _ _ _ rfl) rfl) rfl ⟨rfl, by go_grown⟩

end Go.Proofs.YthebeomenjfdlaaGreat
