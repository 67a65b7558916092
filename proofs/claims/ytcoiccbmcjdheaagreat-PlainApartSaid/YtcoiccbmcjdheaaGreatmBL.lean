/- A part of the proof, several texts in one: Prm, Facet, Free, Lives. -/
import Derived.Test.YtcoiccbmcjdheaaGreatmAW
import Derived.Test.YtcoiccbmcjdheaaGreatmBJ
import Derived.Test.YtcoiccbmcjdheaaGreatmBK
import Derived.Test.YtcoiccbmcjdheaaGreatmAP
import Derived.Test.YtcoiccbmcjdheaaGreatmAD
import Derived.Test.YtcoiccbmcjdheaaGreatmAE
import Derived.Deep.QuietTactic
import Derived.BigQuiet
import Derived.Test.YtcoiccbmcjdheaaGreatmAF
import Derived.Test.YtcoiccbmcjdheaaGreatmAS
import Derived.Test.YtcoiccbmcjdheaaGreatmAR
import Derived.Test.YtcoiccbmcjdheaaGreatmAO
/- plain: Promise, where there is room for two. -/
namespace Go.Proofs.YtcoiccbmcjdheaaGreat
open Go.RowKit Go.ChangeMaps Go.MapKept
variable {w : World} {p : Nat} {M : WM} {F : Nat → Prop}

set_option maxRecDepth 8000 in
theorem fits_11 (hW : IsW w p M F) {r h tg : Int} {t : Th} (hq : (Lit.int .i64 tg).wf = true) (ht : M.at tg = some t) (hk : t.kind = 10) (hh : t.home = h) (hno : ∀ q u, M.at q = some u → q ≠ r → u.kind = 11 → u.tgt ≠ tg) :
    Calls Tryz.prog 75 #[.pointer (some ⟨p, 0, none⟩), .int .i64 r, .agg #[.int .u8 11, .int .i64 h, .int .u8 0, .int .i64 0, .string ⟨#[]⟩, .slice none 0 0, .int .i64 0, .slice none 0 0, .int .i64 0, .int .i64 0, .int .i64 tg, .int .i64 0, .int .u8 0, .bool false, .slice none 0 0, .slice none 0 0]] w fun e w' => e = .returned (.bool true) ∧ Below w.heap.size w w' := by
  have HW : Hid (IsW w p M F) := hW
  have HT : Hid (M.at tg = some t ∧ t.kind = 10 ∧ t.home = h) := ⟨ht, hk, hh⟩
  have HN : Hid (∀ q u, M.at q = some u → q ≠ r → u.kind = 11 → u.tgt ≠ tg) := hno
  clear hW ht hk hh hno
  go_enter Tryz.func75, Tryz.ntmps75
  go_wp2_with fail
  have hb := ((Below.refl w.heap.size w).alloc (Nat.le_refl _) (.cells #[.pointer (some ⟨p, 0, none⟩)] 23)).alloc (by simp) (.cells #[.int .u8 11, .int .i64 h, .int .u8 0, .int .i64 0, .string ⟨#[]⟩, .slice none 0 0, .int .i64 0, .slice none 0 0, .int .i64 0, .int .i64 0, .int .i64 tg, .int .i64 0, .int .u8 0, .bool false, .slice none 0 0, .slice none 0 0] 42)
  have HB := (show Hid _ from hb)
  refine (there_yes (HW.out.below hb) hq HT.out.1 HT.out.2.1 HT.out.2.2 (by rw [cell_blk (blk2_old _ _ _)]; rfl) (by rw [cell_blk (blk2_new _ _ _)]; rfl)).mono ?_
  clear hb
  rintro e w' ⟨rfl, m, rfl⟩
  have hol := blk2_old w (.cells #[.pointer (some ⟨p, 0, none⟩)] 23) (.cells #[.int .u8 11, .int .i64 h, .int .u8 0, .int .i64 0, .string ⟨#[]⟩, .slice none 0 0, .int .i64 0, .slice none 0 0, .int .i64 0, .int .i64 0, .int .i64 tg, .int .i64 0, .int .u8 0, .bool false, .slice none 0 0, .slice none 0 0] 42)
  go_wp2_with fail
  refine (other_no ((HW.out.below HB.out).drewN m) HN.out).mono ?_
  rintro e w2 ⟨rfl, hb2⟩
  have HB2 : Hid (Below w.heap.size w w2) := by
    have h2 := hb2.mono HB.out.size
    refine Below.trans ?_ h2
    exact Below.trans HB.out ⟨rfl, rfl, rfl, Nat.le_refl _, fun _ _ => rfl⟩
  clear hb2 hol
  go_wp2_with fail
  go_ret
  exact ⟨rfl, HB2.out⟩

theorem Make_11 (hW : IsW w p M F) (hl : M.last + 1 ≤ 1099511627776) {h : Int} (home : 0 ≤ h ∧ h < M.made.length) {tg : Int} {u : Th} (tgw : (Lit.int .i64 tg).wf = true) (hu : M.at tg = some u) (hu10 : u.kind = 10) (huh : u.home = h) (hno : ∀ q v, M.at q = some v → q ≠ 0 → v.kind = 11 → v.tgt ≠ tg) :
    Calls Tryz.prog 49 #[.pointer (some ⟨p, 0, none⟩), .agg #[.int .u8 11, .int .i64 h, .int .u8 0, .int .i64 0, .string ⟨#[]⟩, .slice none 0 0, .int .i64 0, .slice none 0 0, .int .i64 0, .int .i64 0, .int .i64 tg, .int .i64 0, .int .u8 0, .bool false, .slice none 0 0, .slice none 0 0]] w (MadeL w p M F h (lt 11 h 0 0 0 0 tg 0 0 false)) :=
  (Make_G hW (MakeIn.light hW plain0 (fun w hW => form_11 hW h tg (sideB_iff.2 home)) (fun w hW => fits_11 hW tgw hu hu10 huh hno) rfl (fun e => absurd e (by decide)) tgw rfl home (fun _ => by rw [hu]; rfl) (fun e => absurd e (by decide)) fun hr => {
    wf := ⟨by show (1 : Int) ≤ 11 ∧ (11 : Int) ≤ 16; decide, tgw, rfl, by show (0 : Int) ≤ 0 ∧ (0 : Int) ≤ 255; decide⟩
    last := hl
    home := fun _ => home
    made := fun _ => hr
    wrap := fun e => absurd (show wrapsB 11 = true from e) (by decide)
    gate := fun e => absurd (show (11 : Int) = 15 from e) (by decide)
    purse := fun e => absurd (show (11 : Int) = 9 from e) (by decide)
    facet := fun e => absurd (show (11 : Int) = 14 from e) (by decide) })).mono fun _ _ h => h.light

/-- What Promise leaves. -/
def PromQ (w : World) (p : Nat) (M : WM) (F : Nat → Prop) (h : Int) (e : Ending) (w' : World) : Prop :=
  e = .returned (.tuple #[.int .i64 (M.last + 1), .int .i64 (M.last + 1 + 1), .int .i64 0]) ∧ ∃ F', IsW w' p ((M.add (lt 10 h 0 0 0 0 0 0 0 false)).add (lt 11 h 0 0 0 0 (M.last + 1) 0 0 false)) F' ∧ Grew F w F' w'
set_option maxHeartbeats 1000000 in
set_option maxRecDepth 8000 in
theorem Promise_G (hW : IsW w p M F) (hl : M.last + 2 ≤ 1099511627776) (hl0 : 0 ≤ M.last) {h : Int} (hh : 0 ≤ h ∧ h < M.made.length) (hroom : M.made.getD h.toNat 0 + 2 ≤ 512) (hm0 : 0 ≤ M.made.getD h.toNat 0)
    (hat : (M.add (lt 10 h 0 0 0 0 0 0 0 false)).at (M.last + 1) = some (lt 10 h 0 0 0 0 0 0 0 false)) (hlast : (M.add (lt 10 h 0 0 0 0 0 0 0 false)).last = M.last + 1) (hlen : (M.add (lt 10 h 0 0 0 0 0 0 0 false)).made.length = M.made.length) (hmade : (M.add (lt 10 h 0 0 0 0 0 0 0 false)).made.getD h.toNat 0 = M.made.getD h.toNat 0 + 1)
    (hno : ∀ q v, (M.add (lt 10 h 0 0 0 0 0 0 0 false)).at q = some v → q ≠ 0 → v.kind = 11 → v.tgt ≠ M.last + 1) :
    Calls Tryz.prog 23 #[.pointer (some ⟨p, 0, none⟩), .int .i64 h] w (PromQ w p M F h) := by
  have hmay := may_G hW hh (⟨0, 0, ⟨#[]⟩, [], 0⟩ : Val) (.slice none 0 0) (SlAt.nil w F none 0) (refsV0 0 0 (.inl ⟨rfl, rfl⟩)).2 (fun r hr => by rw [(refsV0 0 0 (.inl ⟨rfl, rfl⟩)).1] at hr; cases hr)
  have HY := (show Hid _ from hmay)
  have HW : Hid (IsW w p M F) := hW
  have HS : Hid (sideB M h = true) := sideB_iff.2 hh
  have Hh : Hid (0 ≤ h ∧ h < M.made.length) := hh
  have HL : Hid (M.last + 2 ≤ 1099511627776 ∧ 0 ≤ M.last) := ⟨hl, hl0⟩
  have HR : Hid (M.made.getD h.toNat 0 + 2 ≤ 512 ∧ 0 ≤ M.made.getD h.toNat 0) := ⟨hroom, hm0⟩
  have HN := (show Hid _ from And.intro hat (And.intro hlast (And.intro hlen (And.intro hmade hno))))
  clear hmay hW hh hl hl0 hroom hm0 hat hlast hlen hmade hno
  simp only [vcs] at HY
  go_enter Tryz.func23, Tryz.ntmps23
  go_wp2_with fail
  refine Calls.mono HY.out ?_
  rintro e w1 ⟨rfl, hb1⟩
  have HB1 := (show Hid (Below w.heap.size w w1) from hb1)
  clear hb1 HY
  go_wp2_with fail
  refine (Made_W (HW.out.below HB1.out) h).mono ?_
  rw [HS.out, if_pos rfl]
  rintro e _ ⟨rfl, rfl⟩
  obtain ⟨n, hn⟩ : ∃ n, n = M.made.getD h.toNat 0 := ⟨_, rfl⟩
  rw [← hn]
  have hn2 : wrap64 (n + 2) = n + 2 := by have := HR.out; rw [← hn] at this; unfold wrap64; omega
  have hn3 : ¬ (n + 2 > 512) := by have := HR.out; rw [← hn] at this; omega
  have Hn := (show Hid _ from hn)
  clear hn
  go_wp2_with fail
  refine (Make_10 (HW.out.below HB1.out) (by have := HL.out; omega) Hh.out).mono ?_
  rintro e w2 (⟨-, rfl, F', hW', hg⟩ | ⟨hx, -, -⟩)
  rotate_left
  · exact absurd (by have := HR.out; omega) hx
  have HW2 : Hid (IsW w2 p (M.add (lt 10 h 0 0 0 0 0 0 0 false)) F' ∧ Grew F w F' w2) := ⟨hW', hg.start HB1.out⟩
  clear hW' hg hn2 hn3
  go_wp2_with fail
  refine (Make_11 HW2.out.1 (by have := HL.out; rw [HN.out.2.1]; omega) (by rw [HN.out.2.2.1]; exact Hh.out) (tg := M.last + 1) (by obtain ⟨_, _, _, _, _, _, _, _, _, _, hV⟩ := HW2.out.1; exact hV.ok.at_wf HN.out.1) HN.out.1 rfl rfl HN.out.2.2.2.2).mono ?_
  rintro e w3 (⟨-, rfl, F3, hW3, hg3⟩ | ⟨hx, -, -⟩)
  rotate_left
  · exact absurd (by rw [HN.out.2.2.2.1]; have := HR.out; omega) hx
  rw [HN.out.2.1]
  have HE : Hid (∃ F', IsW w3 p ((M.add (lt 10 h 0 0 0 0 0 0 0 false)).add (lt 11 h 0 0 0 0 (M.last + 1) 0 0 false)) F' ∧ Grew F w F' w3) := ⟨F3, hW3, HW2.out.2.1.trans hg3.1 (fun _ _ h => h) (fun x hx h => by rcases HW2.out.2.2 x h with h | h; exact h; omega), fun y hy => by
    rcases hg3.2 y hy with h | h
    · exact HW2.out.2.2 y h
    · exact .inr (Nat.le_trans HW2.out.2.1.size h)⟩
  clear hW3 hg3
  go_wp2_with fail
  go_returns
  exact ⟨rfl, HE.out⟩
end Go.Proofs.YtcoiccbmcjdheaaGreat
/- Facet. -/
namespace Go.Proofs.YtcoiccbmcjdheaaGreat
open Go.RowKit Go.ChangeMaps Go.MapKept
variable {w : World} {p : Nat} {M : WM} {F : Nat → Prop}


/-- A facet. -/
abbrev ft (r s : Int) : Th := lt 14 0 0 0 0 0 r 0 s false



end Go.Proofs.YtcoiccbmcjdheaaGreat
/- Free, where no gate stands on the way. -/
namespace Go.Proofs.YtcoiccbmcjdheaaGreat
open Go.RowKit Go.ChangeMaps Go.MapKept
variable {w : World} {p : Nat} {M : WM} {F : Nat → Prop}

theorem cell_below' {w w' : World} (hb : Below w.heap.size w w') {a : Addr} {v : Value} (h : w.cell? a = some v) : w'.cell? a = some v := by
  have : a.block < w.heap.size := by
    unfold World.cell? at h
    cases ho : w.heap[a.block]? with
    | none => simp [ho] at h
    | some o => exact blk_lt ho
  exact (hb.cell this).trans h

theorem meas_step {n k : Nat} (h : k < n) (hw : wrap64 ((k : Int) + 1) = (k : Int) + 1) : n - (intOf (.int .i64 (wrap64 ((k : Int) + 1)))).toNat < n - (intOf (.int .i64 (k : Int))).toNat := by
  rw [hw]
  have e1 : (intOf (.int .i64 ((k : Int) + 1))).toNat = k + 1 := by simp only [intOf]; omega
  have e2 : (intOf (.int .i64 (k : Int))).toNat = k := by simp only [intOf]; omega
  rw [e1, e2]
  omega

def freeL (M : WM) : Int → List Int → Bool
  | _, [] => true
  | a, r :: l => match M.at r with
    | none => false
    | some t => if t.kind = 14 then freeL M a l else if M.openB a t.home = true then freeL M t.home l else false

def freeE (v : Bool) : Int := if v = true then 0 else 7


end Go.Proofs.YtcoiccbmcjdheaaGreat
/- lives of posternlaw07: it is true. -/
namespace Go.Proofs.YtcoiccbmcjdheaaGreat
open Go.RowKit Go.ChangeMaps Go.MapKept

def LM0 : WM := WM.new [0, 0, 1]
def LM1 : WM := LM0.add (lt 1 1 1 7 0 0 0 0 0 false)
def LM2 : WM := LM1.add (ft 1 1)
def LM3 : WM := LM2.cutE 1

theorem ltree : TreeOk [0, 0, 1] := ⟨by decide, fun i p h => by
  match i, h with
  | 0, h => simp at h; omega
  | 1, h => simp at h; omega
  | 2, h => simp at h; omega⟩
theorem lnotree : ¬ TreeOk [0, 2] := fun h => by
  have := (h.2 1 2 rfl).2
  omega
theorem ladd : AddOk LM0 (lt 1 1 1 7 0 0 0 0 0 false) where
  wf := ⟨by show (1 : Int) ≤ 1 ∧ (1 : Int) ≤ 16; decide, rfl, rfl, by show (0 : Int) ≤ 0 ∧ (0 : Int) ≤ 255; decide⟩
  last := by decide
  home := fun _ => by decide
  made := fun _ => by decide
  wrap := fun h => absurd h (by decide)
  gate := fun h => absurd h (by decide)
  purse := fun h => absurd h (by decide)
  facet := fun h => absurd h (by decide)
theorem lable1 : AbleIs LM1 63 1 3 := AbleIs.mk_base (t := lt 1 1 1 7 0 0 0 0 0 false) rfl (by decide) (by decide)
theorem lable2 : AbleIs LM2 63 1 3 := AbleIs.mk_base (t := lt 1 1 1 7 0 0 0 0 0 false) rfl (by decide) (by decide)
theorem lable3 : AbleIs LM3 63 2 1 := AbleIs.mk_facet (t := ft 1 1) rfl rfl (AbleIs.mk_base (t := lt 1 1 1 7 0 0 0 0 0 false) rfl (by decide) (by decide))
theorem lway : WayIs LM3 2 [2, 1] := WayIs.mk_wrap (t := ft 1 1) rfl rfl (WayIs.mk_base (t := lt 1 1 1 7 0 0 0 0 0 false) rfl rfl)
theorem lfree0 : freeL LM3 0 [2, 1] = false := by decide
theorem lfree3 : freeL LM3 3 [2, 1] = true := by decide
theorem lfind1 : LM1.find 1 1 = none := by decide
theorem lfind2 : LM2.find 1 1 = some 2 := by decide
theorem lall : ∀ x ∈ ([2, 1] : List Int), ∃ t, LM3.at x = some t ∧ t.kind ≠ 15 := by
  intro x hx
  simp only [List.mem_cons, List.not_mem_nil, or_false] at hx
  rcases hx with rfl | rfl
  · exact ⟨ft 1 1, rfl, by decide⟩
  · exact ⟨lt 1 1 1 7 0 0 0 0 0 false, rfl, by decide⟩

/-- A world of the call's own: all of it lies above what was there. -/
def Own (w0 w : World) (p : Nat) (M : WM) : Prop := ∃ F, IsW w p M F ∧ (∀ b, F b → w0.heap.size ≤ b) ∧ Below w0.heap.size w0 w
theorem Own.below {w0 w w' : World} {p : Nat} {M : WM} (h : Own w0 w p M) (hb : Below w.heap.size w w') : Own w0 w' p M := by
  obtain ⟨F, h1, h2, h3⟩ := h
  exact ⟨F, h1.below hb, h2, h3.trans (hb.mono h3.size)⟩
theorem Own.turn {w0 w w' : World} {p : Nat} {M' : WM} {F F' : Nat → Prop} (h2 : ∀ b, F b → w0.heap.size ≤ b) (h3 : Below w0.heap.size w0 w) (hW : IsW w' p M' F') (hg : Grew F w F' w') : Own w0 w' p M' := by
  refine ⟨F', hW, fun b hb => ?_, h3.trans (Keeps.below hg.1 h3.size h2)⟩
  rcases hg.2 b hb with h | h
  · exact h2 b h
  · exact Nat.le_trans h3.size h


end Go.Proofs.YtcoiccbmcjdheaaGreat
