/- A part of the proof, several texts in one: GrowL, PlR, Other, Prm. -/
import Derived.Test.YthaliljaglldjaaGreatmAG
import Derived.Test.YthaliljaglldjaaGreatmAY
import Derived.Test.YthaliljaglldjaaGreatmAZ
import Derived.Test.YthaliljaglldjaaGreatmAE
import Derived.Test.YthaliljaglldjaaGreatmAK
import Derived.Test.YthaliljaglldjaaGreatmAU
/- A region that draws its order: a head that makes memory, a store, a tail in one forced order; ONE operation of the head (a value taken out of a pair) may still come up behind the store. -/
namespace Go.Proofs.YthaliljaglldjaaGreat
open Go.RowKit
section
variable {P : Program} {ops : Array Oper} {Q : Exit → Act → World → Prop}
end
end Go.Proofs.YthaliljaglldjaaGreat
/- plain: get of a promise. -/
namespace Go.Proofs.YthaliljaglldjaaGreat
open Go.RowKit Go.ChangeMaps Go.MapKept
variable {w : World} {p : Nat} {M : WM} {F : Nat → Prop}
end Go.Proofs.YthaliljaglldjaaGreat
/- other: where no other thing of a kind leans so, it says no. -/
namespace Go.Proofs.YthaliljaglldjaaGreat
open Go.RowKit Go.ChangeMaps Go.MapKept
variable {w : World} {p : Nat} {M : WM} {F : Nat → Prop}
set_option maxHeartbeats 2000000 in
set_option maxRecDepth 20000 in
theorem other_no (hW : IsW w p M F) {r k tg : Int} (hno : ∀ q t, M.at q = some t → q ≠ r → t.kind = k → t.tgt ≠ tg) :
    Calls Tryz.prog 169 #[.pointer (some ⟨p, 0, none⟩), .int .i64 r, .int .u8 k, .int .i64 tg] w fun e w' => e = .returned (.bool false) ∧ Below w.heap.size w w' := by
  obtain ⟨pa, pc, cg, cc, mg, mc, tb, fb, fn, bl, hV⟩ := hW
  have HV := (show Hid _ from hV)
  have Hno : Hid (∀ q t, M.at q = some t → q ≠ r → t.kind = k → t.tgt ≠ tg) := hno
  have c2 := hV.c2
  have HT1 := (show Hid _ from hV.things)
  clear hV hno
  go_enter Tryz.func169, Tryz.ntmps169
  go_wp2_with (first | (at_range; refine range_H rfl _ 137 146 rfl Tryz.underlying137 tb _ (thf M bl) rfl HT1.out ?_; intro w3 L cnt hrg hL hb3))
  have HG3 := (show Hid (Rg w3 tb w.heap.size (thf M bl) L cnt) from hrg)
  have HB3 := (show Hid (Below w.heap.size w w3) from hb3)
  clear hrg hL hb3 c2 HT1
  obtain ⟨r0, hr0⟩ : ∃ r0, r0 = w.heap.size := ⟨_, rfl⟩
  have Hr0 := (show Hid _ from hr0)
  rw [← hr0] at HG3
  rw [← hr0]
  clear hr0
  simp only [Go.Act.put, List.setIfInBounds_toArray, List.set_cons_succ, List.set_cons_zero]
  go_loopw [] (fun wr => ∃ L cnt, Hid (Rg wr tb r0 (thf M bl) L cnt) ∧ Hid (Below w.heap.size w wr)) (fun wr => wr.rangeLeft tb r0)
  case atStart => exact ⟨L, cnt, HG3, HB3⟩
  case round =>
    clear HG3 HB3
    obtain ⟨L, cnt, HG, HB⟩ := hrel
    go_wp2_with (first | (at_next; refine next_H rfl _ rfl tb r0 (thf M bl) L cnt rfl HG.out ?_ ?_))
    · intro _
      clear HG
      go_wp2_with fail
      go_ret
      exact ⟨rfl, HB.out⟩
    · intro x v w4 cnt' hx hLx hf hrg' hlt hk hsz hen
      obtain ⟨t, ht, rfl⟩ := thf_some hf
      have hne := Hno.out x t ht
      have hB4 : Below w.heap.size w w4 := HB.out.trans (hk.below HB.out.size (fun y hy => by have : y = r0 := hy; rw [this, Hr0.out]; exact Nat.le_refl _))
      have HB4 := (show Hid _ from hB4)
      have hbl := (HV.out.below hB4).blk x _ ht
      have HG4 := (show Hid (Rg w4 tb r0 (thf M bl) (fun z => L z && !decide (z = x)) cnt') from hrg')
      have Hlt := (show Hid (cnt' < cnt) from hlt)
      have Hcnt := (show Hid (wr.rangeLeft tb r0 = cnt) from HG.out.left_eq)
      obtain ⟨q0, q1, -, -, q10, q11, q12, q13⟩ := thc_cell hbl.1
      clear hLx hf hrg' hlt hk hsz ht HG hB4 hbl q1 q11 q12 q13
      have fin : (∃ L cnt, Hid (Rg w4 tb r0 (thf M bl) L cnt) ∧ Hid (Below w.heap.size w w4)) ∧ w4.rangeLeft tb r0 < wr.rangeLeft tb r0 := ⟨⟨_, _, HG4, HB4⟩, by rw [Hcnt.out, HG4.out.left_eq]; exact Hlt.out⟩
      have HF := (show Hid _ from fin)
      clear fin HG4 HB4 Hlt Hcnt
      by_cases e1 : x = r
      · clear hne
        go_wp2_with fail
        exact HF.out
      · by_cases e2 : t.kind = k
        · have e3 : (t.tgt == tg) = false := by simpa using hne e1 e2
          have e4 : (x != r && t.tgt == tg) = false := by rw [e3]; exact Bool.and_false _
          clear hne
          go_wp2_with fail
          exact HF.out
        · clear hne
          go_wp2_with fail
          exact HF.out
end Go.Proofs.YthaliljaglldjaaGreat
/- plain: Promise, where there is room for two. -/
namespace Go.Proofs.YthaliljaglldjaaGreat
open Go.RowKit Go.ChangeMaps Go.MapKept
variable {w : World} {p : Nat} {M : WM} {F : Nat → Prop}
set_option maxRecDepth 8000 in
theorem fits_11 (hW : IsW w p M F) {r h tg : Int} {t : Th} (hq : (Lit.int .i64 tg).wf = true) (ht : M.at tg = some t) (hk : t.kind = 10) (hh : t.home = h) (hno : ∀ q u, M.at q = some u → q ≠ r → u.kind = 11 → u.tgt ≠ tg) :
    Calls Tryz.prog 78 #[.pointer (some ⟨p, 0, none⟩), .int .i64 r, .agg #[.int .u8 11, .int .i64 h, .int .u8 0, .int .i64 0, .string ⟨#[]⟩, .slice none 0 0, .int .i64 0, .slice none 0 0, .int .i64 0, .int .i64 0, .int .i64 tg, .int .i64 0, .int .u8 0, .bool false, .slice none 0 0, .slice none 0 0]] w fun e w' => e = .returned (.bool true) ∧ Below w.heap.size w w' := by
  have HW : Hid (IsW w p M F) := hW
  have HT : Hid (M.at tg = some t ∧ t.kind = 10 ∧ t.home = h) := ⟨ht, hk, hh⟩
  have HN : Hid (∀ q u, M.at q = some u → q ≠ r → u.kind = 11 → u.tgt ≠ tg) := hno
  clear hW ht hk hh hno
  go_enter Tryz.func78, Tryz.ntmps78
  go_wp2_with fail
  have hb := ((Below.refl w.heap.size w).alloc (Nat.le_refl _) (.cells #[.pointer (some ⟨p, 0, none⟩)] 31)).alloc (by simp) (.cells #[.int .u8 11, .int .i64 h, .int .u8 0, .int .i64 0, .string ⟨#[]⟩, .slice none 0 0, .int .i64 0, .slice none 0 0, .int .i64 0, .int .i64 0, .int .i64 tg, .int .i64 0, .int .u8 0, .bool false, .slice none 0 0, .slice none 0 0] 46)
  have HB := (show Hid _ from hb)
  refine (there_yes (HW.out.below hb) hq HT.out.1 HT.out.2.1 HT.out.2.2 (by rw [cell_blk (blk2_old _ _ _)]; rfl) (by rw [cell_blk (blk2_new _ _ _)]; rfl)).mono ?_
  clear hb
  rintro e w' ⟨rfl, m, rfl⟩
  have hol := blk2_old w (.cells #[.pointer (some ⟨p, 0, none⟩)] 31) (.cells #[.int .u8 11, .int .i64 h, .int .u8 0, .int .i64 0, .string ⟨#[]⟩, .slice none 0 0, .int .i64 0, .slice none 0 0, .int .i64 0, .int .i64 0, .int .i64 tg, .int .i64 0, .int .u8 0, .bool false, .slice none 0 0, .slice none 0 0] 46)
  go_wp2_with fail
  refine (other_no ((HW.out.below HB.out).drewN m) HN.out).mono ?_
  rintro e w2 ⟨rfl, hb2⟩
  have HB2 : Hid (Below w.heap.size w w2) := by
    have h2 := hb2.mono HB.out.size
    refine Below.trans ?_ h2
    exact Below.trans HB.out ⟨rfl, rfl, rfl, Nat.le_refl _, fun _ _ => rfl⟩
  clear hb2 hol
  go_wp2_with fail
  go_ret
  exact ⟨rfl, HB2.out⟩
theorem Make_11 (hW : IsW w p M F) (hl : M.last + 1 ≤ 1099511627776) {h : Int} (home : 0 ≤ h ∧ h < M.made.length) {tg : Int} {u : Th} (tgw : (Lit.int .i64 tg).wf = true) (hu : M.at tg = some u) (hu10 : u.kind = 10) (huh : u.home = h) (hno : ∀ q v, M.at q = some v → q ≠ 0 → v.kind = 11 → v.tgt ≠ tg) :
    Calls Tryz.prog 14 #[.pointer (some ⟨p, 0, none⟩), .agg #[.int .u8 11, .int .i64 h, .int .u8 0, .int .i64 0, .string ⟨#[]⟩, .slice none 0 0, .int .i64 0, .slice none 0 0, .int .i64 0, .int .i64 0, .int .i64 tg, .int .i64 0, .int .u8 0, .bool false, .slice none 0 0, .slice none 0 0]] w (MadeL w p M F h (lt 11 h 0 0 0 0 tg 0 0 false)) :=
  (Make_G hW (MakeIn.light hW plain0 (fun w hW => form_11 hW h tg (sideB_iff.2 home)) (fun w hW => fits_11 hW tgw hu hu10 huh hno) rfl (fun e => absurd e (by decide)) tgw rfl home (fun _ => by rw [hu]; rfl) (fun e => absurd e (by decide)) fun hr => {
    wf := ⟨by show (1 : Int) ≤ 11 ∧ (11 : Int) ≤ 16; decide, tgw, rfl, by show (0 : Int) ≤ 0 ∧ (0 : Int) ≤ 255; decide⟩
    last := hl
    home := fun _ => home
    made := fun _ => hr
    wrap := fun e => absurd (show wrapsB 11 = true from e) (by decide)
    gate := fun e => absurd (show (11 : Int) = 15 from e) (by decide)
    purse := fun e => absurd (show (11 : Int) = 9 from e) (by decide)
    facet := fun e => absurd (show (11 : Int) = 14 from e) (by decide) })).mono fun _ _ h => h.light
def PromQ (w : World) (p : Nat) (M : WM) (F : Nat → Prop) (h : Int) (e : Ending) (w' : World) : Prop :=
  e = .returned (.tuple #[.int .i64 (M.last + 1), .int .i64 (M.last + 1 + 1), .int .i64 0]) ∧ ∃ F', IsW w' p ((M.add (lt 10 h 0 0 0 0 0 0 0 false)).add (lt 11 h 0 0 0 0 (M.last + 1) 0 0 false)) F' ∧ Grew F w F' w'
set_option maxHeartbeats 1000000 in
set_option maxRecDepth 8000 in
theorem Promise_G (hW : IsW w p M F) (hl : M.last + 2 ≤ 1099511627776) (hl0 : 0 ≤ M.last) {h : Int} (hh : 0 ≤ h ∧ h < M.made.length) (hroom : M.made.getD h.toNat 0 + 2 ≤ 512) (hm0 : 0 ≤ M.made.getD h.toNat 0)
    (hat : (M.add (lt 10 h 0 0 0 0 0 0 0 false)).at (M.last + 1) = some (lt 10 h 0 0 0 0 0 0 0 false)) (hlast : (M.add (lt 10 h 0 0 0 0 0 0 0 false)).last = M.last + 1) (hlen : (M.add (lt 10 h 0 0 0 0 0 0 0 false)).made.length = M.made.length) (hmade : (M.add (lt 10 h 0 0 0 0 0 0 0 false)).made.getD h.toNat 0 = M.made.getD h.toNat 0 + 1)
    (hno : ∀ q v, (M.add (lt 10 h 0 0 0 0 0 0 0 false)).at q = some v → q ≠ 0 → v.kind = 11 → v.tgt ≠ M.last + 1) :
    Calls Tryz.prog 86 #[.pointer (some ⟨p, 0, none⟩), .int .i64 h] w (PromQ w p M F h) := by
  have hmay := may_G hW hh (⟨0, 0, ⟨#[]⟩, [], 0⟩ : Val) (.slice none 0 0) (SlAt.nil w F none 0) (refsV0 0 0 (.inl ⟨rfl, rfl⟩)).2 (fun r hr => by rw [(refsV0 0 0 (.inl ⟨rfl, rfl⟩)).1] at hr; cases hr)
  have HY := (show Hid _ from hmay)
  have HW : Hid (IsW w p M F) := hW
  have HS : Hid (sideB M h = true) := sideB_iff.2 hh
  have Hh : Hid (0 ≤ h ∧ h < M.made.length) := hh
  have HL : Hid (M.last + 2 ≤ 1099511627776 ∧ 0 ≤ M.last) := ⟨hl, hl0⟩
  have HR : Hid (M.made.getD h.toNat 0 + 2 ≤ 512 ∧ 0 ≤ M.made.getD h.toNat 0) := ⟨hroom, hm0⟩
  have HN := (show Hid _ from And.intro hat (And.intro hlast (And.intro hlen (And.intro hmade hno))))
  clear hmay hW hh hl hl0 hroom hm0 hat hlast hlen hmade hno
  simp only [vcs] at HY
  go_enter Tryz.func86, Tryz.ntmps86
  go_wp2_with fail
  refine Calls.mono HY.out ?_
  rintro e w1 ⟨rfl, hb1⟩
  have HB1 := (show Hid (Below w.heap.size w w1) from hb1)
  clear hb1 HY
  go_wp2_with fail
  refine (Made_W (HW.out.below HB1.out) h).mono ?_
  rw [HS.out, if_pos rfl]
  rintro e _ ⟨rfl, rfl⟩
  obtain ⟨n, hn⟩ : ∃ n, n = M.made.getD h.toNat 0 := ⟨_, rfl⟩
  rw [← hn]
  have hn2 : wrap64 (n + 2) = n + 2 := by have := HR.out; rw [← hn] at this; unfold wrap64; omega
  have hn3 : ¬ (n + 2 > 512) := by have := HR.out; rw [← hn] at this; omega
  have Hn := (show Hid _ from hn)
  clear hn
  go_wp2_with fail
  refine (Make_10 (HW.out.below HB1.out) (by have := HL.out; omega) Hh.out).mono ?_
  rintro e w2 (⟨-, rfl, F', hW', hg⟩ | ⟨hx, -, -⟩)
  rotate_left
  · exact absurd (by have := HR.out; omega) hx
  have HW2 : Hid (IsW w2 p (M.add (lt 10 h 0 0 0 0 0 0 0 false)) F' ∧ Grew F w F' w2) := ⟨hW', hg.start HB1.out⟩
  clear hW' hg hn2 hn3
  go_wp2_with fail
  refine (Make_11 HW2.out.1 (by have := HL.out; rw [HN.out.2.1]; omega) (by rw [HN.out.2.2.1]; exact Hh.out) (tg := M.last + 1) (by obtain ⟨_, _, _, _, _, _, _, _, _, _, hV⟩ := HW2.out.1; exact hV.ok.at_wf HN.out.1) HN.out.1 rfl rfl HN.out.2.2.2.2).mono ?_
  rintro e w3 (⟨-, rfl, F3, hW3, hg3⟩ | ⟨hx, -, -⟩)
  rotate_left
  · exact absurd (by rw [HN.out.2.2.2.1]; have := HR.out; omega) hx
  rw [HN.out.2.1]
  have HE : Hid (∃ F', IsW w3 p ((M.add (lt 10 h 0 0 0 0 0 0 0 false)).add (lt 11 h 0 0 0 0 (M.last + 1) 0 0 false)) F' ∧ Grew F w F' w3) := ⟨F3, hW3, HW2.out.2.1.trans hg3.1 (fun _ _ h => h) (fun x hx h => by rcases HW2.out.2.2 x h with h | h; exact h; omega), fun y hy => by
    rcases hg3.2 y hy with h | h
    · exact HW2.out.2.2 y h
    · exact .inr (Nat.le_trans HW2.out.2.1.size h)⟩
  clear hW3 hg3
  go_wp2_with fail
  go_returns
  exact ⟨rfl, HE.out⟩
end Go.Proofs.YthaliljaglldjaaGreat
