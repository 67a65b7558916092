/- A part of the proof, several texts in one: SortLay, Class, RefsW, WalkE. -/
import Derived.Test.YtmefjkggibbhoaaGreatmAA
import Derived.Test.YtmefjkggibbhoaaGreatChecked
import Derived.Shelf.SortM.Plain
import Derived.Ground.SlgmProg
import Derived.Shelf.SlGeneric
import Derived.Deep.QuietTactic
import Derived.BigQuiet
import Derived.Test.YtmefjkggibbhoaaGreatmAE
import Derived.Test.YtmefjkggibbhoaaGreatmAB
import Derived.Test.YtmefjkggibbhoaaGreatmAD
import Derived.Sort.OwnSortedInts
import Derived.RangeFuncBox
import Derived.Deep.DeepCutAuto
import Derived.Deep.CutBlock
import Derived.Test.YtmefjkggibbhoaaGreatmAC
import Derived.StillTailTactics
/- The contract of slices.Sort, laid at the references. -/
namespace Go.Proofs.YtmefjkggibbhoaaGreat
open Go.Shelf
def Tryz.sortLay_ren : Go.Shelf.Ren := ⟨fun | 5 => 75 | 8 => 101 | 7 => 100 | 19 => 125 | 20 => 126 | 10 => 116 | 11 => 117 | 12 => 118 | 13 => 119 | 14 => 120 | 15 => 121 | 16 => 122 | 17 => 123 | 18 => 124 | 30 => 140 | 31 => 141 | 32 => 142 | 33 => 143 | 34 => 144 | 35 => 145 | 40 => 152 | n => n, fun | 23 => 31 | 25 => 35 | 3 => 3 | 32 => 175 | 22 => 31 | 0 => 0 | 44 => 198 | 46 => 200 | 4 => 4 | 36 => 190 | 35 => 189 | 41 => 195 | 5 => 5 | 9 => 9 | 53 => 215 | 57 => 156 | 63 => 225 | 64 => 226 | n => n, fun | n => n⟩
theorem Tryz.sortLay : Go.Proofs.SlLaysM.n5 Tryz.prog Tryz.sortLay_ren := {
  mixed := by kernel_rfl
  f5 := ⟨Tryz.f75.name, by decide, Tryz.func75.trans (congrArg some (by kernel_rfl))⟩
  f7 := ⟨Tryz.f100.name, by decide, Tryz.func100.trans (congrArg some (by kernel_rfl))⟩
  f8 := Tryz.func101.trans (congrArg some (by kernel_rfl))
  f10 := ⟨Tryz.f116.name, by decide, Tryz.func116.trans (congrArg some (by kernel_rfl))⟩
  f11 := ⟨Tryz.f117.name, by decide, Tryz.func117.trans (congrArg some (by kernel_rfl))⟩
  f12 := ⟨Tryz.f118.name, by decide, Tryz.func118.trans (congrArg some (by kernel_rfl))⟩
  f13 := ⟨Tryz.f119.name, by decide, Tryz.func119.trans (congrArg some (by kernel_rfl))⟩
  f14 := ⟨Tryz.f120.name, by decide, Tryz.func120.trans (congrArg some (by kernel_rfl))⟩
  f15 := ⟨Tryz.f121.name, by decide, Tryz.func121.trans (congrArg some (by kernel_rfl))⟩
  f16 := ⟨Tryz.f122.name, by decide, Tryz.func122.trans (congrArg some (by kernel_rfl))⟩
  f17 := ⟨Tryz.f123.name, by decide, Tryz.func123.trans (congrArg some (by kernel_rfl))⟩
  f18 := ⟨Tryz.f124.name, by decide, Tryz.func124.trans (congrArg some (by kernel_rfl))⟩
  f19 := Tryz.func125.trans (congrArg some (by kernel_rfl))
  f20 := Tryz.func126.trans (congrArg some (by kernel_rfl))
  f30 := ⟨Tryz.f140.name, by decide, Tryz.func140.trans (congrArg some (by kernel_rfl))⟩
  f31 := Tryz.func141.trans (congrArg some (by kernel_rfl))
  f32 := Tryz.func142.trans (congrArg some (by kernel_rfl))
  f33 := ⟨Tryz.f143.name, by decide, Tryz.func143.trans (congrArg some (by kernel_rfl))⟩
  f34 := ⟨Tryz.f144.name, by decide, Tryz.func144.trans (congrArg some (by kernel_rfl))⟩
  f35 := ⟨Tryz.f145.name, by decide, Tryz.func145.trans (congrArg some (by kernel_rfl))⟩
  f40 := ⟨Tryz.f152.name, by decide, Tryz.func152.trans (congrArg some (by kernel_rfl))⟩
  t0 := Tryz.underlying0
  a0 := Tryz.isAgg0
  z0 := Tryz.sizeOf0
  v0 := Tryz.zeroValue0
  t3 := Tryz.underlying3
  a3 := Tryz.isAgg3
  z3 := Tryz.sizeOf3
  v3 := Tryz.zeroValue3
  t4 := Tryz.underlying4
  a4 := Tryz.isAgg4
  z4 := Tryz.sizeOf4
  v4 := Tryz.zeroValue4
  t5 := Tryz.underlying5
  a5 := Tryz.isAgg5
  z5 := Tryz.sizeOf5
  v5 := Tryz.zeroValue5
  t9 := Tryz.underlying9
  a9 := Tryz.isAgg9
  z9 := Tryz.sizeOf9
  v9 := Tryz.zeroValue9
  t22 := Tryz.underlying31
  a22 := Tryz.isAgg31
  z22 := Tryz.sizeOf31
  v22 := Tryz.zeroValue31
  t23 := Tryz.underlying31
  a23 := Tryz.isAgg31
  z23 := Tryz.sizeOf31
  v23 := Tryz.zeroValue31
  t25 := Tryz.underlying35
  a25 := Tryz.isAgg35
  z25 := Tryz.sizeOf35
  v25 := Tryz.zeroValue35
  t32 := Tryz.underlying175
  a32 := Tryz.isAgg175
  z32 := Tryz.sizeOf175
  v32 := Tryz.zeroValue175
  t35 := Tryz.underlying189
  a35 := Tryz.isAgg189
  z35 := Tryz.sizeOf189
  v35 := Tryz.zeroValue189
  t36 := Tryz.underlying190
  a36 := Tryz.isAgg190
  z36 := Tryz.sizeOf190
  v36 := Tryz.zeroValue190
  t41 := Tryz.underlying195
  a41 := Tryz.isAgg195
  z41 := Tryz.sizeOf195
  v41 := Tryz.zeroValue195
  t44 := Tryz.underlying198
  a44 := Tryz.isAgg198
  z44 := Tryz.sizeOf198
  v44 := Tryz.zeroValue198
  t46 := Tryz.underlying200
  a46 := Tryz.isAgg200
  z46 := Tryz.sizeOf200
  v46 := Tryz.zeroValue200
  t53 := Tryz.underlying215
  a53 := Tryz.isAgg215
  z53 := Tryz.sizeOf215
  v53 := Tryz.zeroValue215
  t57 := Tryz.underlying156
  a57 := Tryz.isAgg156
  z57 := Tryz.sizeOf156
  v57 := Tryz.zeroValue156
  t63 := Tryz.underlying225
  a63 := Tryz.isAgg225
  z63 := Tryz.sizeOf225
  v63 := Tryz.zeroValue225
  t64 := Tryz.underlying226
  a64 := Tryz.isAgg226
  z64 := Tryz.sizeOf226
  v64 := Tryz.zeroValue226 }
end Go.Proofs.YtmefjkggibbhoaaGreat
/- A region that draws its order, whose operations answer one value in every world of a class. -/
namespace Go.Proofs.YtmefjkggibbhoaaGreat
open Go.RowKit

theorem region_class {P : Program} {C : World → Prop} {id : Nat} {Q : Exit → Act → World → Prop} {a : Act} {w : World} {l : List Oper} (hm : P.follows .mixedOrders = true) (hB : Region.lexB .any l.toArray = true) (hC : C w.drew)
    (h : wpQuiet P l.toArray C (fun a' => ∀ w', C w' → Q .normal a' w') l a) : (Code.region id l.toArray true).wp P Q a w :=
  wp_region_quiet (C := C) hm hB hC (by simpa using h)
theorem below_drew {w : World} : Below w.heap.size w w.drew := ⟨rfl, rfl, rfl, Nat.le_refl _, fun _ _ => rfl⟩
theorem below_drewN {w : World} (n : Nat) : Below w.heap.size w (w.drewN n) := ⟨rfl, rfl, rfl, Nat.le_refl _, fun _ _ => rfl⟩
end Go.Proofs.YtmefjkggibbhoaaGreat
/- refs: all numbers of a world, rising. -/
namespace Go.Proofs.YtmefjkggibbhoaaGreat
open Go.RowKit Go.ChangeMaps Go.MapKept
variable {w : World} {p : Nat} {M : WM} {F : Nat → Prop}

/-- What has come, and what is still to come. -/
structure Cs (M : WM) (L : Int → Bool) (ss : List Int) : Prop where
  nd : ss.Nodup
  mem : ∀ x, x ∈ ss ↔ ((M.at x).isSome = true ∧ L x = false)
theorem Cs.start {M : WM} (hM : M.ok) {bl : Int → Nat} {L : Int → Bool} (h : ∀ x, (Lit.int .i64 x).wf = true → L x = (thf M bl (.int .i64 x)).isSome) : Cs M L [] where
  nd := List.nodup_nil
  mem := fun x => by
    constructor
    · intro hx
      cases hx
    · rintro ⟨h1, h2⟩
      obtain ⟨t, ht⟩ := Option.isSome_iff_exists.1 h1
      rw [h x (hM.at_wf ht)] at h2
      simp [thf, ht] at h2
theorem Cs.step {M : WM} {L : Int → Bool} {ss : List Int} (h : Cs M L ss) {x : Int} {t : Th} (hx : M.at x = some t) (hL : L x = true) : Cs M (fun z => L z && !decide (z = x)) (ss ++ [x]) where
  nd := by
    rw [List.nodup_append]
    refine ⟨h.nd, by simp, fun a ha b hb => ?_⟩
    simp at hb
    subst hb
    intro e
    subst e
    rw [((h.mem a).1 ha).2] at hL
    cases hL
  mem := fun y => by
    rw [List.mem_append, h.mem y]
    by_cases e : y = x
    · subst e
      simp [hx]
    · simp [e]
theorem Cs.done {M : WM} (hM : M.ok) {L : Int → Bool} {ss : List Int} (h : Cs M L ss) (hL : ∀ x, (Lit.int .i64 x).wf = true → L x = false) : (ss.mergeSort fun x y => decide (x ≤ y)) = M.things.map (·.1) ∧ ss.length = M.things.length := by
  have hk : (M.things.map (·.1)).Pairwise (fun a b => a < b) := by
    rw [List.pairwise_map]
    exact hM.keys
  have hnd : (M.things.map (·.1)).Nodup := hk.imp (fun h => by omega)
  have hp : ss.Perm (M.things.map (·.1)) := (List.perm_ext_iff_of_nodup h.nd hnd).2 fun x => by
    rw [h.mem x, List.mem_map]
    constructor
    · rintro ⟨h1, -⟩
      obtain ⟨t, ht⟩ := Option.isSome_iff_exists.1 h1
      exact ⟨(x, t), at_mem ht, rfl⟩
    · rintro ⟨y, hy, rfl⟩
      have := hM.at_of_mem hy
      exact ⟨by rw [this]; rfl, hL _ (hM.at_wf this)⟩
  have tr : ∀ a b c : Int, decide (a ≤ b) = true → decide (b ≤ c) = true → decide (a ≤ c) = true := fun a b c h1 h2 => by simp at *; omega
  have tot : ∀ a b : Int, (decide (a ≤ b) || decide (b ≤ a)) = true := fun a b => by simp; omega
  refine ⟨?_, by rw [hp.length_eq, List.length_map]⟩
  exact List.Perm.eq_of_pairwise (le := fun a b => decide (a ≤ b) = true) (fun a b _ _ h1 h2 => by simp at h1 h2; omega) (List.pairwise_mergeSort tr tot ss) (hk.imp (fun h => by simp; omega)) ((List.mergeSort_perm ss _).trans hp)
theorem nodup_len : ∀ (l m : List Int), l.Nodup → (∀ x ∈ l, x ∈ m) → l.length ≤ m.length
  | [], _, _, _ => Nat.zero_le _
  | x :: l, m, h, hm => by
    obtain ⟨h1, h2⟩ := List.nodup_cons.1 h
    have hx := hm x (by simp)
    have := nodup_len l (m.erase x) h2 (fun y hy => (List.mem_erase_of_ne (fun e : y = x => h1 (e ▸ hy))).2 (hm y (by simp [hy])))
    rw [List.length_erase_of_mem hx] at this
    have := List.length_pos_of_mem hx
    simp only [List.length_cons]
    omega
theorem Cs.len {M : WM} {L : Int → Bool} {ss : List Int} (h : Cs M L ss) : ss.length ≤ M.things.length := by
  have := nodup_len ss (M.things.map (·.1)) h.nd (fun x hx => by
    obtain ⟨t, ht⟩ := Option.isSome_iff_exists.1 ((h.mem x).1 hx).1
    exact List.mem_map.2 ⟨(x, t), at_mem ht, rfl⟩)
  simpa using this
theorem WM.ok.len_le {M : WM} (hM : M.ok) : (M.things.length : Int) ≤ M.last := by
  have key : ∀ (l : List (Int × Th)) (b : Int), l.Pairwise (fun x y => x.1 < y.1) → (∀ x ∈ l, b < x.1 ∧ x.1 ≤ M.last) → b ≤ M.last → (l.length : Int) + b ≤ M.last := by
    intro l
    induction l with
    | nil => intro b _ _ h; simpa using h
    | cons x l ih =>
      intro b hp hx hb
      obtain ⟨h1, h2⟩ := List.pairwise_cons.1 hp
      have hx0 := hx x (by simp)
      have := ih x.1 h2 (fun y hy => ⟨h1 y hy, (hx y (by simp [hy])).2⟩) hx0.2
      simp only [List.length_cons]
      omega
  have := key M.things 0 hM.keys (fun x hx => hM.range x hx) hM.last.1
  omega

def RefsPost (w : World) (M : WM) (e : Ending) (w' : World) : Prop :=
  ∃ g cap, e = .returned (.slice (some ⟨g, 0, none⟩) M.things.length cap) ∧ w'.ownsRow w.heap.size 35 1 (.slice (some ⟨g, 0, none⟩) M.things.length cap) M.things.length ((M.things.map (·.1)).map (Value.int .i64)) ∧ Below w.heap.size w w'

set_option maxHeartbeats 2000000 in
set_option maxRecDepth 20000 in
theorem refs_W (hW : IsW w p M F) : Calls Tryz.prog 45 #[.pointer (some ⟨p, 0, none⟩)] w (RefsPost w M) := by
  obtain ⟨pa, pc, cg, cc, mg, mc, tb, fb, fn, bl, hV⟩ := hW
  have HV := (show Hid _ from hV)
  have hlast := hV.ok.len_le
  have hl2 := hV.ok.last.2
  have hn : (M.things.length : Int) ≤ 1099511627776 := by omega
  have c2 := hV.c2
  have hlen := hV.things.len Tryz.underlying60
  obtain ⟨i0, hi, hz0, hz1, hz2⟩ := info_parts infoRef
  obtain ⟨w1, hmk, hrow, hgr⟩ := run_make_own (P := Tryz.prog) (w := w) w.heap.size 31 35 i0 (.int .i64 0) 1 Tryz.underlying31 hi hz0 hz1 .i64 .i64 M.things.length (by rw [hz2]; omega) (by unfold maxLen; omega) (Nat.le_refl _)
  have hb1 : Below w.heap.size w w1 := ⟨hgr.os, hgr.tape, hgr.output, hgr.size, fun k hk => hgr.block k hk (by simp)⟩
  have HN := (show Hid ((M.things.length : Int) ≤ 1099511627776) from hn)
  have HR : Hid (w1.ownsRow w.heap.size 35 1 (.slice (some ⟨w.heap.size, 0, none⟩) 0 M.things.length) 0 []) := hrow
  have HB1 := (show Hid (Below w.heap.size w w1) from hb1)
  have c21 := (hV.below hb1).c2
  have HT1 := (show Hid _ from (hV.below hb1).things)
  clear hV hlast hl2 hn hrow hgr hb1 hi hz0 hz1 hz2
  go_enter Tryz.func45, Tryz.ntmps45
  go_wp2_with (first | (at_range; refine range_H rfl _ 60 98 rfl Tryz.underlying60 tb _ (thf M bl) rfl HT1.out ?_; intro w3 L cnt hrg hL hb3))
  have HG3 := (show Hid (Rg w3 tb w1.heap.size (thf M bl) L cnt) from hrg)
  have HC3 := (show Hid (Cs M L []) from Cs.start HV.out.ok hL)
  have HB3 := (show Hid (Below w.heap.size w w3) from HB1.out.trans (hb3.mono HB1.out.size))
  have HR3 : Hid (w3.ownsRow w.heap.size 35 1 (.slice (some ⟨w.heap.size, 0, none⟩) 0 M.things.length) 0 []) := World.ownsRow.kept (row := none) HR.out ⟨hb3.os, hb3.tape, hb3.output, hb3.size, fun k hk _ => hb3.block k hk⟩ (Or.inr (by simp [Value.ownBlock]))
  have hr0 : w.heap.size ≤ w1.heap.size := HB1.out.size
  have Hr0 := (show Hid (w.heap.size < w1.heap.size) from by
    rcases HR.out.2 with ⟨h, -⟩ | ⟨g, cap, cur, h1, h2, h3, -⟩
    · cases h
    · cases h1
      exact blk_lt h3)
  clear hrg hL hb3 c21 HT1 HR hmk hlen c2 hr0
  generalize w1.heap.size = r0 at *
  simp only [Go.Act.put, List.setIfInBounds_toArray, List.set_cons_succ, List.set_cons_zero]
  go_loopw [3] (fun v wr => ∃ L cnt ss, Hid (Rg wr tb r0 (thf M bl) L cnt) ∧ Hid (Cs M L ss) ∧ Hid (Below w.heap.size w wr) ∧ Hid (∃ g cap, v = .slice (some ⟨g, 0, none⟩) ss.length cap) ∧ Hid (wr.ownsRow w.heap.size 35 1 v ss.length (ss.map (Value.int .i64)))) (fun _ wr => wr.rangeLeft tb r0)
  case atStart => exact ⟨L, cnt, [], HG3, HC3, HB3, ⟨_, _, rfl⟩, HR3⟩
  case round =>
    clear HG3 HC3 HB3 HR3
    obtain ⟨L, cnt, ss, HG, HC, HB, HS, HR⟩ := hrel
    obtain ⟨g, cap, rfl⟩ := HS.out
    go_wp2_with (first | (at_next; refine next_H rfl _ rfl tb r0 (thf M bl) L cnt rfl HG.out ?_ ?_))
    · intro hdone
      obtain ⟨hsrt, hlen⟩ := HC.out.done HV.out.ok hdone
      rcases HR.out.2 with ⟨h, -⟩ | ⟨g', cap', cur, hv, hbase, hb, h1, h2, h3, h4⟩
      · cases h
      cases hv
      have hsz : ss.length < 4611686018427387904 := by have := HN.out; omega
      have hH := holds_of_blockI hb (by simpa using h4)
      have hs := AnyM.slices_Sort_int Tryz.sortLay g 0 cap ss wr hH (blk_lt hb) hsz
      have hs2 : Calls Tryz.prog 75 #[.slice (some ⟨g, 0, none⟩) ss.length cap] wr (fun e w' => e = .returned (.tuple #[]) ∧ Hid (RefsPost w M (.returned (.slice (some ⟨g, 0, none⟩) ss.length cap)) w')) := by
        refine Calls.mono hs ?_
        rintro e w' ⟨rfl, n, os, rfl⟩
        refine ⟨rfl, g, cap, by rw [hlen], ?_, ?_⟩
        · have := ownsRow_sortedI (n := n) (os := os) (ts := ss.mergeSort fun x y => decide (x ≤ y)) (by simp) hbase hb h1 h2 h3
          rw [← hlen, ← hsrt]
          exact this
        · exact HB.out.grown (grownBy_sortedI _) HB.out.size (fun j hj => by cases hj; exact hbase)
      have HS2 := (show Hid _ from hs2)
      clear hsrt hlen hb h1 h2 h3 h4 hH hs hs2 hsz hbase HR HG
      go_wp2_with fail
      refine Calls.mono HS2.out ?_
      rintro e w' ⟨rfl, HP⟩
      go_wp2_with fail
      go_ret
      exact HP.out
    · intro x v w4 cnt' hx hLx hf hrg' hlt hk hsz hen
      obtain ⟨t, ht, rfl⟩ := thf_some hf
      have HC4 := (show Hid (Cs M (fun z => L z && !decide (z = x)) (ss ++ [x])) from HC.out.step ht hLx)
      have hgr4 : wr.grownBy w4 (some r0) := ⟨hk.os, hk.tape, hk.output, hk.size, fun b hb hne => hk.block b hb (fun e => hne (by rw [e]))⟩
      have hgr0 : g < wr.heap.size ∧ w.heap.size ≤ g ∧ g ≠ r0 := by
        obtain ⟨D, n, left, hrr, -⟩ := HG.out
        have h1 := row_ne_iter HR.out hrr
        have h2 := HR.out.lt g rfl
        exact ⟨h2.2, h2.1, fun e => h1 (by rw [e]; rfl)⟩
      have HR4 : Hid (w4.ownsRow w.heap.size 35 1 (.slice (some ⟨g, 0, none⟩) ss.length cap) ss.length (ss.map (Value.int .i64))) := World.ownsRow.kept (row := some r0) HR.out hgr4 (Or.inr (by simp [Value.ownBlock]; exact hgr0.2.2))
      have HG4 := (show Hid (Rg w4 tb r0 (thf M bl) (fun z => L z && !decide (z = x)) cnt') from hrg')
      have Hlt := (show Hid (cnt' < cnt) from hlt)
      have Hsz4 := (show Hid (w4.heap.size = wr.heap.size) from hsz)
      have Hcnt := (show Hid (wr.rangeLeft tb r0 = cnt) from HG.out.left_eq)
      have HB4 : Hid (Below w.heap.size w w4) := HB.out.grown hgr4 HB.out.size (fun j hj => by cases hj; exact Nat.le_of_lt Hr0.out)
      have hbase : w.heap.size ≤ w4.heap.size := HB4.out.size
      have hown := HR4.out
      have Hp : Hid ((ss.length : Int) ≤ 1099511627777) := by
        have h1 := HC.out.len
        have h2 := HN.out
        show _ ≤ _
        omega
      have Hg0 := (show Hid _ from hgr0)
      have HOwn : Hid (w4.ownsRow w.heap.size 35 1 (.slice (some ⟨g, 0, none⟩) ss.length cap) ss.length (ss.map (Value.int .i64))) := hown
      have Htb : Hid (tb < w.heap.size) := HV.out.lt _ HV.out.own.2.2.2.1
      clear hLx hf hrg' hlt hk hsz ht hgr4 hgr0 HG HR HR4 HC
      go_wp2_with (first
        | (at_builtin; refine append_ref rfl _ _ rfl w.heap.size _ ss rfl HOwn.out x rfl Hp hbase ?_; intro v' w5 hown' hg5 hb5))
      have hg5' : w4.grownBy w5 (some g) := hg5
      have hsz4 : wr.heap.size ≤ w4.heap.size := by have := HG4.out.lt; have := Hsz4.out; omega
      have hRg5 : Rg w5 tb r0 (thf M bl) (fun z => L z && !decide (z = x)) cnt' := HG4.out.of_blocks (hg5'.block tb HG4.out.ltb (fun e => by cases e; have := Htb.out; have := Hg0.out.2.1; omega)) (hg5'.block r0 HG4.out.lt (fun e => by cases e; exact Hg0.out.2.2 rfl))
      have HRg5 := (show Hid (Rg w5 tb r0 (thf M bl) (fun z => L z && !decide (z = x)) cnt') from hRg5)
      have HB5 := (show Hid (Below w.heap.size w w5) from HB4.out.trans hb5)
      have HO5 : Hid (w5.ownsRow w.heap.size 35 1 v' (ss ++ [x]).length ((ss ++ [x]).map (Value.int .i64))) := hown'
      have HS5 : Hid (∃ g cap, v' = .slice (some ⟨g, 0, none⟩) (ss ++ [x]).length cap) := by
        obtain ⟨g5, cap5, h5⟩ := ownsRow_succ (k := ss.length) (by simpa using hown')
        exact ⟨g5, cap5, by rw [h5]; simp⟩
      refine ⟨⟨_, cnt', ss ++ [x], HRg5, HC4, HB5, HS5, HO5⟩, ?_⟩
      rw [Hcnt.out, HRg5.out.left_eq]
      exact Hlt.out
end Go.Proofs.YtmefjkggibbhoaaGreat
/- A thing more: index, lay. An edge that is cut. -/
namespace Go.Proofs.YtmefjkggibbhoaaGreat
open Go.RowKit Go.ChangeMaps Go.MapKept

theorem drew_map {P : Program} {k : TypeId} {w : World} {b n : Nat} {f : Value → Option Value} (h : HasMap P k w b f n) : HasMap P k w.drew b f n := h

/-- A map of at most n entries. -/
def MapLe (P : Program) (k : TypeId) (w : World) (b : Nat) (f : Value → Option Value) (n : Nat) : Prop := ∃ m, m ≤ n ∧ HasMap P k w b f m

theorem index_plain {w : World} {p tb b : Nat} {r k : Int} (c2 : w.cell? ⟨p, 2, none⟩ = some (.map (some tb)))
    (hl : (Instr.lookup 60 (.map (some tb)) (.int .i64 r) false).run Tryz.prog w = .ok (.pointer (some ⟨b, 0, none⟩)) w) (k0 : w.cell? ⟨b, 0, none⟩ = some (.int .u8 k)) (hk : (k == 14) = false) :
    Calls Tryz.prog 42 #[.pointer (some ⟨p, 0, none⟩), .int .i64 r] w fun e w' => e = .returned (.tuple #[]) ∧ w = w' := by
  go_enter Tryz.func42, Tryz.ntmps42
  go_wp2
  go_end0
  exact ⟨rfl, rfl⟩

set_option maxRecDepth 8000 in
theorem index_facet {w : World} {p tb fb b fn : Nat} {r t s : Int} {f g : Value → Option Value} (c2 : w.cell? ⟨p, 2, none⟩ = some (.map (some tb))) (c3 : w.cell? ⟨p, 3, none⟩ = some (.map (some fb)))
    (hl : (Instr.lookup 60 (.map (some tb)) (.int .i64 r) false).run Tryz.prog w = .ok (.pointer (some ⟨b, 0, none⟩)) w) (k0 : w.cell? ⟨b, 0, none⟩ = some (.int .u8 14))
    (k6 : w.cell? ⟨b, 10, none⟩ = some (.int .i64 t)) (k8 : w.cell? ⟨b, 12, none⟩ = some (.int .u8 s)) (ht : (Lit.int .i64 t).wf = true) (hs : (Lit.int .u8 s).wf = true)
    (hm : HasMap Tryz.prog 140 w fb f fn) (hn : fn < maxLen) (hg : g (fkey t s) = some (.int .i64 r)) (hg' : ∀ x, x ≠ fkey t s → g x = f x) :
    Calls Tryz.prog 42 #[.pointer (some ⟨p, 0, none⟩), .int .i64 r] w fun e w' => e = .returned (.tuple #[]) ∧ Turned w w' fb ∧ MapLe Tryz.prog 140 w' fb g (fn + 1) := by
  obtain ⟨kl, hkl⟩ := key_f ht hs
  obtain ⟨w2, hrun, r1, r2⟩ := (drew_map hm).store keyedFKey Tryz.underlying61 hn hkl (.int .i64 r) hg hg'
  simp only [fkey] at hrun
  have Hr1 : Hid (MapLe Tryz.prog 140 w2 fb g (fn + 1)) := ⟨_, by split <;> omega, r1⟩
  have Hr2 : Hid (Turned w w2 fb) := Turned.of_drew r2
  clear r1 r2 hm hg hg' hkl hn
  go_enter Tryz.func42, Tryz.ntmps42
  go_wp2
  go_still_tail 14, (by kernel_rfl)
  change wpList _ _ _ _ _ w.drew
  go_wp2
  go_end0
  exact ⟨rfl, Hr2.out, Hr1.out⟩

/-- The world's own calls change last, one thing, and what is made at home: an edge that is cut. -/
def WM.cutE (M : WM) (n : Nat) : WM := { M with cuts := M.cuts.set n true }
theorem WM.cutE_ok {M : WM} (h : M.ok) (n : Nat) : (M.cutE n).ok := { h with cuts := by show (M.cuts.set n true).length = _; rw [List.length_set]; exact h.cuts }


end Go.Proofs.YtmefjkggibbhoaaGreat
