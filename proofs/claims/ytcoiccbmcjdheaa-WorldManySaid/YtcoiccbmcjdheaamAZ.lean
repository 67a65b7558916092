/- A part of the proof, several texts in one: MnB, Facet, Free, Lives, MnW. -/
import Derived.Test.YtcoiccbmcjdheaamAW
import Derived.Test.YtcoiccbmcjdheaamAY
import Derived.Laws.OwnMore
import Derived.Test.YtcoiccbmcjdheaamAP
import Derived.Test.YtcoiccbmcjdheaamAD
import Derived.Test.YtcoiccbmcjdheaamAE
import Derived.Deep.QuietTactic
import Derived.BigQuiet
import Derived.Test.YtcoiccbmcjdheaamAF
import Derived.Test.YtcoiccbmcjdheaamAS
import Derived.Test.YtcoiccbmcjdheaamAR
import Derived.Test.YtcoiccbmcjdheaamAO
/- WorldMany: the world as data; slices of zero values. -/
namespace Go.Proofs.Ytcoiccbmcjdheaa
open Go.RowKit Go.ChangeMaps Go.MapKept

abbrev c0 : Th := lt 1 0 0 0 0 0 0 0 0 false
/-- k cells have been made. -/
def ML (k : Nat) : WM := { WM.new [0] with things := (List.range k).map fun (i : Nat) => ((i : Int) + 1, c0), last := k, made := [(k : Int), 0] }
theorem ML_zero : WM.new [0] = ML 0 := rfl
theorem ML_add (k : Nat) : (ML k).add c0 = ML (k + 1) := by
  unfold ML WM.add
  simp [List.range_succ]
theorem ML_lite {k : Nat} {r : Int} {t : Th} (h : (r, t) ∈ (ML k).things) : t = c0 := by
  simp only [ML, List.mem_map] at h
  obtain ⟨i, -, hi⟩ := h
  cases hi
  rfl
theorem ML_mem {k i : Nat} (h : i < k) : ((i : Int) + 1, c0) ∈ (ML k).things := by
  simp only [ML, List.mem_map]
  exact ⟨i, List.mem_range.2 h, rfl⟩
theorem ML_light (k : Nat) : ∀ r t, (ML k).at r = some t → Light t ∧ t.kind ≠ 14 := fun r t h => by
  have := ML_lite (at_mem h)
  subst this
  exact ⟨⟨1, 0, 0, 0, 0, 0, 0, 0, 0, false, rfl, .inl ⟨rfl, rfl⟩⟩, by decide⟩
theorem ML_gone {k : Nat} (l : List Int) : ∀ ds : List Int, ds.foldl (WM.gone1 l) (ML k) = ML k
  | [] => rfl
  | x :: ds => by
    rw [List.foldl_cons]
    have : WM.gone1 l (ML k) x = ML k := by
      unfold WM.gone1
      split
      · rename_i t ht
        have := ML_lite (at_mem ht)
        subst this
        rfl
      · rfl
    rw [this]
    exact ML_gone l ds
theorem ML_lean (k : Nat) : ¬ Lean' (ML k) [1, 2, 3] := by
  rintro ⟨q, t, h1, -, h2⟩
  have := ML_lite (at_mem h1)
  subst this
  rcases h2 with ⟨-, h2⟩ | h2
  · exact absurd (show (0 : Int) ∈ [1, 2, 3] from h2) (by decide)
  · exact absurd (show (0 : Int) ∈ [1, 2, 3] from h2) (by decide)
/-- Behind the going of three. -/
def MD : WM := (ML 512).delL [1, 2, 3]
theorem MD_len : MD.things.length = 509 := by kernel_rfl
theorem MD_mem : ((7 : Int), c0) ∈ MD.things := by
  simp only [MD, WM.delL, List.mem_filter]
  exact ⟨ML_mem (i := 6) (by decide), by decide⟩
theorem MD_lite {r : Int} {t : Th} (h : (r, t) ∈ MD.things) : t = c0 := by
  simp only [MD, WM.delL, List.mem_filter] at h
  exact ML_lite h.1
theorem MD_find (r s : Int) : MD.find r s = none := by
  unfold WM.find
  rw [List.find?_eq_none.2 ?_]
  · rfl
  · rintro ⟨q, t⟩ hx
    have := MD_lite hx
    subst this
    simp
/-- A slice of zero values. -/
theorem make_vals (w : World) (n : Nat) (hn : n ≤ 1024) : ∃ w', (Instr.makeSlice 33 (.int .i64 (n : Int)) (.int .i64 (n : Int))).run Try.prog w = .ok (.slice (some ⟨w.heap.size, 0, none⟩) n n) w' ∧ Below w.heap.size w w' ∧ SlAt w' (fun b => b = w.heap.size) (.slice (some ⟨w.heap.size, 0, none⟩) n n) (List.replicate n (⟨0, 0, ⟨#[]⟩, [], 0⟩ : Val)) := by
  obtain ⟨iv, hi, hz, h1, h2⟩ := info_parts infoVal
  obtain ⟨w', hr, hrow, hgr⟩ := run_make_full (P := Try.prog) w w.heap.size 33 35 iv (.agg zV) 5 Try.underlying33 hi hz h1 .i64 .i64 n (by rw [h2]; omega) (by unfold maxLen; omega) (Nat.le_refl _)
  refine ⟨w', hr, ⟨hgr.os, hgr.tape, hgr.output, hgr.size, fun k hk => hgr.block k hk (by simp)⟩, ?_⟩
  obtain ⟨-, ⟨h, -⟩ | ⟨g, cap, cur, hv, hbase, hb, h3, h4, h5, h6⟩⟩ := hrow
  · cases h
  cases hv
  have hcell : ∀ i k, i < n → k < 5 → w'.cell? ⟨w.heap.size, 0 + 5 * i + k, none⟩ = zV[k]? := fun i k hi hk => by
    rw [cell_blk hb]
    have hx : cur.toList[0 + 5 * i + k]? = (madeCells zV (n * 5)).toList[0 + 5 * i + k]? := by
      have h6' : List.take (n * 5) cur.toList = (madeCells zV (n * 5)).toList := h6
      rw [← h6', List.getElem?_take]
      show _ = if 0 + 5 * i + k < n * 5 then _ else _
      rw [if_pos (by omega)]
    rw [Array.getElem?_toList, Array.getElem?_toList] at hx
    rw [hx]
    have hs : zV.size = 5 := rfl
    have hm : (0 + 5 * i + k) % 5 = k := by omega
    simp only [madeCells, hs]
    rw [Array.getElem?_map, Array.getElem?_range, if_pos (by omega), Option.map_some, hm]
    match k, hk with
    | 0, _ => rfl
    | 1, _ => rfl
    | 2, _ => rfl
    | 3, _ => rfl
    | 4, _ => rfl
  have hl : (List.replicate n (⟨0, 0, ⟨#[]⟩, [], 0⟩ : Val)).length = n := List.length_replicate
  have key : SlAt w' (fun b => b = w.heap.size) (.slice (some ⟨w.heap.size, 0, none⟩) (List.replicate n (⟨0, 0, ⟨#[]⟩, [], 0⟩ : Val)).length n) (List.replicate n (⟨0, 0, ⟨#[]⟩, [], 0⟩ : Val)) := by
    refine .mk _ _ _ (fun _ => .slice none 0 0) (fun i v hv => ?_) (fun i v hv => ?_)
    · have hin : i < n := by
        have := (List.getElem?_eq_some_iff.1 hv).1
        rwa [hl] at this
      have ev : v = ⟨0, 0, ⟨#[]⟩, [], 0⟩ := List.eq_of_mem_replicate (List.mem_of_getElem? hv)
      subst ev
      exact ⟨w.heap.size, 0, rfl, rfl, hcell i 0 hin (by decide), hcell i 1 hin (by decide), hcell i 2 hin (by decide), hcell i 3 hin (by decide), hcell i 4 hin (by decide)⟩
    · have ev : v = ⟨0, 0, ⟨#[]⟩, [], 0⟩ := List.eq_of_mem_replicate (List.mem_of_getElem? hv)
      subst ev
      exact SlAt.nil _ _ _ _
  rwa [hl] at key
theorem rep_may (n : Nat) : ∀ x ∈ List.replicate n (⟨0, 0, ⟨#[]⟩, [], 0⟩ : Val), mayV x = true ∧ refsV x = [] := fun x hx => by
  have := List.eq_of_mem_replicate hx
  subst this
  exact ⟨(refsV0 0 0 (.inl ⟨rfl, rfl⟩)).2, (refsV0 0 0 (.inl ⟨rfl, rfl⟩)).1⟩
theorem rep_yes : ofE (List.replicate 511 (⟨0, 0, ⟨#[]⟩, [], 0⟩ : Val)) = 0 := by kernel_rfl
theorem rep_no : ofE (List.replicate 512 (⟨0, 0, ⟨#[]⟩, [], 0⟩ : Val)) = 4 := by kernel_rfl
end Go.Proofs.Ytcoiccbmcjdheaa
/- Facet. -/
namespace Go.Proofs.Ytcoiccbmcjdheaa
open Go.RowKit Go.ChangeMaps Go.MapKept
variable {w : World} {p : Nat} {M : WM} {F : Nat → Prop}

set_option maxHeartbeats 1000000 in
set_option maxRecDepth 8000 in
theorem Facet_what (hW : IsW w p M F) {r s v : Int} {t : Th} (hr : (Lit.int .i64 r).wf = true) (ht : M.at r = some t) (hv : AbleIs M 63 r v) (hs : s = v) :
    Calls Try.prog 8 #[.pointer (some ⟨p, 0, none⟩), .int .i64 r, .int .u8 s] w fun e w' => e = .returned (.tuple #[.int .i64 0, .int .i64 70]) ∧ Below w.heap.size w w' := by
  subst hs
  have HW : Hid (IsW w p M F) := hW
  have Hv : Hid (AbleIs M 63 r s) := hv
  have hIs : (M.at r).isSome = true := by rw [ht]; rfl
  clear hW hv
  go_enter Try.func8, Try.ntmps8
  go_wp2_with fail
  refine (none_W HW.out).mono ?_
  rintro e _ ⟨rfl, rfl⟩
  go_wp2_with fail
  refine (Is_W HW.out hr).mono ?_
  rw [hIs]
  rintro e _ ⟨rfl, rfl⟩
  go_wp2_with fail
  refine (Able_W HW.out hr Hv.out).mono ?_
  rintro e w1 ⟨rfl, hb1⟩
  have HB : Hid (Below w.heap.size w w1) := hb1
  clear hb1
  go_wp2_with fail
  refine (Kind_W (HW.out.below HB.out) hr).mono ?_
  rintro e _ ⟨rfl, rfl⟩
  go_wp2_with fail
  all_goals (go_ret2; exact ⟨rfl, HB.out⟩)

/-- A facet. -/
abbrev ft (r s : Int) : Th := lt 14 0 0 0 0 0 r 0 s false

set_option maxHeartbeats 1000000 in
set_option maxRecDepth 8000 in
theorem Facet_there (hW : IsW w p M F) {r s v q : Int} {t : Th} (hr : (Lit.int .i64 r).wf = true) (hsw : (Lit.int .u8 s).wf = true) (ht : M.at r = some t) (h14 : t.kind ≠ 14) (hv : AbleIs M 63 r v) (hs : s ≠ v)
    (hand : bits BinOp.andNot .u8 s v = 0) (hf : M.find r s = some q) :
    Calls Try.prog 8 #[.pointer (some ⟨p, 0, none⟩), .int .i64 r, .int .u8 s] w fun e w' => e = .returned (.tuple #[.int .i64 q, .int .i64 0]) ∧ Below w.heap.size w w' := by
  have HW : Hid (IsW w p M F) := hW
  have Hv : Hid (AbleIs M 63 r v) := hv
  have hIs : (M.at r).isSome = true := by rw [ht]; rfl
  have hK : (M.kindOf r == 14) = false := by simp [WM.kindOf, ht, h14]
  have hsv : (s == v) = false := by simpa using hs
  have Hf : Hid (M.find r s = some q) := hf
  clear hW hv hf ht
  go_enter Try.func8, Try.ntmps8
  go_wp2_with fail
  refine (none_W HW.out).mono ?_
  rintro e _ ⟨rfl, rfl⟩
  go_wp2_with fail
  refine (Is_W HW.out hr).mono ?_
  rw [hIs]
  rintro e _ ⟨rfl, rfl⟩
  go_wp2_with fail
  refine (Able_W HW.out hr Hv.out).mono ?_
  rintro e w1 ⟨rfl, hb1⟩
  have HB : Hid (Below w.heap.size w w1) := hb1
  clear hb1
  go_wp2_with fail
  refine (Kind_W (HW.out.below HB.out) hr).mono ?_
  rintro e _ ⟨rfl, rfl⟩
  go_wp2_with fail
  refine (Find_W (HW.out.below HB.out) hr hsw).mono ?_
  rw [Hf.out]
  rintro e _ ⟨rfl, rfl⟩
  go_wp2_with fail
  go_ret2
  exact ⟨rfl, HB.out⟩

set_option maxHeartbeats 1000000 in
set_option maxRecDepth 8000 in
theorem Facet_new (hW : IsW w p M F) {r s v : Int} {t : Th} (hr : (Lit.int .i64 r).wf = true) (hsw : (Lit.int .u8 s).wf = true) (ht : M.at r = some t) (h14 : t.kind ≠ 14) (hv : AbleIs M 63 r v) (hs : s ≠ v)
    (hand : bits BinOp.andNot .u8 s v = 0) (hf : M.find r s = none) (hs0 : 0 ≤ s ∧ s ≤ 255) (hl : M.last + 1 ≤ 1099511627776) :
    Calls Try.prog 8 #[.pointer (some ⟨p, 0, none⟩), .int .i64 r, .int .u8 s] w fun e w' => e = .returned (.tuple #[.int .i64 (M.last + 1), .int .i64 0]) ∧ ∃ F', IsW w' p (M.add (ft r s)) F' ∧ Grew F w F' w' := by
  have a : AddOk M (ft r s) := {
    wf := ⟨⟨by show (1 : Int) ≤ 14; decide, by show (14 : Int) ≤ 16; decide⟩, hr, rfl, hs0⟩
    last := hl
    home := fun h => absurd rfl h
    made := fun h => absurd rfl h
    wrap := fun _ => ⟨t, ht⟩
    gate := fun h => absurd (show (14 : Int) = 15 from h) (by decide)
    purse := fun h => absurd (show (14 : Int) = 9 from h) (by decide)
    facet := fun _ => hf }
  have HA : Hid (AddOk M (ft r s)) := a
  have HW : Hid (IsW w p M F) := hW
  have Hv : Hid (AbleIs M 63 r v) := hv
  have hIs : (M.at r).isSome = true := by rw [ht]; rfl
  have hK : (M.kindOf r == 14) = false := by simp [WM.kindOf, ht, h14]
  have hsv : (s == v) = false := by simpa using hs
  have Hf : Hid (M.find r s = none) := hf
  clear hW hv hf ht a hl
  go_enter Try.func8, Try.ntmps8
  go_wp2_with fail
  refine (none_W HW.out).mono ?_
  rintro e _ ⟨rfl, rfl⟩
  go_wp2_with fail
  refine (Is_W HW.out hr).mono ?_
  rw [hIs]
  rintro e _ ⟨rfl, rfl⟩
  go_wp2_with fail
  refine (Able_W HW.out hr Hv.out).mono ?_
  rintro e w1 ⟨rfl, hb1⟩
  have HB : Hid (Below w.heap.size w w1) := hb1
  clear hb1
  go_wp2_with fail
  refine (Kind_W (HW.out.below HB.out) hr).mono ?_
  rintro e _ ⟨rfl, rfl⟩
  go_wp2_with fail
  refine (Find_W (HW.out.below HB.out) hr hsw).mono ?_
  rw [Hf.out]
  rintro e _ ⟨rfl, rfl⟩
  go_wp2_with fail
  refine (lay_W (HW.out.below HB.out) HA.out (deep_lt _ NoB _ _ _ _ _ _ _ _ _ _) (fun _ h => h.elim)).mono ?_
  rintro e w5 ⟨rfl, hW5, hk5⟩
  have HF : Hid (∃ F', IsW w5 p (M.add (ft r s)) F' ∧ Grew F w F' w5) := ⟨_, hW5, Below.keeps HB.out hk5, by
    have := HB.out.size
    rintro b ((h | h) | h)
    · exact .inl h
    · exact h.elim
    · right; omega⟩
  clear hW5 hk5
  go_wp2_with fail
  go_ret2
  exact ⟨rfl, HF.out⟩
end Go.Proofs.Ytcoiccbmcjdheaa
/- Free, where no gate stands on the way. -/
namespace Go.Proofs.Ytcoiccbmcjdheaa
open Go.RowKit Go.ChangeMaps Go.MapKept
variable {w : World} {p : Nat} {M : WM} {F : Nat → Prop}

theorem cell_below' {w w' : World} (hb : Below w.heap.size w w') {a : Addr} {v : Value} (h : w.cell? a = some v) : w'.cell? a = some v := by
  have : a.block < w.heap.size := by
    unfold World.cell? at h
    cases ho : w.heap[a.block]? with
    | none => simp [ho] at h
    | some o => exact blk_lt ho
  exact (hb.cell this).trans h

theorem meas_step {n k : Nat} (h : k < n) (hw : wrap64 ((k : Int) + 1) = (k : Int) + 1) : n - (intOf (.int .i64 (wrap64 ((k : Int) + 1)))).toNat < n - (intOf (.int .i64 (k : Int))).toNat := by
  rw [hw]
  have e1 : (intOf (.int .i64 ((k : Int) + 1))).toNat = k + 1 := by simp only [intOf]; omega
  have e2 : (intOf (.int .i64 (k : Int))).toNat = k := by simp only [intOf]; omega
  rw [e1, e2]
  omega

def freeL (M : WM) : Int → List Int → Bool
  | _, [] => true
  | a, r :: l => match M.at r with
    | none => false
    | some t => if t.kind = 14 then freeL M a l else if M.openB a t.home = true then freeL M t.home l else false

def freeE (v : Bool) : Int := if v = true then 0 else 7

set_option maxHeartbeats 1000000 in
set_option maxRecDepth 8000 in
theorem Free_W (hW : IsW w p M F) {a r : Int} {l : List Int} (ha : sideB M a = true) (hr : (Lit.int .i64 r).wf = true) (hl : WayIs M r l) {t0 : Th} (ht0 : M.at r = some t0)
    (hall : ∀ x ∈ l, ∃ t, M.at x = some t ∧ t.kind ≠ 15) :
    Calls Try.prog 37 #[.pointer (some ⟨p, 0, none⟩), .int .i64 a, .int .i64 r] w fun e w' => e = .returned (.int .i64 (freeE (freeL M a l))) ∧ Below w.heap.size w w' := by
  have hn := Way_W hW hr hl
  have hlen : Hid ((l.length : Int) ≤ 1099511627777) := by
    obtain ⟨l', h1, h2⟩ := way_ex hW.ok r
    obtain rfl := hl.uniq h1
    have := hW.ok.last
    show _ ≤ _
    omega
  have HW : Hid (IsW w p M F) := hW
  have Hall := (show Hid _ from hall)
  have hIs : (M.at r).isSome = true := by rw [ht0]; rfl
  obtain ⟨v, hv⟩ : ∃ v, v = freeL M a l := ⟨_, rfl⟩
  have Hv : Hid (freeL M a l = v) := hv.symm
  rw [← hv]
  clear hW hall hv ht0 hl
  go_enter Try.func37, Try.ntmps37
  go_wp2_with fail
  refine (none_W HW.out).mono ?_
  rintro e _ ⟨rfl, rfl⟩
  go_wp2_with fail
  refine (side_W HW.out a).mono ?_
  rw [ha]
  rintro e _ ⟨rfl, rfl⟩
  go_wp2_with fail
  refine (Is_W HW.out hr).mono ?_
  rw [hIs]
  rintro e _ ⟨rfl, rfl⟩
  go_wp2_with fail
  refine hn.mono ?_
  rintro e w1 ⟨vl, rfl, hown, hb⟩
  have HB : Hid (Below w.heap.size w w1) := hb
  obtain ⟨pa, c, hvl, hcells⟩ : ∃ pa c, vl = .slice pa l.length c ∧ Hid (∀ (j : Nat) (x : Int), l[j]? = some x → ∃ g, pa = some ⟨g, 0, none⟩ ∧ w1.cell? ⟨g, j, none⟩ = some (.int .i64 x)) := by
    rcases hown.2 with ⟨rfl, h0⟩ | ⟨g, cap, cur, rfl, hbase, hg, h1, h2, h3, h4⟩
    · have : l = [] := by simpa using h0
      subst this
      exact ⟨none, 0, rfl, fun j x hx => by simp at hx⟩
    · refine ⟨_, _, rfl, fun j x hx => ⟨g, rfl, ?_⟩⟩
      rw [cell_blk hg]
      have hj := (List.getElem?_eq_some_iff.1 hx).1
      have e : (cur.toList.take (l.length * 1))[j]? = (l.map (Value.int .i64))[j]? := by rw [h4]
      rw [List.getElem?_take, if_pos (by omega), List.getElem?_map, hx] at e
      simpa using e
  subst hvl
  obtain ⟨n, hnl⟩ : ∃ n, n = l.length := ⟨_, rfl⟩
  have Hn : Hid (n = l.length) := hnl
  have Hnb : Hid ((n : Int) ≤ 1099511627777) := by show _ ≤ _; rw [hnl]; exact hlen.out
  rw [← hnl]
  clear hown hb hn hlen hnl
  go_wp2_with fail
  go_loopw [1, 27] (fun va vi wr => ∃ (x : Int) (k : Nat), va = .int .i64 x ∧ vi = .int .i64 k ∧ k ≤ n ∧ Hid (freeL M x (l.drop k) = v) ∧ Below w1.heap.size w1 wr) (fun _ vi _ => n - (intOf vi).toNat)
  case atStart => exact ⟨a, 0, rfl, rfl, Nat.zero_le _, Hv.out, Below.refl _ _⟩
  case round =>
    obtain ⟨x, k, rfl, rfl, hk, Hx, hb2⟩ := hrel
    have HB2 := (show Hid (Below w1.heap.size w1 wr) from hb2)
    have HWr : Hid (IsW wr p M F) := (HW.out.below HB.out).below hb2
    by_cases hkn : k < n
    · obtain ⟨y, hy⟩ : ∃ y, l[k]? = some y := ⟨_, List.getElem?_eq_getElem (by have := Hn.out; omega)⟩
      obtain ⟨g, rfl, hc0⟩ := hcells.out k y hy
      have hc := cell_below' hb2 hc0
      obtain ⟨t, ht, h15⟩ := Hall.out y (List.mem_of_getElem? hy)
      have hyr := HW.out.ok.at_range ht
      have hyl := HW.out.ok.last
      have hyw : (Lit.int .i64 y).wf = true := WalkArith.wf_i64 (by omega)
      have hdrop : l.drop k = y :: l.drop (k + 1) := by
        rw [List.drop_eq_getElem_cons (by have := Hn.out; omega)]
        congr 1
        have := List.getElem?_eq_getElem (l := l) (i := k) (by have := Hn.out; omega)
        rw [this] at hy
        exact Option.some.inj hy
      have hkz : (k : Int) < (n : Int) := by omega
      have hwk : wrap64 ((k : Int) + 1) = (k : Int) + 1 := by have := Hnb.out; unfold wrap64; omega
      have hk15 : (t.kind == 15) = false := by simpa using h15
      have HX : Hid ((if t.kind = 14 then freeL M x (l.drop (k + 1)) else if M.openB x t.home = true then freeL M t.home (l.drop (k + 1)) else false) = v) := by
        have := Hx.out
        rw [hdrop, freeL, ht] at this
        exact this
      obtain ⟨pa', pc, cg, cc, mg, mc, tb, fb, fn, bl, h⟩ := HWr.out
      have c2 := h.c2
      have hlk := h.look hyw
      rw [ht] at hlk
      simp only [Option.map_some] at hlk
      obtain ⟨k0, k1, -, -, k6, k7, k8, k9⟩ := thc_cell (h.blk y t ht).1
      clear hb2 hc0 hy hdrop hyr hyl h15 ht h
      by_cases h14 : t.kind = 14
      · have hk14 : (t.kind == 14) = true := by simpa using h14
        have HX2 : Hid (freeL M x (l.drop (k + 1)) = v) := by
          have := HX.out
          rw [if_pos h14] at this
          exact this
        clear HX h14
        go_wp2_with fail
        go_round
        case rel =>
          exact ⟨x, k + 1, rfl, by rw [hwk]; rfl, by omega, HX2.out, HB2.out⟩
        case measure => exact meas_step hkn hwk
      · have hk14 : (t.kind == 14) = false := by simpa using h14
        have hOp : ∀ m, Calls Try.prog 63 #[.pointer (some ⟨p, 0, none⟩), .int .i64 x, .int .i64 t.home] (wr.drewN m) fun e w' => e = .returned (.bool (M.openB x t.home)) ∧ w' = wr.drewN m := fun m =>
          (Open_W (HWr.out.below (w' := wr.drewN m) ⟨rfl, rfl, rfl, Nat.le_refl _, fun _ _ => rfl⟩) x t.home).mono (fun _ _ h => ⟨h.1, h.2.symm⟩)
        cases ho : M.openB x t.home with
        | true =>
          simp only [ho] at hOp
          have HX2 : Hid (freeL M t.home (l.drop (k + 1)) = v) := by
            have := HX.out
            rw [if_neg h14, if_pos ho] at this
            exact this
          clear HX h14 ho
          go_wp2_with fail
          go_quiet ((go_at_call 63; exact Calls.quiet_of_same (hOp _)))
          go_wp2_with fail
          go_round
          case rel => exact ⟨t.home, k + 1, rfl, by rw [hwk]; rfl, by omega, HX2.out, HB2.out.trans ⟨rfl, rfl, rfl, Nat.le_refl _, fun _ _ => rfl⟩⟩
          case measure => exact meas_step hkn hwk
        | false =>
          simp only [ho] at hOp
          have HX2 : Hid (v = false) := by
            have := HX.out
            rw [if_neg h14, ho] at this
            exact this.symm
          clear HX h14 ho
          go_wp2_with fail
          go_quiet ((go_at_call 63; exact Calls.quiet_of_same (hOp _)))
          go_wp2_with fail
          go_ret
          have hv := HX2.out
          subst hv
          exact ⟨rfl, HB.out.trans ((HB2.out.trans (⟨rfl, rfl, rfl, Nat.le_refl _, fun _ _ => rfl⟩ : Below w1.heap.size wr (wr.drewN nq))).mono HB.out.size)⟩
    · have hkz : ¬ (k : Int) < (n : Int) := by omega
      have hkn' : k = n := by omega
      have HX2 : Hid (v = true) := by
        have := Hx.out
        rw [hkn', Hn.out, List.drop_length] at this
        exact this.symm
      clear Hx
      go_wp2_with fail
      go_ret
      have hv := HX2.out
      subst hv
      exact ⟨rfl, HB.out.trans (HB2.out.mono HB.out.size)⟩
end Go.Proofs.Ytcoiccbmcjdheaa
/- lives of posternlaw07: it is true. -/
namespace Go.Proofs.Ytcoiccbmcjdheaa
open Go.RowKit Go.ChangeMaps Go.MapKept

def LM0 : WM := WM.new [0, 0, 1]
def LM1 : WM := LM0.add (lt 1 1 1 7 0 0 0 0 0 false)
def LM2 : WM := LM1.add (ft 1 1)
def LM3 : WM := LM2.cutE 1

theorem ltree : TreeOk [0, 0, 1] := ⟨by decide, fun i p h => by
  match i, h with
  | 0, h => simp at h; omega
  | 1, h => simp at h; omega
  | 2, h => simp at h; omega⟩
theorem lnotree : ¬ TreeOk [0, 2] := fun h => by
  have := (h.2 1 2 rfl).2
  omega
theorem ladd : AddOk LM0 (lt 1 1 1 7 0 0 0 0 0 false) where
  wf := ⟨by show (1 : Int) ≤ 1 ∧ (1 : Int) ≤ 16; decide, rfl, rfl, by show (0 : Int) ≤ 0 ∧ (0 : Int) ≤ 255; decide⟩
  last := by decide
  home := fun _ => by decide
  made := fun _ => by decide
  wrap := fun h => absurd h (by decide)
  gate := fun h => absurd h (by decide)
  purse := fun h => absurd h (by decide)
  facet := fun h => absurd h (by decide)
theorem lable1 : AbleIs LM1 63 1 3 := AbleIs.mk_base (t := lt 1 1 1 7 0 0 0 0 0 false) rfl (by decide) (by decide)
theorem lable2 : AbleIs LM2 63 1 3 := AbleIs.mk_base (t := lt 1 1 1 7 0 0 0 0 0 false) rfl (by decide) (by decide)
theorem lable3 : AbleIs LM3 63 2 1 := AbleIs.mk_facet (t := ft 1 1) rfl rfl (AbleIs.mk_base (t := lt 1 1 1 7 0 0 0 0 0 false) rfl (by decide) (by decide))
theorem lway : WayIs LM3 2 [2, 1] := WayIs.mk_wrap (t := ft 1 1) rfl rfl (WayIs.mk_base (t := lt 1 1 1 7 0 0 0 0 0 false) rfl rfl)
theorem lfree0 : freeL LM3 0 [2, 1] = false := by decide
theorem lfree3 : freeL LM3 3 [2, 1] = true := by decide
theorem lfind1 : LM1.find 1 1 = none := by decide
theorem lfind2 : LM2.find 1 1 = some 2 := by decide
theorem lall : ∀ x ∈ ([2, 1] : List Int), ∃ t, LM3.at x = some t ∧ t.kind ≠ 15 := by
  intro x hx
  simp only [List.mem_cons, List.not_mem_nil, or_false] at hx
  rcases hx with rfl | rfl
  · exact ⟨ft 1 1, rfl, by decide⟩
  · exact ⟨lt 1 1 1 7 0 0 0 0 0 false, rfl, by decide⟩

/-- A world of the call's own: all of it lies above what was there. -/
def Own (w0 w : World) (p : Nat) (M : WM) : Prop := ∃ F, IsW w p M F ∧ (∀ b, F b → w0.heap.size ≤ b) ∧ Below w0.heap.size w0 w
theorem Own.below {w0 w w' : World} {p : Nat} {M : WM} (h : Own w0 w p M) (hb : Below w.heap.size w w') : Own w0 w' p M := by
  obtain ⟨F, h1, h2, h3⟩ := h
  exact ⟨F, h1.below hb, h2, h3.trans (hb.mono h3.size)⟩
theorem Own.turn {w0 w w' : World} {p : Nat} {M' : WM} {F F' : Nat → Prop} (h2 : ∀ b, F b → w0.heap.size ≤ b) (h3 : Below w0.heap.size w0 w) (hW : IsW w' p M' F') (hg : Grew F w F' w') : Own w0 w' p M' := by
  refine ⟨F', hW, fun b hb => ?_, h3.trans (Keeps.below hg.1 h3.size h2)⟩
  rcases hg.2 b hb with h | h
  · exact h2 b h
  · exact Nat.le_trans h3.size h

set_option maxHeartbeats 2000000 in
set_option maxRecDepth 8000 in
theorem lives_W (w : World) : Calls Try.prog 11 #[] w fun e w' => e = .returned (.bool true) ∧ Below w.heap.size w w' := by
  go_enter Try.func11, Try.ntmps11
  go_wp2_with fail
  refine (New_W _ _ 3 [0, 0, 1] (.inr ⟨w.heap.size, 0, rfl, fun j x hx => ?_⟩)).mono ?_
  · rw [cell_blk (blk_new w _)]
    match j, hx with
    | 0, hx => simpa using hx
    | 1, hx => simpa using hx
    | 2, hx => simpa using hx
  rintro e w1 hpost
  obtain ⟨p, F, rfl, hW, hF, hb⟩ := (Or.resolve_right hpost (fun h => h.1 ltree)).2
  clear hpost
  have HO : Hid (Own w w1 p LM0) := ⟨F, hW, fun b h => by have := hF b h; simp at this; omega, ((Below.refl _ _).alloc (Nat.le_refl _) _).trans (hb.mono (by simp))⟩
  clear hW hF hb
  go_wp2_with fail
  refine (New_W _ _ 2 [0, 2] (.inr ⟨w1.heap.size, 0, rfl, fun j x hx => ?_⟩)).mono ?_
  · rw [cell_blk (blk_new w1 _)]
    match j, hx with
    | 0, hx => simpa using hx
    | 1, hx => simpa using hx
  rintro e w1' hpost
  obtain ⟨rfl, hw'⟩ := (Or.resolve_left hpost (fun h => lnotree h.1)).2
  have HO1 : Hid (Own w w1' p LM0) := by
    show Own _ _ _ _
    rw [hw']
    exact HO.out.below ((Below.refl _ _).alloc (Nat.le_refl _) _)
  clear HO hpost hw'
  go_wp2_with fail
  obtain ⟨F, hW, hF, hb⟩ := HO1.out
  refine (Make_no hW (k := 1) (h := 1) (vk := 1) (vn := 7) (n := 0) (l := 0) (tg := 0) (bi := 0) (s := 0) (fu := false) (.inr rfl) (.inl rfl) ladd (fun w hW => form_1 hW 1 1 7 (by decide) (.inr rfl)) (fun w _ => fits_1 w _ 0 1 1 7 0 0 0 0 0 false)).mono ?_
  rintro e w2 ⟨rfl, F2, hW2, hg2⟩
  have HO2 : Hid (Own w w2 p LM1) := Own.turn hF hb hW2 hg2
  clear hW hF hb hW2 hg2 HO1
  go_wp2_with fail
  obtain ⟨F, hW, hF, hb⟩ := HO2.out
  refine (Facet_new hW (r := 1) (s := 1) (v := 3) (t := lt 1 1 1 7 0 0 0 0 0 false) rfl rfl rfl (by decide) lable1 (by decide) (by decide) lfind1 (by decide) (by decide)).mono ?_
  rintro e w3 ⟨rfl, F3, hW3, hg3⟩
  have HO3 : Hid (Own w w3 p LM2) := Own.turn hF hb hW3 hg3
  clear hW hF hb hW3 hg3 HO2
  go_wp2_with fail
  obtain ⟨F, hW, hF, hb⟩ := HO3.out
  refine (Facet_there hW (r := 1) (s := 1) (v := 3) (t := lt 1 1 1 7 0 0 0 0 0 false) rfl rfl rfl (by decide) lable2 (by decide) (by decide) lfind2).mono ?_
  rintro e w4 ⟨rfl, hb4⟩
  have HO4 : Hid (Own w w4 p LM2) := HO3.out.below hb4
  clear hW hF hb hb4 HO3
  go_wp2_with fail
  obtain ⟨F, hW, hF, hb⟩ := HO4.out
  refine (Facet_what hW (r := 1) (s := 3) (v := 3) (t := lt 1 1 1 7 0 0 0 0 0 false) rfl rfl lable2 rfl).mono ?_
  rintro e w5 ⟨rfl, hb5⟩
  have HO5 : Hid (Own w w5 p LM2) := HO4.out.below hb5
  clear hW hF hb hb5 HO4
  go_wp2_with fail
  obtain ⟨F, hW, hF, hb⟩ := HO5.out
  refine (CutEdge_W hW 1 (by decide) (by decide)).mono ?_
  rintro e w6 ⟨rfl, hW6, hk6, -⟩
  have HO6 : Hid (Own w w6 p LM3) := ⟨F, hW6, hF, hb.trans (Keeps.below hk6 hb.size hF)⟩
  clear hW hF hb hW6 hk6 HO5
  go_wp2_with fail
  obtain ⟨F, hW, hF, hb⟩ := HO6.out
  refine (Able_W hW rfl lable3).mono ?_
  rintro e w7 ⟨rfl, hb7⟩
  have HO7 : Hid (Own w w7 p LM3) := HO6.out.below hb7
  clear hW hF hb hb7 HO6
  go_wp2_with fail
  obtain ⟨F, hW, hF, hb⟩ := HO7.out
  refine (Base_W hW rfl lway).mono ?_
  rintro e w8 ⟨rfl, hb8⟩
  have HO8 : Hid (Own w w8 p LM3) := HO7.out.below hb8
  clear hW hF hb hb8 HO7
  go_wp2_with fail
  obtain ⟨F, hW, hF, hb⟩ := HO8.out
  refine (Free_W hW (a := 0) (by decide) rfl lway (t0 := ft 1 1) rfl lall).mono ?_
  rw [lfree0]
  rintro e w9 ⟨rfl, hb9⟩
  have HO9 : Hid (Own w w9 p LM3) := HO8.out.below hb9
  clear hW hF hb hb9 HO8
  have hE0 : freeE false = 7 := rfl
  go_wp2_with fail
  obtain ⟨F, hW, hF, hb⟩ := HO9.out
  refine (Free_W hW (a := 3) (by decide) rfl lway (t0 := ft 1 1) rfl lall).mono ?_
  rw [lfree3]
  rintro e w10 ⟨rfl, hb10⟩
  have HO10 : Hid (Own w w10 p LM3) := HO9.out.below hb10
  clear hW hF hb hb10 HO9
  have hE1 : freeE true = 0 := rfl
  go_wp2_with fail
  obtain ⟨F, hW, hF, hb⟩ := HO10.out
  refine (Len_W hW).mono ?_
  rintro e _ ⟨rfl, rfl⟩
  have hL : LM3.things.length = 2 := rfl
  go_wp2_with fail
  refine (Made_W hW 1).mono ?_
  rintro e _ ⟨rfl, rfl⟩
  have hM : (if sideB LM3 1 = true then LM3.made.getD (1 : Int).toNat 0 else 0) = 1 := by decide
  rw [hM]
  go_wp2_with fail
  go_ret
  exact ⟨rfl, hb⟩
end Go.Proofs.Ytcoiccbmcjdheaa
/- WorldMany: the walk. -/
namespace Go.Proofs.Ytcoiccbmcjdheaa
open Go.RowKit Go.ChangeMaps Go.MapKept

abbrev z15 : List Int := [0, 0, 0, 0, 0, 0, 0, 0, 0, 0, 0, 0, 0, 0, 0]
theorem tree15 : TreeOk z15 := ⟨by decide, fun i p h => by
  have hi : i < 15 := (List.getElem?_eq_some_iff.1 h).1
  have hp : p ∈ z15 := List.mem_of_getElem? h
  have : p = 0 := by simpa using hp
  omega⟩
theorem tree16 : ¬ TreeOk (0 :: z15) := fun h => absurd h.1 (by decide)
theorem tree1 : TreeOk [0] := ⟨by decide, fun i p h => by
  match i, h with
  | 0, h => simp at h; omega⟩
theorem infoSideM : (Try.prog.info? 27).map (fun i => (i.zero, i.size, i.bytes)) = some (some (.int .i64 0), 1, 8) := by kernel_rfl
/-- A slice of zero sides. -/
theorem make_sides (w : World) (n : Nat) (hn : n ≤ 1024) : ∃ w', (Instr.makeSlice 26 (.int .i64 (n : Int)) (.int .i64 (n : Int))).run Try.prog w = .ok (.slice (some ⟨w.heap.size, 0, none⟩) n n) w' ∧ Below w.heap.size w w' ∧ SideArg w' (some ⟨w.heap.size, 0, none⟩) (List.replicate n 0) := by
  obtain ⟨iv, hi, hz, h1, h2⟩ := info_parts infoSideM
  obtain ⟨w', hr, hrow, hgr⟩ := run_make_full (P := Try.prog) w w.heap.size 26 27 iv (.int .i64 0) 1 Try.underlying26 hi hz h1 .i64 .i64 n (by rw [h2]; omega) (by unfold maxLen; omega) (Nat.le_refl _)
  refine ⟨w', hr, ⟨hgr.os, hgr.tape, hgr.output, hgr.size, fun k hk => hgr.block k hk (by simp)⟩, ?_⟩
  obtain ⟨-, ⟨h, -⟩ | ⟨g, cap, cur, hv, hbase, hb, h3, h4, h5, h6⟩⟩ := hrow
  · cases h
  cases hv
  refine .inr ⟨w.heap.size, 0, rfl, fun j x hx => ?_⟩
  have hj : j < n := by
    have := (List.getElem?_eq_some_iff.1 hx).1
    simpa using this
  have ex : x = 0 := List.eq_of_mem_replicate (List.mem_of_getElem? hx)
  subst ex
  have h6' : List.take (n * 1) cur.toList = List.replicate (n * 1) (Value.int .i64 0) := by
    rw [h6]
    exact toList_madeCells_one _ _
  rw [cell_blk hb]
  have hl : cur.toList[0 + j]? = (List.replicate (n * 1) (Value.int .i64 0))[0 + j]? := by
    rw [← h6', List.getElem?_take]
    show _ = if 0 + j < n * 1 then _ else _
    rw [if_pos (by omega)]
  rw [Array.getElem?_toList] at hl
  rw [hl, List.getElem?_replicate, if_pos (by omega)]
theorem measM {k : Nat} (h : k < 512) : 513 - (intOf (.int .i64 (((k : Int) + 1) + 1))).toNat < 513 - (intOf (.int .i64 ((k : Int) + 1))).toNat := by
  simp [intOf]
  omega
theorem MD_at7 {w : World} {p : Nat} {F : Nat → Prop} (hW : IsW w p MD F) : MD.at 7 = some c0 := by
  obtain ⟨_, _, _, _, _, _, _, _, _, _, hV⟩ := hW
  exact hV.ok.at_of_mem MD_mem
def ME : WM := MD.add (ft 7 1)
def MG (vals : Value) : WM := ME.add (logT 1 (List.replicate 511 ⟨0, 0, ⟨#[]⟩, [], 0⟩) vals)
theorem MG_len (vals : Value) : ((MG vals).things.length : Int) = 511 := by
  show (((MD.things ++ [_]) ++ [_]).length : Int) = 511
  rw [List.length_append, List.length_append, MD_len]
  rfl
set_option maxHeartbeats 4000000 in
set_option maxRecDepth 100000 in
theorem many07_W (w : World) : Calls Try.prog 3 #[] w fun e w' => e = .returned (.bool true) ∧ Below w.heap.size w w' := by
  obtain ⟨wa, hma, hba, hsa⟩ := make_sides w 15 (by omega)
  have HA := (show Hid _ from And.intro hba hsa)
  have hma : (Instr.makeSlice 26 (.int .i64 15) (.int .i64 15)).run Try.prog w = .ok (.slice (some ⟨w.heap.size, 0, none⟩) 15 15) wa := hma
  clear hba hsa
  go_enter Try.func3, Try.ntmps3
  go_wp2_with fail
  refine (New_W wa (some ⟨w.heap.size, 0, none⟩) 15 z15 HA.out.2).mono ?_
  rintro e w1 hpost
  obtain ⟨p1, F1, rfl, -, -, hb1⟩ := (Or.resolve_right hpost (fun h => h.1 tree15)).2
  have HB1 : Hid (Below w.heap.size w w1) := HA.out.1.trans (hb1.mono HA.out.1.size)
  clear hpost hb1 hma HA
  obtain ⟨wb, hmb, hbb, hsb⟩ := make_sides w1 16 (by omega)
  have HA := (show Hid _ from And.intro hbb hsb)
  have hmb : (Instr.makeSlice 26 (.int .i64 16) (.int .i64 16)).run Try.prog w1 = .ok (.slice (some ⟨w1.heap.size, 0, none⟩) 16 16) wb := hmb
  clear hbb hsb
  go_wp2_with fail
  refine (New_W wb (some ⟨w1.heap.size, 0, none⟩) 16 (0 :: z15) HA.out.2).mono ?_
  rintro e w2 hpost
  obtain ⟨rfl, rfl⟩ := (Or.resolve_left hpost (fun h => tree16 h.1)).2
  have HB2 : Hid (Below w.heap.size w w2) := HB1.out.trans (HA.out.1.mono HB1.out.size)
  clear hpost hmb HA HB1
  go_wp2_with fail
  refine (New_W _ _ 1 [0] (.inr ⟨w2.heap.size, 0, rfl, fun j x hx => ?_⟩)).mono ?_
  · rw [cell_blk (blk_new w2 _)]
    match j, hx with
    | 0, hx => simpa using hx
  rintro e w3 hpost
  obtain ⟨p, F, rfl, hW, hF, hb⟩ := (Or.resolve_right hpost (fun h => h.1 tree1)).2
  clear hpost
  have HO : Hid (Own w w3 p (ML 0)) := by
    have hb2 : Below w.heap.size w (w2.alloc (.cells #[.int .i64 0] 27)) := HB2.out.alloc HB2.out.size _
    exact ⟨F, hW, fun b h => Nat.le_trans hb2.size (hF b h), hb2.trans (hb.mono hb2.size)⟩
  clear hW hF hb HB2
  go_wp2_with fail
  go_loopw [7] (fun vi wr => ∃ k : Nat, vi = .int .i64 ((k : Int) + 1) ∧ k ≤ 512 ∧ Hid (Own w wr p (ML k))) (fun vi _ => 513 - (intOf vi).toNat)
  case atStart => exact ⟨0, rfl, Nat.zero_le _, HO.out⟩
  case round =>
    clear HO hma hmb
    obtain ⟨k, rfl, hk, HO⟩ := hrel
    by_cases hk5 : k < 512
    · have hkz : (k : Int) + 1 ≤ 512 := by omega
      have hwk : wrap64 ((k : Int) + 1 + 1) = (k : Int) + 1 + 1 := by unfold wrap64; omega
      go_wp2_with fail
      obtain ⟨F, hW, h2, h3⟩ := HO.out
      refine (Make_1 hW (by show (k : Int) + 1 ≤ 1099511627776; omega) (h := 0) (by show (0 : Int) ≤ 0 ∧ (0 : Int) < 2; decide) plain0).mono ?_
      rintro e w4 (⟨-, rfl, F', hW', hg⟩ | ⟨hx, -, -⟩)
      rotate_left
      · exact absurd (by show (k : Int) < 512; omega) hx
      have HO4 : Hid (Own w w4 p (ML (k + 1))) := by
        have h4 := Own.turn h2 h3 hW' hg
        have e : makeM (ML k) (lt 1 0 0 0 0 0 0 0 0 false) = ML (k + 1) := ML_add k
        rw [e] at h4
        exact h4
      clear hW h2 h3 hW' hg HO
      simp only [show (ML k).last + 1 = (k : Int) + 1 from rfl]
      go_wp2_with fail
      go_roundw
      case rel => exact ⟨k + 1, by go_num, by omega, HO4.out⟩
      case measure => exact measM hk5
    · obtain rfl : k = 512 := by omega
      clear hk hk5
      go_wp2_with fail
      obtain ⟨F, hW, h2, h3⟩ := HO.out
      refine (Make_2 hW (by show (512 : Int) + 1 ≤ 1099511627776; decide) (h := 0) (by show (0 : Int) ≤ 0 ∧ (0 : Int) < 2; decide)).mono ?_
      rintro e w4 (⟨hx, -, -⟩ | ⟨-, rfl, hb4⟩)
      · exact absurd (show (512 : Int) < 512 from hx) (by decide)
      have HO4 : Hid (Own w w4 p (ML 512)) := HO.out.below hb4
      clear hW h2 h3 hb4 HO
      go_wp2_with fail
      have HO5 : Hid (Own w (w4.alloc (.cells #[.int .i64 1, .int .i64 2, .int .i64 3] 28)) p (ML 512)) := HO4.out.below ((Below.refl _ _).alloc (Nat.le_refl _) _)
      obtain ⟨F, hW, h2, h3⟩ := HO5.out
      refine (Drop_W hW (pa := some ⟨w4.heap.size, 0, none⟩) (c := 3) (m := 3) (l := [1, 2, 3]) rfl (by decide) (.inr ⟨w4.heap.size, 0, rfl, by simp, fun j x hx => by
        rw [cell_blk (blk_new _ _)]
        match j, hx with
        | 0, hx => cases hx; rfl
        | 1, hx => cases hx; rfl
        | 2, hx => cases hx; rfl⟩) (fun x hx => by simp at hx; rcases hx with rfl | rfl | rfl <;> rfl) (fun r t h => (ML_light 512 r t h).2) (fun r t h => (ML_light 512 r t h).1)).mono ?_
      rintro e w6 (⟨-, -, r, hr, hno⟩ | ⟨-, ⟨-, -, hle⟩ | ⟨rfl, -, ds, -, -, hW', hk⟩⟩)
      · exfalso
        have hok : (ML 512).ok := by
          obtain ⟨_, _, _, _, _, _, _, _, _, _, hV⟩ := hW
          exact hV.ok
        have : ∃ i : Nat, i < 512 ∧ r = (i : Int) + 1 := by
          simp at hr
          rcases hr with rfl | rfl | rfl
          · exact ⟨0, by decide, rfl⟩
          · exact ⟨1, by decide, rfl⟩
          · exact ⟨2, by decide, rfl⟩
        obtain ⟨i, hi, rfl⟩ := this
        rw [hok.at_of_mem (ML_mem hi)] at hno
        cases hno
      · exact absurd hle (ML_lean 512)
      rw [ML_gone] at hW'
      have HO6 : Hid (Own w w6 p MD) := Own.turn h2 h3 hW' ⟨hk, fun b h => .inl h⟩
      clear hW h2 h3 hW' hk HO5 HO4
      go_wp2_with fail
      obtain ⟨F, hW, h2, h3⟩ := HO6.out
      refine (Make_2 hW (by show (512 : Int) + 1 ≤ 1099511627776; decide) (h := 0) (by show (0 : Int) ≤ 0 ∧ (0 : Int) < 2; decide)).mono ?_
      rintro e w7 (⟨hx, -, -⟩ | ⟨-, rfl, hb7⟩)
      · exact absurd (show (512 : Int) < 512 from hx) (by decide)
      have HO7 : Hid (Own w w7 p MD) := HO6.out.below hb7
      clear hW h2 h3 hb7 HO6
      go_wp2_with fail
      obtain ⟨F, hW, h2, h3⟩ := HO7.out
      refine (Facet_new hW (r := 7) (s := 1) (v := 3) (by decide) (by decide) (MD_at7 hW) (by decide) (AbleIs.mk_base (t := c0) (MD_at7 hW) (by decide) (by decide)) (by decide) (by decide) (MD_find _ _) (by decide) (by show (512 : Int) + 1 ≤ 1099511627776; decide)).mono ?_
      rintro e w8 ⟨rfl, F', hW', hg⟩
      have HO8 : Hid (Own w w8 p ME) := Own.turn h2 h3 hW' hg
      clear hW h2 h3 hW' hg HO7
      simp only [show MD.last + 1 = 513 from rfl]
      obtain ⟨wc, hmc, hbc, hsc⟩ := make_vals w8 511 (by omega)
      have hmc : (Instr.makeSlice 33 (.int .i64 511) (.int .i64 511)).run Try.prog w8 = .ok (.slice (some ⟨w8.heap.size, 0, none⟩) 511 511) wc := hmc
      have HOc : Hid (Own w wc p ME) := HO8.out.below hbc
      have Hsc := (show Hid _ from hsc)
      clear hbc hsc
      go_wp2_with fail
      obtain ⟨F, hW, h2, h3⟩ := HOc.out
      refine (Make_V2 hW (by show (513 : Int) + 1 ≤ 1099511627776; decide) (h := 1) (by show (0 : Int) ≤ 1 ∧ (1 : Int) < 2; decide) (List.replicate 511 ⟨0, 0, ⟨#[]⟩, [], 0⟩) (.slice (some ⟨w8.heap.size, 0, none⟩) 511 511) Hsc.out (by rw [List.length_replicate]; omega) (rep_may 511) rep_yes).mono ?_
      rintro e w9 (⟨-, rfl, t, F', ⟨vals', rfl⟩, hW', hg⟩ | ⟨hx, -, -⟩)
      rotate_left
      · exact absurd (show (0 : Int) < 512 by decide) hx
      have HO9 : Hid (Own w w9 p (MG vals')) := Own.turn h2 h3 hW' hg
      clear hW h2 h3 hW' hg HOc HO8 hmc Hsc
      simp only [show ME.last + 1 = 514 from rfl]
      obtain ⟨wd, hmd, hbd, hsd⟩ := make_vals w9 512 (by omega)
      have hmd : (Instr.makeSlice 33 (.int .i64 512) (.int .i64 512)).run Try.prog w9 = .ok (.slice (some ⟨w9.heap.size, 0, none⟩) 512 512) wd := hmd
      have HOd : Hid (Own w wd p (MG vals')) := HO9.out.below hbd
      have Hsd := (show Hid _ from hsd)
      clear hbd hsd
      go_wp2_with fail
      obtain ⟨F, hW, h2, h3⟩ := HOd.out
      refine (Make_NF hW (h := 1) (pa := some ⟨w9.heap.size, 0, none⟩) (n := 512) (c := 512) (fun w' hb => formN_2 (hW.below hb) (sideB_iff.2 (by show (0 : Int) ≤ 1 ∧ (1 : Int) < 2; decide)) vYes0 (ofNo (Hsd.out.on hb) (by rw [List.length_replicate]; omega) (by rw [rep_no]; decide)))).mono ?_
      rintro e w10 ⟨rfl, hb10⟩
      have HOe : Hid (Own w w10 p (MG vals')) := HOd.out.below hb10
      clear hW h2 h3 hb10 HOd HO9 hmd Hsd
      go_wp2_with fail
      obtain ⟨F, hW, h2, h3⟩ := HOe.out
      have HW := (show Hid (IsW w10 p (MG vals') F) from hW)
      have HB : Hid (Below w.heap.size w w10) := h3
      clear hW h2 h3 HOe
      refine (Made_W HW.out 0).mono ?_
      rw [show (if sideB (MG vals') 0 = true then (MG vals').made.getD (0 : Int).toNat 0 else 0) = 512 from rfl]
      rintro e _ ⟨rfl, rfl⟩
      go_wp2_with fail
      refine (Len_W HW.out).mono ?_
      rw [MG_len]
      rintro e _ ⟨rfl, rfl⟩
      go_wp2_with fail
      refine (lives_W _).mono ?_
      rintro e w11 ⟨rfl, hb11⟩
      have HB11 : Hid (Below w.heap.size w w11) := HB.out.trans (hb11.mono HB.out.size)
      clear hb11 HB HW
      go_wp2_with fail
      go_ret
      exact ⟨rfl, HB11.out⟩
end Go.Proofs.Ytcoiccbmcjdheaa
