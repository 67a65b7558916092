/- A part of the proof, several texts in one: WaY. -/
import Derived.Test.YtifmifjbebpomaaGreatDoormAU
/- WallNone: the walk. -/
namespace Go.Proofs.YtifmifjbebpomaaGreatDoor
open Go.RowKit Go.Shelf Go.ChangeMaps Go.MapKept
attribute [local go_sem] Oper.semAt_some wn_binOp

set_option maxHeartbeats 4000000 in
set_option maxRecDepth 100000 in
theorem wallnone_W (w : World) (hT : Tab64 w) (a b t n by_ : Int) (v1 v2 v3 v4 v5 : Value) (hG : ∀ W, Below w.heap.size w W → Calls Tryz.prog 6 #[.agg #[v1, v2, v3, v4, v5]] W fun e w' => (∃ b, e = .returned (.bool b)) ∧ Below W.heap.size W w') :
    Calls Tryz.prog 4 #[.int .i64 a, .int .i64 b, .int .i64 t, .int .i64 n, .int .u8 by_, .agg #[v1, v2, v3, v4, v5]] w fun e w' => e = .returned (.bool true) ∧ Below w.heap.size w w' := by
  have HT := (show Hid (Tab64 w) from hT)
  have HG := (show Hid (∀ W, Below w.heap.size w W → Calls Tryz.prog 6 #[.agg #[v1, v2, v3, v4, v5]] W fun e w' => (∃ b, e = .returned (.bool b)) ∧ Below W.heap.size W w') from hG)
  clear hT hG
  refine (callsIn_wide (n := 5)).1 ?_
  refine callsIn_of_wp_marks Tryz.func4 rfl trivial ?_ rfl
  simp only [Tryz.ntmps4, List.size_toArray, List.length_cons, List.length_nil, Nat.reduceAdd, Nat.reduceSub, Array.replicate_succ, Array.replicate_zero, List.push_toArray, List.append_toArray, List.nil_append, List.cons_append]
  gi_wp2_with fail
  have hb0 : Below w.heap.size w ((w.alloc (.cells #[v1, v2, v3, v4, v5] 29)).alloc (.cells #[.bool false] 4)) := ((Below.refl _ w).alloc (Nat.le_refl _) _).alloc (by simp) _
  have ha := blk_old _ (.cells #[.bool false] 4) (blk_new w (.cells #[v1, v2, v3, v4, v5] 29))
  have hr := blkNew (w.alloc (.cells #[v1, v2, v3, v4, v5] 29)) (.cells #[.bool false] 4) (g := w.heap.size + 1) (by simp)
  refine ⟨trivial, (callsIn_wide.2 (awake_W _ (HT.out.below hb0))).mono ?_⟩
  rintro e w1 ⟨rfl, hb1⟩
  have HB1 : Hid (Below w.heap.size w w1) := hb0.trans (hb1.mono hb0.size)
  have HA1 := (show Hid _ from below_blk hb1 ha)
  have HR1 := (show Hid _ from below_blk hb1 hr)
  obtain ⟨x0, x1, x2, x3, x4⟩ := nvF5 HA1.out
  clear hb0 ha hr hb1
  gi_wp2_with fail
  refine ⟨trivial, (callsIn_wide.2 (HG.out _ HB1.out)).mono ?_⟩
  rintro e w2 ⟨⟨b2, rfl⟩, hb2⟩
  have HB2 : Hid (Below w.heap.size w w2) := HB1.out.trans (hb2.mono HB1.out.size)
  have HA2 := (show Hid _ from below_blk hb2 HA1.out)
  have HR2 := (show Hid _ from below_blk hb2 HR1.out)
  clear hb2 HB1 HA1 HR1 x0 x1 x2 x3 x4 HG
  cases b2 with
  | true =>
    gi_wp2_with fail
    refine ⟨trivial, (callsIn_wide.2 (awake_W _ (HT.out.below HB2.out))).mono ?_⟩
    rintro e w3 ⟨rfl, hb3⟩
    have HB3 : Hid (Below w.heap.size w w3) := HB2.out.trans (hb3.mono HB2.out.size)
    have hr := below_blk hb3 HR2.out
    have HR3 := (show Hid _ from hr)
    have c2 : w3.cell? ⟨w.heap.size + 1, 0, none⟩ = some (.bool false) := by rw [cell_blk hr]; rfl
    have f2 : w3.frozen? ⟨w.heap.size + 1, 0, none⟩ = false := frozen_blk hr 0
    clear hb3 hr HB2 HA2 HR2
    gi_wp2_with fail
    exact wn_end0 HB3.out HR3.out _ rfl
  | false =>
    gi_wp2_with fail
    have HN : Hid (WnS w #[v1, v2, v3, v4, v5] w2.heap.size [] ((w2.alloc (.cells #[.slice none 0 0, .slice none 0 0, .map none, .map none, .int .i64 0, .slice none 0 0] 38)).alloc (.cells #[.pointer none, .pointer (some ⟨w2.heap.size, 0, none⟩)] 39))) := by
      have hb : Below w2.heap.size w2 ((w2.alloc (.cells #[.slice none 0 0, .slice none 0 0, .map none, .map none, .int .i64 0, .slice none 0 0] 38)).alloc (.cells #[.pointer none, .pointer (some ⟨w2.heap.size, 0, none⟩)] 39)) := ((Below.refl _ _).alloc (Nat.le_refl _) _).alloc (by simp) _
      exact ⟨HB2.out.trans (hb.mono HB2.out.size), below_blk hb HA2.out, below_blk hb HR2.out, blk_old _ _ (blk_new w2 _), blkNew _ _ (by simp), (fun d hd => by cases hd), List.nodup_nil⟩
    clear HB2 HA2 HR2
    revert HN
    generalize (w2.alloc _).alloc _ = w3
    generalize w2.heap.size = g
    intro HN
    refine wpIn_loop_rounds 3 ?_
    rw [roundsIn_succ]
    have hc : w3.cell? ⟨g + 1, 0, none⟩ = some (.pointer none) := by rw [cell_blk HN.out.arr]; rfl
    gi_wp2_with fail
    clear hc
    refine ⟨trivial, (callsIn_wide.2 (wPath_no (.inl rfl) a b)).mono ?_⟩
    rintro e _ ⟨rfl, rfl⟩
    gi_wp2_with fail
    refine ⟨trivial, (callsIn_wide.2 (wHops_no (.inl rfl) a t)).mono ?_⟩
    rintro e _ ⟨rfl, rfl⟩
    gi_wp2_with fail
    refine ⟨trivial, (callsIn_wide.2 (wStop_no (.inl rfl) a t)).mono ?_⟩
    rintro e w4 ⟨rfl, hb⟩
    replace HN : Hid (WnS w #[v1, v2, v3, v4, v5] g [] w4) := HN.out.on hb
    clear hb
    simp only [stopV]
    have hbh : Below w4.heap.size w4 (w4.alloc (.cells #[.int .i64 0, .int .i64 0, .bool false] 47)) := (Below.refl _ _).alloc (Nat.le_refl _) _
    have hh := blk_new w4 (.cells #[.int .i64 0, .int .i64 0, .bool false] 47)
    have HNh : Hid (WnS w #[v1, v2, v3, v4, v5] g [] (w4.alloc (.cells #[.int .i64 0, .int .i64 0, .bool false] 47))) := HN.out.on hbh
    have HH := (show Hid _ from hh)
    obtain ⟨x0, x1, x2, x3, x4⟩ := nvF5 HNh.out.arg
    clear hbh hh HN
    gi_wp2_with fail
    clear x0 x1 x2 x3 x4
    revert HNh HH
    generalize w4.alloc _ = w5
    generalize w4.heap.size = gh
    intro HN HH
    refine ⟨trivial, (callsIn_wide.2 (wWhy_no (.inl rfl) a t by_ v1 v2 v3 v4 v5)).mono ?_⟩
    rintro e w6 ⟨ge, rfl, hg, hb⟩
    replace HN : Hid (WnS w #[v1, v2, v3, v4, v5] g [] w6) := HN.out.on hb
    replace HH : Hid (w6.heap[gh]? = some (.cells #[.int .i64 0, .int .i64 0, .bool false] 47 (0, 0))) := below_blk hb HH.out
    have hby : Below w6.heap.size w6 (w6.alloc (.cells #[.int .i64 0, .int .i64 0, .bool false] 47)) := (Below.refl _ _).alloc (Nat.le_refl _) _
    have HY := (show Hid _ from blk_new w6 (.cells #[.int .i64 0, .int .i64 0, .bool false] 47))
    have HNy : Hid (WnS w #[v1, v2, v3, v4, v5] g [] (w6.alloc (.cells #[.int .i64 0, .int .i64 0, .bool false] 47))) := HN.out.on hby
    have HHy : Hid ((w6.alloc (.cells #[.int .i64 0, .int .i64 0, .bool false] 47)).heap[gh]? = some (.cells #[.int .i64 0, .int .i64 0, .bool false] 47 (0, 0))) := below_blk hby HH.out
    have HF : Hid (FaultAt (w6.alloc (.cells #[.int .i64 0, .int .i64 0, .bool false] 47)) ge 1) := hg.below hby
    clear hb hby hg HN HH
    gi_wp2_with fail
    revert HNy HHy HF HY
    generalize w6.alloc _ = w7
    generalize w6.heap.size = gy
    intro HY HN HH HF
    refine ⟨trivial, (callsIn_wide.2 (wHalves_no (.inl rfl) n)).mono ?_⟩
    rintro e _ ⟨rfl, rfl⟩
    gi_wp2_with fail
    have hbp : Below w7.heap.size w7 ((w7.alloc (.cells #[.int .i64 a] 23)).alloc (.cells #[.int .i64 b] 23)) := ((Below.refl _ _).alloc (Nat.le_refl _) _).alloc (by simp) _
    have HNp : Hid (WnS w #[v1, v2, v3, v4, v5] g [] ((w7.alloc (.cells #[.int .i64 a] 23)).alloc (.cells #[.int .i64 b] 23))) := HN.out.on hbp
    have HHp := (show Hid _ from below_blk hbp HH.out)
    have HFp : Hid (FaultAt ((w7.alloc (.cells #[.int .i64 a] 23)).alloc (.cells #[.int .i64 b] 23)) ge 1) := HF.out.below hbp
    have HYp := (show Hid _ from below_blk hbp HY.out)
    clear hbp HN HH HF HY
    refine ⟨trivial, (callsIn_wide.2 (wPart_no (.inl rfl) _ _)).mono ?_⟩
    rintro e _ ⟨rfl, rfl⟩
    revert HNp HHp HFp HYp
    generalize (w7.alloc _).alloc _ = w8
    intro HN HH HF HY
    have h0 : w8.cell? ⟨gh, 0, none⟩ = some (.int .i64 0) := by rw [cell_blk HH.out]; rfl
    have h1 : w8.cell? ⟨gh, 1, none⟩ = some (.int .i64 0) := by rw [cell_blk HH.out]; rfl
    have h2 : w8.cell? ⟨gh, 2, none⟩ = some (.bool false) := by rw [cell_blk HH.out]; rfl
    have y0 : w8.cell? ⟨gy, 0, none⟩ = some (.int .i64 0) := by rw [cell_blk HY.out]; rfl
    have y1 : w8.cell? ⟨gy, 1, none⟩ = some (.int .i64 0) := by rw [cell_blk HY.out]; rfl
    have y2 : w8.cell? ⟨gy, 2, none⟩ = some (.bool false) := by rw [cell_blk HY.out]; rfl
    gi_wp2_with fail
    clear h0 h1 h2 y0 y1 y2 HH HY
    refine ⟨trivial, (callsIn_wide.2 (is_fault HF.out)).mono ?_⟩
    rintro e w9 ⟨rfl, hb⟩
    replace HN : Hid (WnS w #[v1, v2, v3, v4, v5] g [] w9) := HN.out.on hb
    clear hb HF
    gi_wp2_with fail
    refine ⟨trivial, (callsIn_wide.2 (wIslands_no (.inl rfl))).mono ?_⟩
    rintro e _ ⟨rfl, rfl⟩
    gi_wp2_with fail
    have hbc : Below w9.heap.size w9 (w9.alloc (.cells #[.int .i64 n] 3)) := (Below.refl _ _).alloc (Nat.le_refl _) _
    have HNc : Hid (WnS w #[v1, v2, v3, v4, v5] g [] (w9.alloc (.cells #[.int .i64 n] 3))) := HN.out.on hbc
    clear hbc HN
    refine ⟨trivial, (callsIn_wide.2 (wCut_no (.inl rfl) _)).mono ?_⟩
    rintro e _ ⟨rfl, rfl⟩
    revert HNc
    generalize w9.alloc _ = w10
    intro HN
    gi_wp2_with fail
    refine ⟨trivial, (callsIn_wide.2 (wSees_any w10 none a)).mono ?_⟩
    rintro e _ ⟨rfl, rfl⟩
    have hbx : ((w10.alloc (.cells #[.pointer none] 31)).alloc (.cells #[.int .i64 a] 23)).cell? ⟨w10.heap.size, 0, none⟩ = some (.pointer none) := by rw [cell_blk (blk_old _ _ (blk_new w10 _))]; rfl
    have hb : Below w10.heap.size w10 ((w10.alloc (.cells #[.pointer none] 31)).alloc (.cells #[.int .i64 a] 23)) := ((Below.refl _ _).alloc (Nat.le_refl _) _).alloc (by simp) _
    have HNs : Hid (WnS w #[v1, v2, v3, v4, v5] g [] ((w10.alloc (.cells #[.pointer none] 31)).alloc (.cells #[.int .i64 a] 23))) := HN.out.on hb
    have HBX := (show Hid _ from hbx)
    clear hb hbx HN
    revert HNs HBX
    generalize (w10.alloc _).alloc _ = w11
    generalize w10.heap.size = gs
    intro HN HBX
    gi_wp2_with fail
    have hseq := sees1_no (n := 4) (Bf := gs + 1) (.inl rfl) HBX.out (fun _ _ => False)
    have HSQ := (show Hid _ from hseq)
    clear hseq
    refine wpIn_rangeFunc_ownF rfl (by decide) (gf := 43) (lb := #[.pointer (some ⟨gs, 0, none⟩), .pointer (some ⟨gs + 1, 0, none⟩)]) rfl trivial (enters_of Tryz.func43 (by kernel_rfl) rfl) HSQ.out (fun h k => h.trans k)
      (fun W l o o' hl ho hc _ => ⟨by simp, fun b cs e fr hb _ => (World.putObj_heap_other (fun h => by subst h; rw [hb] at ho; cases ho; cases hc)).trans hb, fun _ h => h.elim⟩) (Below.refl _ _) (fun x => x.elim)
      (fun (_ : List Empty) W => Below w11.heap.size w11 W) (fun _ _ _ => False)
      (fun s W W' row hs hg hr => by exact hs.grown hg hs.size (fun k e => (hr k e).1)) (fun _ _ _ _ _ hs _ _ => hs) (Below.refl _ _) (fun x => x.elim) ?assign ?body ?done ?stop
    case assign => intro l x; exact x.elim
    case body => intro l pre x; exact x.elim
    case stop =>
      rintro D c pre W _ _ h _
      exact h.elim
    case done =>
    rintro D0 ys w12 hD - hb hK
    replace HN : Hid (WnS w #[v1, v2, v3, v4, v5] g [D0] w12) := HN.out.marked hb hD hK
    clear hD hK HSQ HBX hb
    gi_wp2_with fail
    rw [roundsIn_succ]
    have hc : w12.cell? ⟨g + 1, 1, none⟩ = some (.pointer (some ⟨g, 0, none⟩)) := by rw [cell_blk HN.out.arr]; rfl
    gi_wp2_with fail
    clear hc
    refine ⟨trivial, (callsIn_wide.2 (wPath_no HN.out.no a b)).mono ?_⟩
    rintro e _ ⟨rfl, rfl⟩
    gi_wp2_with fail
    refine ⟨trivial, (callsIn_wide.2 (wHops_no HN.out.no a t)).mono ?_⟩
    rintro e _ ⟨rfl, rfl⟩
    gi_wp2_with fail
    refine ⟨trivial, (callsIn_wide.2 (wStop_no HN.out.no a t)).mono ?_⟩
    rintro e u4 ⟨rfl, hb⟩
    replace HN : Hid (WnS w #[v1, v2, v3, v4, v5] g [D0] u4) := HN.out.on hb
    clear hb
    simp only [stopV]
    have hbh : Below u4.heap.size u4 (u4.alloc (.cells #[.int .i64 0, .int .i64 0, .bool false] 47)) := (Below.refl _ _).alloc (Nat.le_refl _) _
    have hh := blk_new u4 (.cells #[.int .i64 0, .int .i64 0, .bool false] 47)
    have HNh : Hid (WnS w #[v1, v2, v3, v4, v5] g [D0] (u4.alloc (.cells #[.int .i64 0, .int .i64 0, .bool false] 47))) := HN.out.on hbh
    have HH := (show Hid _ from hh)
    obtain ⟨x0, x1, x2, x3, x4⟩ := nvF5 HNh.out.arg
    clear hbh hh HN
    gi_wp2_with fail
    clear x0 x1 x2 x3 x4
    revert HNh HH
    generalize u4.alloc _ = u5
    generalize u4.heap.size = gh
    intro HN HH
    refine ⟨trivial, (callsIn_wide.2 (wWhy_no HN.out.no a t by_ v1 v2 v3 v4 v5)).mono ?_⟩
    rintro e u6 ⟨ge, rfl, hg, hb⟩
    replace HN : Hid (WnS w #[v1, v2, v3, v4, v5] g [D0] u6) := HN.out.on hb
    replace HH : Hid (u6.heap[gh]? = some (.cells #[.int .i64 0, .int .i64 0, .bool false] 47 (0, 0))) := below_blk hb HH.out
    have hby : Below u6.heap.size u6 (u6.alloc (.cells #[.int .i64 0, .int .i64 0, .bool false] 47)) := (Below.refl _ _).alloc (Nat.le_refl _) _
    have HY := (show Hid _ from blk_new u6 (.cells #[.int .i64 0, .int .i64 0, .bool false] 47))
    have HNy : Hid (WnS w #[v1, v2, v3, v4, v5] g [D0] (u6.alloc (.cells #[.int .i64 0, .int .i64 0, .bool false] 47))) := HN.out.on hby
    have HHy : Hid ((u6.alloc (.cells #[.int .i64 0, .int .i64 0, .bool false] 47)).heap[gh]? = some (.cells #[.int .i64 0, .int .i64 0, .bool false] 47 (0, 0))) := below_blk hby HH.out
    have HF : Hid (FaultAt (u6.alloc (.cells #[.int .i64 0, .int .i64 0, .bool false] 47)) ge 1) := hg.below hby
    clear hb hby hg HN HH
    gi_wp2_with fail
    revert HNy HHy HF HY
    generalize u6.alloc _ = u7
    generalize u6.heap.size = gy
    intro HY HN HH HF
    refine ⟨trivial, (callsIn_wide.2 (wHalves_no HN.out.no n)).mono ?_⟩
    rintro e _ ⟨rfl, rfl⟩
    gi_wp2_with fail
    have hbp : Below u7.heap.size u7 ((u7.alloc (.cells #[.int .i64 a] 23)).alloc (.cells #[.int .i64 b] 23)) := ((Below.refl _ _).alloc (Nat.le_refl _) _).alloc (by simp) _
    have HNp : Hid (WnS w #[v1, v2, v3, v4, v5] g [D0] ((u7.alloc (.cells #[.int .i64 a] 23)).alloc (.cells #[.int .i64 b] 23))) := HN.out.on hbp
    have HHp := (show Hid _ from below_blk hbp HH.out)
    have HFp : Hid (FaultAt ((u7.alloc (.cells #[.int .i64 a] 23)).alloc (.cells #[.int .i64 b] 23)) ge 1) := HF.out.below hbp
    have HYp := (show Hid _ from below_blk hbp HY.out)
    clear hbp HN HH HF HY
    refine ⟨trivial, (callsIn_wide.2 (wPart_no HNp.out.no _ _)).mono ?_⟩
    rintro e _ ⟨rfl, rfl⟩
    revert HNp HHp HFp HYp
    generalize (u7.alloc _).alloc _ = u8
    intro HN HH HF HY
    have h0 : u8.cell? ⟨gh, 0, none⟩ = some (.int .i64 0) := by rw [cell_blk HH.out]; rfl
    have h1 : u8.cell? ⟨gh, 1, none⟩ = some (.int .i64 0) := by rw [cell_blk HH.out]; rfl
    have h2 : u8.cell? ⟨gh, 2, none⟩ = some (.bool false) := by rw [cell_blk HH.out]; rfl
    have y0 : u8.cell? ⟨gy, 0, none⟩ = some (.int .i64 0) := by rw [cell_blk HY.out]; rfl
    have y1 : u8.cell? ⟨gy, 1, none⟩ = some (.int .i64 0) := by rw [cell_blk HY.out]; rfl
    have y2 : u8.cell? ⟨gy, 2, none⟩ = some (.bool false) := by rw [cell_blk HY.out]; rfl
    gi_wp2_with fail
    clear h0 h1 h2 y0 y1 y2 HH HY
    refine ⟨trivial, (callsIn_wide.2 (is_fault HF.out)).mono ?_⟩
    rintro e u9 ⟨rfl, hb⟩
    replace HN : Hid (WnS w #[v1, v2, v3, v4, v5] g [D0] u9) := HN.out.on hb
    clear hb HF
    gi_wp2_with fail
    refine ⟨trivial, (callsIn_wide.2 (wIslands_no HN.out.no)).mono ?_⟩
    rintro e _ ⟨rfl, rfl⟩
    gi_wp2_with fail
    have hbc : Below u9.heap.size u9 (u9.alloc (.cells #[.int .i64 n] 3)) := (Below.refl _ _).alloc (Nat.le_refl _) _
    have HNc : Hid (WnS w #[v1, v2, v3, v4, v5] g [D0] (u9.alloc (.cells #[.int .i64 n] 3))) := HN.out.on hbc
    clear hbc HN
    refine ⟨trivial, (callsIn_wide.2 (wCut_no HNc.out.no _)).mono ?_⟩
    rintro e _ ⟨rfl, rfl⟩
    revert HNc
    generalize u9.alloc _ = u10
    intro HN
    gi_wp2_with fail
    refine ⟨trivial, (callsIn_wide.2 (wSees_any u10 (some ⟨g, 0, none⟩) a)).mono ?_⟩
    rintro e _ ⟨rfl, rfl⟩
    have hbx : ((u10.alloc (.cells #[.pointer (some ⟨g, 0, none⟩)] 31)).alloc (.cells #[.int .i64 a] 23)).cell? ⟨u10.heap.size, 0, none⟩ = some (.pointer (some ⟨g, 0, none⟩)) := by rw [cell_blk (blk_old _ _ (blk_new u10 _))]; rfl
    have hb : Below u10.heap.size u10 ((u10.alloc (.cells #[.pointer (some ⟨g, 0, none⟩)] 31)).alloc (.cells #[.int .i64 a] 23)) := ((Below.refl _ _).alloc (Nat.le_refl _) _).alloc (by simp) _
    have HNs : Hid (WnS w #[v1, v2, v3, v4, v5] g [D0] ((u10.alloc (.cells #[.pointer (some ⟨g, 0, none⟩)] 31)).alloc (.cells #[.int .i64 a] 23))) := HN.out.on hb
    have HBX := (show Hid _ from hbx)
    clear hb hbx HN
    revert HNs HBX
    generalize (u10.alloc _).alloc _ = u11
    generalize u10.heap.size = gs
    intro HN HBX
    gi_wp2_with fail
    have hseq := sees1_no (n := 4) (Bf := gs + 1) HN.out.no HBX.out (fun _ _ => False)
    have HSQ := (show Hid _ from hseq)
    clear hseq
    refine wpIn_rangeFunc_ownF rfl (by decide) (gf := 43) (lb := #[.pointer (some ⟨gs, 0, none⟩), .pointer (some ⟨gs + 1, 0, none⟩)]) rfl trivial (enters_of Tryz.func43 (by kernel_rfl) rfl) HSQ.out (fun h k => h.trans k)
      (fun W l o o' hl ho hc _ => ⟨by simp, fun b cs e fr hb _ => (World.putObj_heap_other (fun h => by subst h; rw [hb] at ho; cases ho; cases hc)).trans hb, fun _ h => h.elim⟩) (Below.refl _ _) (fun x => x.elim)
      (fun (_ : List Empty) W => Below u11.heap.size u11 W) (fun _ _ _ => False)
      (fun s W W' row hs hg hr => by exact hs.grown hg hs.size (fun k e => (hr k e).1)) (fun _ _ _ _ _ hs _ _ => hs) (Below.refl _ _) (fun x => x.elim) ?assign ?body ?done ?stop
    case assign => intro l x; exact x.elim
    case body => intro l pre x; exact x.elim
    case stop =>
      rintro D c pre W _ _ h _
      exact h.elim
    case done =>
    rintro D1 ys u12 hD - hb hK
    replace HN : Hid (WnS w #[v1, v2, v3, v4, v5] g [D1, D0] u12) := HN.out.marked hb hD hK
    clear hD hK HSQ HBX hb
    gi_wp2_with fail
    rw [roundsIn_succ]
    gi_wp2_with fail
    refine ⟨trivial, (callsIn_wide.2 (awake_W _ (HT.out.below HN.out.below))).mono ?_⟩
    rintro e w25 ⟨rfl, hb⟩
    replace HN : Hid (WnS w #[v1, v2, v3, v4, v5] g [D1, D0] w25) := HN.out.on hb
    clear hb
    have c2 : w25.cell? ⟨w.heap.size + 1, 0, none⟩ = some (.bool false) := by rw [cell_blk HN.out.res]; rfl
    have f2 : w25.frozen? ⟨w.heap.size + 1, 0, none⟩ = false := frozen_blk HN.out.res 0
    gi_wp2_with fail
    exact wn_end HN.out _ rfl
end Go.Proofs.YtifmifjbebpomaaGreatDoor
