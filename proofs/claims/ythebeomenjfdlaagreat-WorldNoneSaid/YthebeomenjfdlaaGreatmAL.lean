/- A part of the proof, several texts in one: WNone. -/
import Derived.Test.YthebeomenjfdlaaGreatmAK
/- WorldNone: the walk. -/
namespace Go.Proofs.YthebeomenjfdlaaGreat
open Go.RowKit Go.Shelf Go.ChangeMaps Go.MapKept
attribute [local go_sem] Oper.semAt_some binOp_nilFunc

set_option maxHeartbeats 4000000 in
set_option maxRecDepth 100000 in
theorem wnone_W (w : World) (cs : Array Value) (hcs : cs.size = 16) (r a b n st lv : Int) : Calls Tryz.prog 8 #[.agg cs, .agg #[.int .i64 r, .int .i64 a, .int .i64 b, .int .i64 n, .int .u8 st, .int .i64 lv]] w fun e w' => e = .returned (.bool true) ∧ Below w.heap.size w w' := by
  refine (callsIn_wide (n := 5)).1 ?_
  refine callsIn_of_wp_marks Tryz.func8 rfl trivial ?_ rfl
  simp only [Tryz.ntmps8, List.size_toArray, List.length_cons, List.length_nil, Nat.reduceAdd, Nat.reduceSub, Array.replicate_succ, Array.replicate_zero, List.push_toArray, List.append_toArray, List.nil_append, List.cons_append]
  gi_wp2_with fail
  refine ⟨trivial, (callsIn_wide.2 (lives_W _)).mono ?_⟩
  rintro e w1 ⟨rfl, hb1⟩
  have ha : ((((w.alloc (.cells cs 42)).alloc (.cells #[.int .i64 r, .int .i64 a, .int .i64 b, .int .i64 n, .int .u8 st, .int .i64 lv] 66))).alloc (.cells #[.bool false] 4)).heap[w.heap.size]? = some (.cells cs 42 (0, 0)) := blk_old _ _ (blk2_old _ _ _)
  have hq : ((((w.alloc (.cells cs 42)).alloc (.cells #[.int .i64 r, .int .i64 a, .int .i64 b, .int .i64 n, .int .u8 st, .int .i64 lv] 66))).alloc (.cells #[.bool false] 4)).heap[w.heap.size + 1]? = some (.cells #[.int .i64 r, .int .i64 a, .int .i64 b, .int .i64 n, .int .u8 st, .int .i64 lv] 66 (0, 0)) := blk_old _ _ (blk2_new _ _ _)
  have hr : ((((w.alloc (.cells cs 42)).alloc (.cells #[.int .i64 r, .int .i64 a, .int .i64 b, .int .i64 n, .int .u8 st, .int .i64 lv] 66))).alloc (.cells #[.bool false] 4)).heap[w.heap.size + 2]? = some (.cells #[.bool false] 4 (0, 0)) := by
    have := blk_new (((w.alloc (.cells cs 42)).alloc (.cells #[.int .i64 r, .int .i64 a, .int .i64 b, .int .i64 n, .int .u8 st, .int .i64 lv] 66))) (.cells #[.bool false] 4)
    simpa using this
  have HB1 : Hid (Below w.heap.size w w1) := ((((Below.refl _ w).alloc (Nat.le_refl _) _).alloc (by simp) _).alloc (by simp; omega) _).trans (hb1.mono (by simp; omega))
  have Ha := (show Hid _ from below_blk hb1 ha)
  have hq1 := below_blk hb1 hq
  have Hr := (show Hid _ from below_blk hb1 hr)
  have q0 : w1.cell? ⟨w.heap.size + 1, 0, none⟩ = some (.int .i64 r) := by rw [cell_blk hq1]; rfl
  have q1 : w1.cell? ⟨w.heap.size + 1, 1, none⟩ = some (.int .i64 a) := by rw [cell_blk hq1]; rfl
  have q3 : w1.cell? ⟨w.heap.size + 1, 3, none⟩ = some (.int .i64 n) := by rw [cell_blk hq1]; rfl
  have Hsz : Hid (w.heap.size + 3 ≤ w1.heap.size) := by
    have := hb1.size
    show _ ≤ _
    simpa using this
  clear ha hq hr hb1 hq1
  gi_wp2_with fail
  gi_quiet (fail)
  gi_wp2_with fail
  have HN : Hid (WN w cs w1.heap.size [] (((w1.drewN nq).alloc (.cells #[.slice none 0 0, .slice none 0 0, .map none, .map none, .int .i64 0, .slice none 0 0] 73)).alloc (.cells #[.pointer none, .pointer (some ⟨w1.heap.size, 0, none⟩)] 74))) := by
    have hb : Below w1.heap.size w1 (((w1.drewN nq).alloc (.cells #[.slice none 0 0, .slice none 0 0, .map none, .map none, .int .i64 0, .slice none 0 0] 73)).alloc (.cells #[.pointer none, .pointer (some ⟨w1.heap.size, 0, none⟩)] 74)) := ((below_drewN nq).alloc (Nat.le_refl _) _).alloc (by simp) _
    exact ⟨HB1.out.trans (hb.mono HB1.out.size), below_blk hb Ha.out, below_blk hb Hr.out, blk2_old (w1.drewN nq) _ _, blk2_new (w1.drewN nq) _ _, (fun d hd => by cases hd), List.nodup_nil⟩
  have Hg : Hid (w.heap.size + 3 ≤ w1.heap.size) := Hsz.out
  clear q0 q1 q3 HB1 Ha Hr Hsz
  revert HN Hg
  generalize ((w1.drewN nq).alloc _).alloc _ = w2
  generalize w1.heap.size = g
  intro HN Hg
  refine wpIn_loop_rounds 3 ?_
  -- rounds
  rw [roundsIn_succ]
  have hc : w2.cell? ⟨g + 1, 0, none⟩ = some (.pointer none) := by rw [cell_blk HN.out.arr]; rfl
  have hl : (ldW (.pointer (some ⟨w.heap.size, 0, none⟩))).run Tryz.prog w2 = .ok (.value (.agg cs)) w2 := loadWhat_blk HN.out.arg hcs
  gi_wp2_with fail
  refine ⟨trivial, (callsIn_wide.2 (wMake_no (.inl rfl) cs)).mono ?_⟩
  rintro e w3 ⟨rfl, hb⟩
  replace HN : Hid (WN w cs g [] w3) := HN.out.on hb
  clear hb
  clear hc hl
  gi_wp2_with fail
  refine ⟨trivial, (callsIn_wide.2 (wFacet_no (.inl rfl) r 1)).mono ?_⟩
  rintro e _ ⟨rfl, rfl⟩
  gi_wp2_with fail
  refine ⟨trivial, (callsIn_wide.2 (wFind_no (.inl rfl) r 1)).mono ?_⟩
  rintro e _ ⟨rfl, rfl⟩
  gi_wp2_with fail
  refine ⟨trivial, (callsIn_wide.2 (What_no (.inl rfl) r)).mono ?_⟩
  rintro e w4 ⟨rfl, hb⟩
  replace HN : Hid (WN w cs g [] w4) := HN.out.on hb
  clear hb
  obtain ⟨w5, hst, hb, hz, -⟩ := boxed_what' w4 #[.int .u8 0, .int .i64 0, .int .u8 0, .int .i64 0, .string ⟨#[]⟩, .slice none 0 0, .int .i64 0, .slice none 0 0, .int .i64 0, .int .i64 0, .int .i64 0, .int .i64 0, .int .u8 0, .bool false, .slice none 0 0, .slice none 0 0] rfl (by simp [go_sem])
  have HZ := (show Hid (w5.heap[w4.heap.size]? = some (.cells #[.int .u8 0, .int .i64 0, .int .u8 0, .int .i64 0, .string ⟨#[]⟩, .slice none 0 0, .int .i64 0, .slice none 0 0, .int .i64 0, .int .i64 0, .int .i64 0, .int .i64 0, .int .u8 0, .bool false, .slice none 0 0, .slice none 0 0] 42 (0, 0))) from hz)
  clear hz
  replace HN : Hid (WN w cs g [] w5) := HN.out.on hb
  clear hb
  gi_wp2_with fail
  refine ⟨trivial, (callsIn_wide.2 (wParent_no (.inl rfl) a)).mono ?_⟩
  rintro e _ ⟨rfl, rfl⟩
  clear hst
  gi_wp2_with fail
  refine ⟨trivial, (callsIn_wide.2 (wHome_no (.inl rfl) r)).mono ?_⟩
  rintro e _ ⟨rfl, rfl⟩
  gi_wp2_with fail
  refine ⟨trivial, (callsIn_wide.2 (Things_any w5 none)).mono ?_⟩
  rintro e _ ⟨rfl, rfl⟩
  have hbx : (w5.alloc (.cells #[.pointer none] 23)).cell? ⟨w5.heap.size, 0, none⟩ = some (.pointer none) := by rw [cell_blk (World.alloc_heap_new w5 _)]; rfl
  have hb : Below w5.heap.size w5 (w5.alloc (.cells #[.pointer none] 23)) := (Below.refl _ _).alloc (Nat.le_refl _) _
  obtain ⟨w6, hw⟩ : ∃ x, x = w5.alloc (.cells #[.pointer none] 23) := ⟨_, rfl⟩
  rw [← hw] at hb hbx ⊢
  clear hw
  replace HN : Hid (WN w cs g [] w6) := HN.out.on hb
  replace HZ := (show Hid (w6.heap[w4.heap.size]? = some (.cells #[.int .u8 0, .int .i64 0, .int .u8 0, .int .i64 0, .string ⟨#[]⟩, .slice none 0 0, .int .i64 0, .slice none 0 0, .int .i64 0, .int .i64 0, .int .i64 0, .int .i64 0, .int .u8 0, .bool false, .slice none 0 0, .slice none 0 0] 42 (0, 0))) from below_blk hb HZ.out)
  clear hb
  have HBX := (show Hid (w6.cell? ⟨w5.heap.size, 0, none⟩ = some (.pointer none)) from hbx)
  clear hbx
  gi_wp2_with fail
  refine ⟨trivial, (callsIn_wide.2 (New_W _ none 0 [] (.inl rfl))).mono ?_⟩
  rintro e w7 hpost
  obtain ⟨p, F, rfl, hW, -, hb⟩ := (Or.resolve_right hpost (fun h => h.1 treeNil)).2
  have HW := (show Hid (IsW w7 p (WM.new []) F) from hW)
  clear hpost hW
  replace HN : Hid (WN w cs g [] w7) := HN.out.on hb
  replace HZ := (show Hid (w7.heap[w4.heap.size]? = some (.cells #[.int .u8 0, .int .i64 0, .int .u8 0, .int .i64 0, .string ⟨#[]⟩, .slice none 0 0, .int .i64 0, .slice none 0 0, .int .i64 0, .int .i64 0, .int .i64 0, .int .i64 0, .int .u8 0, .bool false, .slice none 0 0, .slice none 0 0] 42 (0, 0))) from below_blk hb HZ.out)
  replace HBX := (show Hid (w7.cell? ⟨w5.heap.size, 0, none⟩ = some (.pointer none)) from (hb.cell (p := ⟨w5.heap.size, 0, none⟩) (World.block_lt_of_cell? _ _ HBX.out)).trans HBX.out)
  clear hb
  have hl : (ldW (.pointer (some ⟨w4.heap.size, 0, none⟩))).run Tryz.prog w7 = .ok (.value (.agg #[.int .u8 0, .int .i64 0, .int .u8 0, .int .i64 0, .string ⟨#[]⟩, .slice none 0 0, .int .i64 0, .slice none 0 0, .int .i64 0, .int .i64 0, .int .i64 0, .int .i64 0, .int .u8 0, .bool false, .slice none 0 0, .slice none 0 0])) w7 := loadWhat_blk HZ.out rfl
  gi_wp2_with fail
  refine ⟨trivial, (callsIn_wide.2 (sameWhat07_zero _)).mono ?_⟩
  rintro e w8 ⟨rfl, hb⟩
  replace HN : Hid (WN w cs g [] w8) := HN.out.on hb
  replace HZ := (show Hid (w8.heap[w4.heap.size]? = some (.cells #[.int .u8 0, .int .i64 0, .int .u8 0, .int .i64 0, .string ⟨#[]⟩, .slice none 0 0, .int .i64 0, .slice none 0 0, .int .i64 0, .int .i64 0, .int .i64 0, .int .i64 0, .int .u8 0, .bool false, .slice none 0 0, .slice none 0 0] 42 (0, 0))) from below_blk hb HZ.out)
  replace HBX := (show Hid (w8.cell? ⟨w5.heap.size, 0, none⟩ = some (.pointer none)) from (hb.cell (p := ⟨w5.heap.size, 0, none⟩) (World.block_lt_of_cell? _ _ HBX.out)).trans HBX.out)
  replace HW := (show Hid (IsW w8 p (WM.new []) F) from HW.out.below hb)
  clear hb
  clear hl HZ
  gi_wp2_with fail
  have hseq := things1_no (n := 4) (.inl rfl) HBX.out (fun _ _ => False)
  have HSQ := (show Hid _ from hseq)
  clear hseq
  refine wpIn_rangeFunc_ownF rfl (by decide) (gf := 87) (lb := #[.pointer (some ⟨w5.heap.size, 0, none⟩)]) rfl trivial (enters_of Tryz.func87 (by kernel_rfl) rfl) HSQ.out (fun h k => h.trans k)
    (fun W l o o' hl ho hc _ => ⟨by simp, fun b cs e fr hb _ => (World.putObj_heap_other (fun h => by subst h; rw [hb] at ho; cases ho; cases hc)).trans hb, fun _ h => h.elim⟩) (Below.refl _ _) (fun x => x.elim)
    (fun (_ : List Empty) W => Below w8.heap.size w8 W) (fun _ _ _ => False)
    (fun s W W' row hs hg hr => by exact hs.grown hg hs.size (fun k e => (hr k e).1)) (fun _ _ _ _ _ hs _ _ => hs) (Below.refl _ _) (fun x => x.elim) ?assign ?body ?done ?stop
  case assign => intro l x; exact x.elim
  case body => intro l pre x; exact x.elim
  case stop =>
    rintro D c pre W _ _ h _
    exact h.elim
  case done =>
  rintro D0 ys w9 hD - hb hK
  replace HN : Hid (WN w cs g [D0] w9) := HN.out.marked hb hD hK
  replace HW := (show Hid (IsW w9 p (WM.new []) F) from HW.out.below hb)
  clear hD hK HSQ HBX hb
  gi_wp2_with fail
  refine ⟨trivial, (callsIn_wide.2 (wCopy_no (.inl rfl))).mono ?_⟩
  rintro e _ ⟨rfl, rfl⟩
  gi_wp2_with fail
  refine ⟨trivial, (callsIn_wide.2 (wBecome1_no HW.out (.inl rfl))).mono ?_⟩
  rintro e _ ⟨rfl, rfl⟩
  gi_wp2_with fail
  refine ⟨trivial, (callsIn_wide.2 (wBecome2_no (.inl rfl) _)).mono ?_⟩
  rintro e _ ⟨rfl, rfl⟩
  clear HW
  gi_wp2_with fail
  refine ⟨trivial, (callsIn_wide.2 (wSame_no (.inl rfl))).mono ?_⟩
  rintro e _ ⟨rfl, rfl⟩
  gi_wp2_with fail
  refine ⟨trivial, (callsIn_wide.2 (wSides_no (.inl rfl))).mono ?_⟩
  rintro e _ ⟨rfl, rfl⟩
  gi_wp2_with fail
  refine ⟨trivial, (callsIn_wide.2 (wCutEdge_no (.inl rfl) n)).mono ?_⟩
  rintro e _ ⟨rfl, rfl⟩
  gi_wp2_with fail
  refine ⟨trivial, (callsIn_wide.2 (wIsCut_no (.inl rfl) n)).mono ?_⟩
  rintro e _ ⟨rfl, rfl⟩
  gi_wp2_with fail
  refine ⟨trivial, (callsIn_wide.2 (wOpen_no (.inl rfl) a a)).mono ?_⟩
  rintro e _ ⟨rfl, rfl⟩
  have hl : (ldW (.pointer (some ⟨w.heap.size, 0, none⟩))).run Tryz.prog w9 = .ok (.value (.agg cs)) w9 := loadWhat_blk HN.out.arg hcs
  gi_wp2_with fail
  refine ⟨trivial, (callsIn_wide.2 (wLay_no (.inl rfl) r cs)).mono ?_⟩
  rintro e w10 ⟨rfl, hb⟩
  replace HN : Hid (WN w cs g [D0] w10) := HN.out.on hb
  clear hb
  clear hl
  have hb : Below w10.heap.size w10 (w10.alloc (.cells #[.int .i64 r] 28)) := (Below.refl _ _).alloc (Nat.le_refl _) _
  have HNa : Hid (WN w cs g [D0] (w10.alloc (.cells #[.int .i64 r] 28))) := HN.out.on hb
  clear hb HN
  gi_wp2_with fail
  refine ⟨trivial, (callsIn_wide.2 (wDrop_no (.inl rfl) _)).mono ?_⟩
  rintro e _ ⟨rfl, rfl⟩
  revert HNa
  generalize w10.alloc (.cells #[.int .i64 r] 28) = w11
  intro HN
  gi_wp2_with fail
  refine ⟨trivial, (callsIn_wide.2 (wIs_no (.inl rfl) r)).mono ?_⟩
  rintro e _ ⟨rfl, rfl⟩
  gi_wp2_with fail
  refine ⟨trivial, (callsIn_wide.2 (wKind_no (.inl rfl) r)).mono ?_⟩
  rintro e _ ⟨rfl, rfl⟩
  gi_wp2_with fail
  refine ⟨trivial, (callsIn_wide.2 (wAble_no (.inl rfl) r)).mono ?_⟩
  rintro e _ ⟨rfl, rfl⟩
  gi_wp2_with fail
  refine ⟨trivial, (callsIn_wide.2 (wBase_no (.inl rfl) r)).mono ?_⟩
  rintro e _ ⟨rfl, rfl⟩
  gi_wp2_with fail
  refine ⟨trivial, (callsIn_wide.2 (wWay_no (.inl rfl) r)).mono ?_⟩
  rintro e _ ⟨rfl, rfl⟩
  gi_wp2_with fail
  refine ⟨trivial, (callsIn_wide.2 (wFree_no (.inl rfl) a r)).mono ?_⟩
  rintro e _ ⟨rfl, rfl⟩
  gi_wp2_with fail
  refine ⟨trivial, (callsIn_wide.2 (wLen_no (.inl rfl))).mono ?_⟩
  rintro e _ ⟨rfl, rfl⟩
  gi_wp2_with fail
  refine ⟨trivial, (callsIn_wide.2 (wMade_no (.inl rfl) a)).mono ?_⟩
  rintro e _ ⟨rfl, rfl⟩
  gi_wp2_with fail
  refine ⟨trivial, (callsIn_wide.2 (wTell_no (.inl rfl))).mono ?_⟩
  rintro e w12 ⟨rfl, hb⟩
  replace HN : Hid (WN w cs g [D0] w12) := HN.out.on hb
  clear hb
  gi_wp2_with fail
  refine ⟨trivial, (callsIn_wide.2 (same07_zero _)).mono ?_⟩
  rintro e w13 ⟨rfl, hb⟩
  replace HN : Hid (WN w cs g [D0] w13) := HN.out.on hb
  clear hb
  gi_wp2_with fail
  rw [roundsIn_succ]
  have hc : w13.cell? ⟨g + 1, 1, none⟩ = some (.pointer (some ⟨g, 0, none⟩)) := by rw [cell_blk HN.out.arr]; rfl
  have hl : (ldW (.pointer (some ⟨w.heap.size, 0, none⟩))).run Tryz.prog w13 = .ok (.value (.agg cs)) w13 := loadWhat_blk HN.out.arg hcs
  gi_wp2_with fail
  refine ⟨trivial, (callsIn_wide.2 (wMake_no HN.out.no cs)).mono ?_⟩
  rintro e w14 ⟨rfl, hb⟩
  replace HN : Hid (WN w cs g [D0] w14) := HN.out.on hb
  clear hb
  clear hc hl
  gi_wp2_with fail
  refine ⟨trivial, (callsIn_wide.2 (wFacet_no HN.out.no r 1)).mono ?_⟩
  rintro e _ ⟨rfl, rfl⟩
  gi_wp2_with fail
  refine ⟨trivial, (callsIn_wide.2 (wFind_no HN.out.no r 1)).mono ?_⟩
  rintro e _ ⟨rfl, rfl⟩
  gi_wp2_with fail
  refine ⟨trivial, (callsIn_wide.2 (What_no HN.out.no r)).mono ?_⟩
  rintro e w15 ⟨rfl, hb⟩
  replace HN : Hid (WN w cs g [D0] w15) := HN.out.on hb
  clear hb
  obtain ⟨w16, hst, hb, hz, -⟩ := boxed_what' w15 #[.int .u8 0, .int .i64 0, .int .u8 0, .int .i64 0, .string ⟨#[]⟩, .slice none 0 0, .int .i64 0, .slice none 0 0, .int .i64 0, .int .i64 0, .int .i64 0, .int .i64 0, .int .u8 0, .bool false, .slice none 0 0, .slice none 0 0] rfl (by simp [go_sem])
  have HZ := (show Hid (w16.heap[w15.heap.size]? = some (.cells #[.int .u8 0, .int .i64 0, .int .u8 0, .int .i64 0, .string ⟨#[]⟩, .slice none 0 0, .int .i64 0, .slice none 0 0, .int .i64 0, .int .i64 0, .int .i64 0, .int .i64 0, .int .u8 0, .bool false, .slice none 0 0, .slice none 0 0] 42 (0, 0))) from hz)
  clear hz
  replace HN : Hid (WN w cs g [D0] w16) := HN.out.on hb
  clear hb
  gi_wp2_with fail
  refine ⟨trivial, (callsIn_wide.2 (wParent_no HN.out.no a)).mono ?_⟩
  rintro e _ ⟨rfl, rfl⟩
  clear hst
  gi_wp2_with fail
  refine ⟨trivial, (callsIn_wide.2 (wHome_no HN.out.no r)).mono ?_⟩
  rintro e _ ⟨rfl, rfl⟩
  gi_wp2_with fail
  refine ⟨trivial, (callsIn_wide.2 (Things_any w16 (some ⟨g, 0, none⟩))).mono ?_⟩
  rintro e _ ⟨rfl, rfl⟩
  have hbx : (w16.alloc (.cells #[.pointer (some ⟨g, 0, none⟩)] 23)).cell? ⟨w16.heap.size, 0, none⟩ = some (.pointer (some ⟨g, 0, none⟩)) := by rw [cell_blk (World.alloc_heap_new w16 _)]; rfl
  have hb : Below w16.heap.size w16 (w16.alloc (.cells #[.pointer (some ⟨g, 0, none⟩)] 23)) := (Below.refl _ _).alloc (Nat.le_refl _) _
  obtain ⟨w17, hw⟩ : ∃ x, x = w16.alloc (.cells #[.pointer (some ⟨g, 0, none⟩)] 23) := ⟨_, rfl⟩
  rw [← hw] at hb hbx ⊢
  clear hw
  replace HN : Hid (WN w cs g [D0] w17) := HN.out.on hb
  replace HZ := (show Hid (w17.heap[w15.heap.size]? = some (.cells #[.int .u8 0, .int .i64 0, .int .u8 0, .int .i64 0, .string ⟨#[]⟩, .slice none 0 0, .int .i64 0, .slice none 0 0, .int .i64 0, .int .i64 0, .int .i64 0, .int .i64 0, .int .u8 0, .bool false, .slice none 0 0, .slice none 0 0] 42 (0, 0))) from below_blk hb HZ.out)
  clear hb
  have HBX := (show Hid (w17.cell? ⟨w16.heap.size, 0, none⟩ = some (.pointer (some ⟨g, 0, none⟩))) from hbx)
  clear hbx
  gi_wp2_with fail
  refine ⟨trivial, (callsIn_wide.2 (New_W _ none 0 [] (.inl rfl))).mono ?_⟩
  rintro e w18 hpost
  obtain ⟨p, F, rfl, hW, -, hb⟩ := (Or.resolve_right hpost (fun h => h.1 treeNil)).2
  have HW := (show Hid (IsW w18 p (WM.new []) F) from hW)
  clear hpost hW
  replace HN : Hid (WN w cs g [D0] w18) := HN.out.on hb
  replace HZ := (show Hid (w18.heap[w15.heap.size]? = some (.cells #[.int .u8 0, .int .i64 0, .int .u8 0, .int .i64 0, .string ⟨#[]⟩, .slice none 0 0, .int .i64 0, .slice none 0 0, .int .i64 0, .int .i64 0, .int .i64 0, .int .i64 0, .int .u8 0, .bool false, .slice none 0 0, .slice none 0 0] 42 (0, 0))) from below_blk hb HZ.out)
  replace HBX := (show Hid (w18.cell? ⟨w16.heap.size, 0, none⟩ = some (.pointer (some ⟨g, 0, none⟩))) from (hb.cell (p := ⟨w16.heap.size, 0, none⟩) (World.block_lt_of_cell? _ _ HBX.out)).trans HBX.out)
  clear hb
  have hl : (ldW (.pointer (some ⟨w15.heap.size, 0, none⟩))).run Tryz.prog w18 = .ok (.value (.agg #[.int .u8 0, .int .i64 0, .int .u8 0, .int .i64 0, .string ⟨#[]⟩, .slice none 0 0, .int .i64 0, .slice none 0 0, .int .i64 0, .int .i64 0, .int .i64 0, .int .i64 0, .int .u8 0, .bool false, .slice none 0 0, .slice none 0 0])) w18 := loadWhat_blk HZ.out rfl
  gi_wp2_with fail
  refine ⟨trivial, (callsIn_wide.2 (sameWhat07_zero _)).mono ?_⟩
  rintro e w19 ⟨rfl, hb⟩
  replace HN : Hid (WN w cs g [D0] w19) := HN.out.on hb
  replace HZ := (show Hid (w19.heap[w15.heap.size]? = some (.cells #[.int .u8 0, .int .i64 0, .int .u8 0, .int .i64 0, .string ⟨#[]⟩, .slice none 0 0, .int .i64 0, .slice none 0 0, .int .i64 0, .int .i64 0, .int .i64 0, .int .i64 0, .int .u8 0, .bool false, .slice none 0 0, .slice none 0 0] 42 (0, 0))) from below_blk hb HZ.out)
  replace HBX := (show Hid (w19.cell? ⟨w16.heap.size, 0, none⟩ = some (.pointer (some ⟨g, 0, none⟩))) from (hb.cell (p := ⟨w16.heap.size, 0, none⟩) (World.block_lt_of_cell? _ _ HBX.out)).trans HBX.out)
  replace HW := (show Hid (IsW w19 p (WM.new []) F) from HW.out.below hb)
  clear hb
  clear hl HZ
  gi_wp2_with fail
  have hseq := things1_no (n := 4) HN.out.no HBX.out (fun _ _ => False)
  have HSQ := (show Hid _ from hseq)
  clear hseq
  refine wpIn_rangeFunc_ownF rfl (by decide) (gf := 87) (lb := #[.pointer (some ⟨w16.heap.size, 0, none⟩)]) rfl trivial (enters_of Tryz.func87 (by kernel_rfl) rfl) HSQ.out (fun h k => h.trans k)
    (fun W l o o' hl ho hc _ => ⟨by simp, fun b cs e fr hb _ => (World.putObj_heap_other (fun h => by subst h; rw [hb] at ho; cases ho; cases hc)).trans hb, fun _ h => h.elim⟩) (Below.refl _ _) (fun x => x.elim)
    (fun (_ : List Empty) W => Below w19.heap.size w19 W) (fun _ _ _ => False)
    (fun s W W' row hs hg hr => by exact hs.grown hg hs.size (fun k e => (hr k e).1)) (fun _ _ _ _ _ hs _ _ => hs) (Below.refl _ _) (fun x => x.elim) ?assign ?body ?done ?stop
  case assign => intro l x; exact x.elim
  case body => intro l pre x; exact x.elim
  case stop =>
    rintro D c pre W _ _ h _
    exact h.elim
  case done =>
  rintro D1 ys w20 hD - hb hK
  replace HN : Hid (WN w cs g [D1, D0] w20) := HN.out.marked hb hD hK
  replace HW := (show Hid (IsW w20 p (WM.new []) F) from HW.out.below hb)
  clear hD hK HSQ HBX hb
  gi_wp2_with fail
  refine ⟨trivial, (callsIn_wide.2 (wCopy_no HN.out.no)).mono ?_⟩
  rintro e _ ⟨rfl, rfl⟩
  gi_wp2_with fail
  refine ⟨trivial, (callsIn_wide.2 (wBecome1_no HW.out HN.out.no)).mono ?_⟩
  rintro e _ ⟨rfl, rfl⟩
  gi_wp2_with fail
  refine ⟨trivial, (callsIn_wide.2 (wBecome2_no HN.out.no _)).mono ?_⟩
  rintro e _ ⟨rfl, rfl⟩
  clear HW
  gi_wp2_with fail
  refine ⟨trivial, (callsIn_wide.2 (wSame_no HN.out.no)).mono ?_⟩
  rintro e _ ⟨rfl, rfl⟩
  gi_wp2_with fail
  refine ⟨trivial, (callsIn_wide.2 (wSides_no HN.out.no)).mono ?_⟩
  rintro e _ ⟨rfl, rfl⟩
  gi_wp2_with fail
  refine ⟨trivial, (callsIn_wide.2 (wCutEdge_no HN.out.no n)).mono ?_⟩
  rintro e _ ⟨rfl, rfl⟩
  gi_wp2_with fail
  refine ⟨trivial, (callsIn_wide.2 (wIsCut_no HN.out.no n)).mono ?_⟩
  rintro e _ ⟨rfl, rfl⟩
  gi_wp2_with fail
  refine ⟨trivial, (callsIn_wide.2 (wOpen_no HN.out.no a a)).mono ?_⟩
  rintro e _ ⟨rfl, rfl⟩
  have hl : (ldW (.pointer (some ⟨w.heap.size, 0, none⟩))).run Tryz.prog w20 = .ok (.value (.agg cs)) w20 := loadWhat_blk HN.out.arg hcs
  gi_wp2_with fail
  refine ⟨trivial, (callsIn_wide.2 (wLay_no HN.out.no r cs)).mono ?_⟩
  rintro e w21 ⟨rfl, hb⟩
  replace HN : Hid (WN w cs g [D1, D0] w21) := HN.out.on hb
  clear hb
  clear hl
  have hb : Below w21.heap.size w21 (w21.alloc (.cells #[.int .i64 r] 28)) := (Below.refl _ _).alloc (Nat.le_refl _) _
  have HNa : Hid (WN w cs g [D1, D0] (w21.alloc (.cells #[.int .i64 r] 28))) := HN.out.on hb
  clear hb HN
  gi_wp2_with fail
  refine ⟨trivial, (callsIn_wide.2 (wDrop_no HNa.out.no _)).mono ?_⟩
  rintro e _ ⟨rfl, rfl⟩
  revert HNa
  generalize w21.alloc (.cells #[.int .i64 r] 28) = w22
  intro HN
  gi_wp2_with fail
  refine ⟨trivial, (callsIn_wide.2 (wIs_no HN.out.no r)).mono ?_⟩
  rintro e _ ⟨rfl, rfl⟩
  gi_wp2_with fail
  refine ⟨trivial, (callsIn_wide.2 (wKind_no HN.out.no r)).mono ?_⟩
  rintro e _ ⟨rfl, rfl⟩
  gi_wp2_with fail
  refine ⟨trivial, (callsIn_wide.2 (wAble_no HN.out.no r)).mono ?_⟩
  rintro e _ ⟨rfl, rfl⟩
  gi_wp2_with fail
  refine ⟨trivial, (callsIn_wide.2 (wBase_no HN.out.no r)).mono ?_⟩
  rintro e _ ⟨rfl, rfl⟩
  gi_wp2_with fail
  refine ⟨trivial, (callsIn_wide.2 (wWay_no HN.out.no r)).mono ?_⟩
  rintro e _ ⟨rfl, rfl⟩
  gi_wp2_with fail
  refine ⟨trivial, (callsIn_wide.2 (wFree_no HN.out.no a r)).mono ?_⟩
  rintro e _ ⟨rfl, rfl⟩
  gi_wp2_with fail
  refine ⟨trivial, (callsIn_wide.2 (wLen_no HN.out.no)).mono ?_⟩
  rintro e _ ⟨rfl, rfl⟩
  gi_wp2_with fail
  refine ⟨trivial, (callsIn_wide.2 (wMade_no HN.out.no a)).mono ?_⟩
  rintro e _ ⟨rfl, rfl⟩
  gi_wp2_with fail
  refine ⟨trivial, (callsIn_wide.2 (wTell_no HN.out.no)).mono ?_⟩
  rintro e w23 ⟨rfl, hb⟩
  replace HN : Hid (WN w cs g [D1, D0] w23) := HN.out.on hb
  clear hb
  gi_wp2_with fail
  refine ⟨trivial, (callsIn_wide.2 (same07_zero _)).mono ?_⟩
  rintro e w24 ⟨rfl, hb⟩
  replace HN : Hid (WN w cs g [D1, D0] w24) := HN.out.on hb
  clear hb
  gi_wp2_with fail
  rw [roundsIn_succ]
  gi_wp2_with fail
  refine ⟨trivial, (callsIn_wide.2 (lives_W _)).mono ?_⟩
  rintro e w25 ⟨rfl, hb⟩
  replace HN : Hid (WN w cs g [D1, D0] w25) := HN.out.on hb
  clear hb
  obtain ⟨c2, f2⟩ := box_facts HN.out.res
  have c2 : w25.cell? ⟨w.heap.size + 1 + 1, 0, none⟩ = some (.bool false) := c2
  have f2 : w25.frozen? ⟨w.heap.size + 1 + 1, 0, none⟩ = false := f2
  gi_wp2_with fail
  exact wnone_end HN.out _ rfl
end Go.Proofs.YthebeomenjfdlaaGreat
