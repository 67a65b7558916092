/- A part of the proof, several texts in one: MakeG, Fits, FitsB, FormA. -/
import Derived.Test.YthaliljaglldjaaGreatmAL
import Derived.Test.YthaliljaglldjaaGreatmAR
import Derived.Deep.DeepCutAuto
import Derived.StillTailTactics
import Derived.Test.YthaliljaglldjaaGreatmAB
import Derived.Test.YthaliljaglldjaaGreatmAC
import Derived.Deep.QuietTactic
import Derived.BigQuiet
import Derived.Test.YthaliljaglldjaaGreatmAQ
/- Make, whatever the lists of the thing are: its callees' answers are asked for. -/
namespace Go.Proofs.YthaliljaglldjaaGreat
open Go.RowKit Go.ChangeMaps Go.MapKept
variable {w : World} {p : Nat} {M : WM} {F : Nat → Prop}
def asksByB (k : Int) : Bool := k == 15 || k == 16
set_option maxRecDepth 8000 in
theorem asksOf_W (k : Int) (w : World) : Calls Tryz.prog 76 #[.int .u8 k] w fun e w' => e = .returned (.bool (asksOfB k)) ∧ w = w' := by
  have hwr := wraps_W k w
  by_cases h6 : k = 6
  · subst h6
    go_enter Tryz.func76, Tryz.ntmps76
    go_wp2
    go_ret
    exact ⟨rfl, rfl⟩
  by_cases h7 : k = 7
  · subst h7
    go_enter Tryz.func76, Tryz.ntmps76
    go_wp2
    go_ret
    exact ⟨rfl, rfl⟩
  by_cases h9 : k = 9
  · subst h9
    go_enter Tryz.func76, Tryz.ntmps76
    go_wp2
    go_ret
    exact ⟨rfl, rfl⟩
  by_cases h11 : k = 11
  · subst h11
    go_enter Tryz.func76, Tryz.ntmps76
    go_wp2
    go_ret
    exact ⟨rfl, rfl⟩
  have e6 : (k == 6) = false := by simpa using h6
  have e7 : (k == 7) = false := by simpa using h7
  have e9 : (k == 9) = false := by simpa using h9
  have e11 : (k == 11) = false := by simpa using h11
  have hv : asksOfB k = wrapsB k := by simp [asksOfB, e6, e7, e9, e11]
  rw [hv]
  clear hv h6 h7 h9 h11
  go_enter Tryz.func76, Tryz.ntmps76
  go_wp2_with fail
  refine hwr.mono ?_
  rintro e _ ⟨rfl, rfl⟩
  go_wp2_with fail
  go_ret
  exact ⟨rfl, rfl⟩
def gateM (M : WM) (t : Th) : WM := match (M.add t).at t.bi with
  | some u => (M.add t).set t.bi { u with tgt := M.last + 1 }
  | none => M.add t
def makeM (M : WM) (t : Th) : WM := if t.kind = 15 then gateM M t else M.add t
def MadeG (w : World) (p : Nat) (M : WM) (F : Nat → Prop) (h : Int) (T : Th → Prop) (e : Ending) (w' : World) : Prop :=
  (M.made.getD h.toNat 0 < 512 ∧ e = .returned (.tuple #[.int .i64 (M.last + 1), .int .i64 0]) ∧ ∃ t F', T t ∧ IsW w' p (makeM M t) F' ∧ Grew F w F' w') ∨
  (¬ M.made.getD h.toNat 0 < 512 ∧ e = .returned (.tuple #[.int .i64 0, .int .i64 8]) ∧ Below w.heap.size w w')
def newB (w w' : World) : Nat → Prop := fun b => w.heap.size ≤ b ∧ b < w'.heap.size
structure MakeIn (w : World) (p : Nat) (M : WM) (F : Nat → Prop) (k h n l tg bi s : Int) (fu : Bool) (c2 c3 c4 c5 c6 c7 c14 c15 : Value) (T : Th → Prop) : Prop where
  form : ∀ w1, Below w.heap.size w w1 → Calls Tryz.prog 74 #[.pointer (some ⟨p, 0, none⟩), .agg #[.int .u8 k, .int .i64 h, c2, c3, c4, c5, c6, c7, .int .i64 n, .int .i64 l, .int .i64 tg, .int .i64 bi, .int .u8 s, .bool fu, c14, c15]] w1 fun e w' => e = .returned (.bool true) ∧ Below w1.heap.size w1 w'
  names : ∀ w1, Below w.heap.size w w1 → Calls Tryz.prog 75 #[.pointer (some ⟨p, 0, none⟩), .agg #[.int .u8 k, .int .i64 h, c2, c3, c4, c5, c6, c7, .int .i64 n, .int .i64 l, .int .i64 tg, .int .i64 bi, .int .u8 s, .bool fu, c14, c15]] w1 fun e w' => e = .returned (.bool true) ∧ Below w1.heap.size w1 w'
  fits : ∀ w1, Below w.heap.size w w1 → Calls Tryz.prog 78 #[.pointer (some ⟨p, 0, none⟩), .int .i64 0, .agg #[.int .u8 k, .int .i64 h, c2, c3, c4, c5, c6, c7, .int .i64 n, .int .i64 l, .int .i64 tg, .int .i64 bi, .int .u8 s, .bool fu, c14, c15]] w1 fun e w' => e = .returned (.bool true) ∧ Below w1.heap.size w1 w'
  own : ∀ w1, Below w.heap.size w w1 → Calls Tryz.prog 80 #[.agg #[.int .u8 k, .int .i64 h, c2, c3, c4, c5, c6, c7, .int .i64 n, .int .i64 l, .int .i64 tg, .int .i64 bi, .int .u8 s, .bool fu, c14, c15]] w1 fun e w' => ∃ t, T t ∧ e = .returned (.agg (thc t)) ∧ Below w1.heap.size w1 w' ∧ Deep w' (newB w1 w') t
  k14 : (k == 14) = false
  k13 : k = 13 → tg = 0
  tgw : (Lit.int .i64 tg).wf = true
  biw : (Lit.int .i64 bi).wf = true
  home : 0 ≤ h ∧ h < M.made.length
  hA : asksOfB k = true → (M.at tg).isSome = true
  hB : asksByB k = true → (M.at bi).isSome = true
  add : M.made.getD h.toNat 0 < 512 → ∀ t, T t → t.kind = k ∧ t.home = h ∧ t.bi = bi ∧ AddOk M t
theorem blk_drew {w : World} {b : Nat} {o : Obj} (h : w.heap[b]? = some o) : w.drew.heap[b]? = some o := h
set_option maxHeartbeats 2000000 in
set_option maxRecDepth 8000 in
theorem Make_G (hW : IsW w p M F) {k h n l tg bi s : Int} {fu : Bool} {c2 c3 c4 c5 c6 c7 c14 c15 : Value} {T : Th → Prop} (I : MakeIn w p M F k h n l tg bi s fu c2 c3 c4 c5 c6 c7 c14 c15 T) :
    Calls Tryz.prog 14 #[.pointer (some ⟨p, 0, none⟩), .agg #[.int .u8 k, .int .i64 h, c2, c3, c4, c5, c6, c7, .int .i64 n, .int .i64 l, .int .i64 tg, .int .i64 bi, .int .u8 s, .bool fu, c14, c15]] w (MadeG w p M F h T) := by
  have HI := (show Hid _ from I)
  have HW : Hid (IsW w p M F) := hW
  have k14 := I.k14
  have hb0 : Below w.heap.size w (w.alloc (.cells #[.int .u8 k, .int .i64 h, c2, c3, c4, c5, c6, c7, .int .i64 n, .int .i64 l, .int .i64 tg, .int .i64 bi, .int .u8 s, .bool fu, c14, c15] 46)) := (Below.refl _ _).alloc (Nat.le_refl _) _
  have HB0 := (show Hid _ from hb0)
  clear hW I hb0
  go_enter Tryz.func14, Tryz.ntmps14
  go_wp2_with fail
  refine (none_W (HW.out.below HB0.out)).mono ?_
  rintro e _ ⟨rfl, rfl⟩
  go_upto_region 3 with fail
  go_cut [27] (fun v wx => v = .bool false ∧ Hid (Below w.heap.size w wx) ∧ Hid (wx.heap[w.heap.size]? = some (.cells #[.int .u8 k, .int .i64 h, c2, c3, c4, c5, c6, c7, .int .i64 n, .int .i64 l, .int .i64 tg, .int .i64 bi, .int .u8 s, .bool fu, c14, c15] 46 (0, 0))))
  case first =>
    by_cases h13 : k = 13
    · have h0 := HI.out.k13 h13
      subst h13 h0
      go_wp2_with fail
      refine Calls.mono (HI.out.form _ HB0.out) ?_
      rintro e w1 ⟨rfl, hb1⟩
      have HB1 : Hid (Below w.heap.size w w1) := HB0.out.trans (hb1.mono (by simp))
      have B1 := (show Hid _ from below_blk hb1 (blk_new _ _))
      clear hb1
      go_wp2_with fail
      go_meet
      exact ⟨rfl, HB1, B1⟩
    · have k13 : (k == 13) = false := by simpa using h13
      clear h13
      go_wp2_with fail
      refine Calls.mono (HI.out.form _ HB0.out) ?_
      rintro e w1 ⟨rfl, hb1⟩
      have HB1 : Hid (Below w.heap.size w w1) := HB0.out.trans (hb1.mono (by simp))
      have B1 := (show Hid _ from below_blk hb1 (blk_new _ _))
      clear hb1
      go_wp2_with fail
      go_meet
      exact ⟨rfl, HB1, B1⟩
  obtain ⟨rfl, HB1, B1⟩ := hcut
  generalize wc = w1 at *
  go_upto_region 5 with fail
  go_cut [55] (fun v wx => v = .bool false ∧ Hid (Below w.heap.size w wx) ∧ Hid (wx.heap[w.heap.size]? = some (.cells #[.int .u8 k, .int .i64 h, c2, c3, c4, c5, c6, c7, .int .i64 n, .int .i64 l, .int .i64 tg, .int .i64 bi, .int .u8 s, .bool fu, c14, c15] 46 (0, 0))))
  case first =>
    have l1 := loadWhat_blk B1.out rfl
    go_wp2_with fail
    refine Calls.mono (HI.out.names _ HB1.out) ?_
    rintro e w2 ⟨rfl, hb2⟩
    have HB2 : Hid (Below w.heap.size w w2) := HB1.out.trans (hb2.mono HB1.out.size)
    have B2 := (show Hid _ from below_blk hb2 B1.out)
    clear hb2 l1
    have c0 : w2.cell? ⟨w.heap.size, 0, none⟩ = some (.int .u8 k) := by rw [cell_blk B2.out]; rfl
    have c10 : w2.cell? ⟨w.heap.size, 10, none⟩ = some (.int .i64 tg) := by rw [cell_blk B2.out]; rfl
    have c11 : w2.cell? ⟨w.heap.size, 11, none⟩ = some (.int .i64 bi) := by rw [cell_blk B2.out]; rfl
    go_wp2_with fail
    refine (asksOf_W k _).mono ?_
    have hA := HI.out.hA
    generalize asksOfB k = A at hA
    have HA := (show Hid (A = true → (M.at tg).isSome = true) from hA)
    clear hA
    rintro e _ ⟨rfl, rfl⟩
    cases A
    · go_wp2_with fail
      refine (asksBy_W k _).mono ?_
      have hB := HI.out.hB
      unfold asksByB at hB
      generalize (k == 15 || k == 16) = B at hB
      have HB := (show Hid (B = true → (M.at bi).isSome = true) from hB)
      clear hB
      rintro e _ ⟨rfl, rfl⟩
      cases B
      · go_wp2_with fail
        go_meet
        exact ⟨rfl, HB2, B2⟩
      · go_wp2_with fail
        refine (Is_W (HW.out.below HB2.out) HI.out.biw).mono ?_
        rw [HB.out (by simp)]
        rintro e _ ⟨rfl, rfl⟩
        go_wp2_with fail
        go_meet
        exact ⟨rfl, HB2, B2⟩
    · go_wp2_with fail
      refine (Is_W (HW.out.below HB2.out) HI.out.tgw).mono ?_
      rw [HA.out (by simp)]
      rintro e _ ⟨rfl, rfl⟩
      go_wp2_with fail
      refine (asksBy_W k _).mono ?_
      have hB := HI.out.hB
      unfold asksByB at hB
      generalize (k == 15 || k == 16) = B at hB
      have HB := (show Hid (B = true → (M.at bi).isSome = true) from hB)
      clear hB
      rintro e _ ⟨rfl, rfl⟩
      cases B
      · go_wp2_with fail
        go_meet
        exact ⟨rfl, HB2, B2⟩
      · go_wp2_with fail
        refine (Is_W (HW.out.below HB2.out) HI.out.biw).mono ?_
        rw [HB.out (by simp)]
        rintro e _ ⟨rfl, rfl⟩
        go_wp2_with fail
        go_meet
        exact ⟨rfl, HB2, B2⟩
  obtain ⟨rfl, HB2, B2⟩ := hcut
  clear HB1 B1
  generalize wc = w2 at *
  have l2 := loadWhat_blk B2.out rfl
  go_wp2_with fail
  refine Calls.mono (HI.out.fits _ HB2.out) ?_
  rintro e w3 ⟨rfl, hb3⟩
  have HB3 : Hid (Below w.heap.size w w3) := HB2.out.trans (hb3.mono HB2.out.size)
  have B3 := (show Hid _ from below_blk hb3 B2.out)
  clear hb3 l2 B2 HB2
  obtain ⟨q1, q2⟩ := HI.out.home
  obtain ⟨hn, hhn⟩ := Int.eq_ofNat_of_zero_le q1
  have hq2 : (hn : Int) < M.made.length := by omega
  have hW3 := HW.out.below HB3.out
  obtain ⟨pa, pc, cg, cc, mg, mc, tb, fb, fn, bl, hV⟩ := hW3
  have c5 := hV.c5
  have c1 : w3.cell? ⟨w.heap.size, 1, none⟩ = some (.int .i64 hn) := by rw [cell_blk B3.out, hhn]; rfl
  have hc : w3.cell? ⟨mg, hn, none⟩ = some (.int .i64 (M.made.getD hn 0)) := hV.mad.cell (by rw [List.getElem?_map, List.getElem?_eq_getElem (by omega), List.getD_eq_getElem?_getD, List.getElem?_eq_getElem (by omega)]; rfl)
  obtain ⟨v, hv⟩ : ∃ v, v = M.made.getD hn 0 := ⟨_, rfl⟩
  have Hv : Hid (M.made.getD h.toNat 0 = v) := by show _ = _; rw [hv, hhn]; rfl
  rw [← hv] at hc
  clear hv q1 q2 hV hhn
  by_cases hroom : v < 512
  · have Q3 : ¬ (512 ≤ v) := by omega
    have l3 := loadWhat_blk (w := w3.drew) (blk_drew B3.out) rfl
    have HR : Hid (M.made.getD h.toNat 0 < 512) := by show _ < _; rw [Hv.out]; exact hroom
    clear hroom
    go_wp2_with fail
    go_region
    clear c5 c1 hc hq2
    go_wp2_with fail
    refine Calls.mono (HI.out.own _ HB3.out.drew) ?_
    rintro e w4 ⟨t, hT, rfl, hb4, hdeep⟩
    have HB4 : Hid (Below w.heap.size w w4) := HB3.out.drew.trans (hb4.mono HB3.out.drew.size)
    have B4 := (show Hid _ from below_blk hb4 (blk_drew B3.out))
    obtain ⟨t1, t2, t3, hadd⟩ := HI.out.add HR.out t hT
    have hlay := lay_W (HW.out.below HB4.out) hadd hdeep (fun b hb => ⟨hb.2, fun hF => by
      have h1 := HW.out.lt b hF
      have h2 := HB3.out.size
      have h3 := hb.1
      have h4 : w3.drew.heap.size = w3.heap.size := rfl
      omega⟩)
    have HAdd := (show Hid (AddOk M t) from hadd)
    have HS3 : Hid (w.heap.size ≤ w3.drew.heap.size) := HB3.out.size
    have HT : Hid (T t ∧ t.kind = k ∧ t.home = h ∧ t.bi = bi) := ⟨hT, t1, t2, t3⟩
    clear hb4 l3 HB3 B3 t1 t2 t3 hT hdeep hadd
    go_wp2_with fail
    refine hlay.mono ?_
    rintro e w5 ⟨rfl, hW5, hk5⟩
    clear hlay
    have B5 := (hk5.block _ (blk_lt B4.out) (fun h => Nat.lt_irrefl _ (HW.out.lt _ h))).trans B4.out
    have a5 : w5.cell? ⟨w.heap.size, 0, none⟩ = some (.int .u8 k) := by rw [cell_blk B5]; rfl
    have a11 : w5.cell? ⟨w.heap.size, 11, none⟩ = some (.int .i64 bi) := by rw [cell_blk B5]; rfl
    have HF : Hid (∃ F', IsW w5 p (M.add t) F' ∧ Grew F w F' w5) := ⟨_, hW5, Below.keeps HB4.out hk5, by
      have := HB4.out.size
      rintro b ((h | h) | h)
      · exact .inl h
      · have h1 := h.1
        have h2 := HS3.out
        right
        omega
      · right; omega⟩
    clear hW5 hk5 HB4 B4 B5
    by_cases h15 : k = 15
    · subst h15
      obtain ⟨F5, hW5, hg5⟩ := HF.out
      obtain ⟨u, hu, hu13⟩ := HAdd.out.gate HT.out.2.1
      have hu5 := WM.add_at_old HW.out.ok t hu
      rw [HT.out.2.2.2] at hu hu5
      have hset : SetOk (M.add t) bi u { u with tgt := M.last + 1 } := {
        was := hu5
        kind := rfl
        home := rfl
        tgt := fun h => absurd hu13 h
        tgtw := (show (Lit.int .i64 (M.last + 1)).wf = true from WalkArith.wf_i64 (by have := HAdd.out.last; have := HW.out.ok.last; omega))
        bi := rfl
        set := rfl }
      have hmk : makeM M t = (M.add t).set bi { u with tgt := M.last + 1 } := by
        rw [makeM, if_pos HT.out.2.1, gateM, HT.out.2.2.2, hu5]
      obtain ⟨pa5, pc5, cg5, cc5, mg5, mc5, tb5, fb5, fn5, bl5, hV5⟩ := hW5
      obtain ⟨hblk, hbF, hbd⟩ := hV5.blk bi u hu5
      have c2' := hV5.c2
      have hlk : (Instr.lookup 137 (.map (some tb5)) (.int .i64 bi) false).run Tryz.prog w5.drew = .ok (.pointer (some ⟨bl5 bi, 0, none⟩)) w5.drew := by
        have := (hV5.below (w' := w5.drew) ⟨rfl, rfl, rfl, Nat.le_refl _, fun _ _ => rfl⟩).look HI.out.biw
        rw [hu5] at this
        exact this
      have hfr := frozen_blk hblk 10
      have hc10 : w5.cell? ⟨bl5 bi, 10, none⟩ = some (.int .i64 u.tgt) := by rw [cell_blk hblk]; rfl
      have hdn : Deep (w5.setCell ⟨bl5 bi, 10, none⟩ (.int .i64 (M.last + 1))).drew F5 { u with tgt := M.last + 1 } := by
        have D : Deep (w5.setCell ⟨bl5 bi, 10, none⟩ (.int .i64 (M.last + 1))).drew F5 u := hbd.of_blocks (fun b cs e fr hF hb he => Below.heap_setCell w5 ⟨bl5 bi, 10, none⟩ _ b (fun x => by
          simp only at x
          rw [x, hblk] at hb
          cases hb
          simp [deepTy] at he)) fun _ h => h
        exact ⟨D.v, D.vs, D.code, D.names⟩
      have HFin : Hid (∃ F', IsW (w5.setCell ⟨bl5 bi, 10, none⟩ (.int .i64 (M.last + 1))).drew p (makeM M t) F' ∧ Grew F w F' (w5.setCell ⟨bl5 bi, 10, none⟩ (.int .i64 (M.last + 1))).drew) := by
        refine ⟨F5, ⟨pa5, pc5, cg5, cc5, mg5, mc5, tb5, fb5, fn5, bl5, ?_⟩, ?_⟩
        · rw [hmk]
          have hB : (w5.setCell ⟨bl5 bi, 10, none⟩ (.int .i64 (M.last + 1))).drew.heap[bl5 bi]? = some (.cells (thc { u with tgt := M.last + 1 }) 46 (0, 0)) := blk_setCell hblk 10 _
          exact hV5.turn (w' := (w5.setCell ⟨bl5 bi, 10, none⟩ (.int .i64 (M.last + 1))).drew) hset (by simp [World.setCell]) hB (fun b hF hb => Below.heap_setCell w5 ⟨bl5 bi, 10, none⟩ _ b hb) (fun b h => h) (fun b h => by have := hV5.lt b h; simpa [World.setCell] using this) hdn
        · refine ⟨hg5.1.trans (Keeps.setCell (S := fun b => b = bl5 bi) w5 ⟨bl5 bi, 10, none⟩ _ rfl).drew (fun _ _ h => h) (fun b hb h => ?_), hg5.2⟩
          rcases hg5.2 _ hbF with h1 | h1
          · rw [h]; exact h1
          · omega
      have hbi5 : wrap64 (M.last + 1) = M.last + 1 := by
        have := HAdd.out.last
        have := HW.out.ok.last
        unfold wrap64
        omega
      clear hV5 hset hmk hblk hbF hbd hu hu5 hg5 hu13 hbi5 hdn
      go_wp2_with fail
      go_still_tail 10, (by kernel_rfl)
      change wpList _ _ _ _ _ w5.drew
      go_wp2_with fail
      go_ret2
      exact .inl ⟨by have := HR.out; omega, rfl, t, by obtain ⟨F', f1, f2⟩ := HFin.out; exact ⟨F', HT.out.1, f1, f2⟩⟩
    · have k15 : (k == 15) = false := by simpa using h15
      go_wp2_with fail
      go_ret2
      refine .inl ⟨by have := HR.out; omega, rfl, t, ?_⟩
      obtain ⟨F', f1, f2⟩ := HF.out
      exact ⟨F', HT.out.1, by rw [makeM, if_neg (by rw [HT.out.2.1]; exact h15)]; exact f1, f2⟩
  · have Q3 : 512 ≤ v := by omega
    have HR : Hid (¬ M.made.getD h.toNat 0 < 512) := by show ¬ _ < _; rw [Hv.out]; exact hroom
    clear hroom
    go_wp2_with fail
    go_region
    clear c5 c1 hc hq2
    go_wp2_with fail
    go_ret2
    exact .inr ⟨by have := HR.out; omega, rfl, HB3.out.drew⟩
end Go.Proofs.YthaliljaglldjaaGreat
/- fits at the kinds that ask for nothing. Printed by gen_fits.py. -/
namespace Go.Proofs.YthaliljaglldjaaGreat
open Go.RowKit Go.ChangeMaps Go.MapKept
variable {w : World} {p : Nat} {M : WM} {F : Nat → Prop}
set_option maxRecDepth 8000 in
theorem fits_2 (w : World) (q : Option Addr) (r h vk vn n l tg bi s : Int) (fu : Bool) : Calls Tryz.prog 78 #[.pointer q, .int .i64 r, .agg #[.int .u8 2, .int .i64 h, .int .u8 vk, .int .i64 vn, .string ⟨#[]⟩, .slice none 0 0, .int .i64 0, .slice none 0 0, .int .i64 n, .int .i64 l, .int .i64 tg, .int .i64 bi, .int .u8 s, .bool fu, .slice none 0 0, .slice none 0 0]] w fun e w' => e = .returned (.bool true) ∧ Below w.heap.size w w' := by
  go_enter Tryz.func78, Tryz.ntmps78
  go_wp2
  go_ret
  exact ⟨rfl, by go_grown⟩
set_option maxRecDepth 8000 in
theorem fits_3 (w : World) (q : Option Addr) (r h vk vn n l tg bi s : Int) (fu : Bool) : Calls Tryz.prog 78 #[.pointer q, .int .i64 r, .agg #[.int .u8 3, .int .i64 h, .int .u8 vk, .int .i64 vn, .string ⟨#[]⟩, .slice none 0 0, .int .i64 0, .slice none 0 0, .int .i64 n, .int .i64 l, .int .i64 tg, .int .i64 bi, .int .u8 s, .bool fu, .slice none 0 0, .slice none 0 0]] w fun e w' => e = .returned (.bool true) ∧ Below w.heap.size w w' := by
  go_enter Tryz.func78, Tryz.ntmps78
  go_wp2
  go_ret
  exact ⟨rfl, by go_grown⟩
set_option maxRecDepth 8000 in
theorem fits_4 (w : World) (q : Option Addr) (r h vk vn n l tg bi s : Int) (fu : Bool) : Calls Tryz.prog 78 #[.pointer q, .int .i64 r, .agg #[.int .u8 4, .int .i64 h, .int .u8 vk, .int .i64 vn, .string ⟨#[]⟩, .slice none 0 0, .int .i64 0, .slice none 0 0, .int .i64 n, .int .i64 l, .int .i64 tg, .int .i64 bi, .int .u8 s, .bool fu, .slice none 0 0, .slice none 0 0]] w fun e w' => e = .returned (.bool true) ∧ Below w.heap.size w w' := by
  go_enter Tryz.func78, Tryz.ntmps78
  go_wp2
  go_ret
  exact ⟨rfl, by go_grown⟩
set_option maxRecDepth 8000 in
theorem fits_10 (w : World) (q : Option Addr) (r h vk vn n l tg bi s : Int) (fu : Bool) : Calls Tryz.prog 78 #[.pointer q, .int .i64 r, .agg #[.int .u8 10, .int .i64 h, .int .u8 vk, .int .i64 vn, .string ⟨#[]⟩, .slice none 0 0, .int .i64 0, .slice none 0 0, .int .i64 n, .int .i64 l, .int .i64 tg, .int .i64 bi, .int .u8 s, .bool fu, .slice none 0 0, .slice none 0 0]] w fun e w' => e = .returned (.bool true) ∧ Below w.heap.size w w' := by
  go_enter Tryz.func78, Tryz.ntmps78
  go_wp2
  go_ret
  exact ⟨rfl, by go_grown⟩
end Go.Proofs.YthaliljaglldjaaGreat
/- fits at the kinds that ask for another thing: a switch, a purse, a tap, a gate. -/
namespace Go.Proofs.YthaliljaglldjaaGreat
open Go.RowKit Go.ChangeMaps Go.MapKept
variable {w : World} {p : Nat} {M : WM} {F : Nat → Prop}
theorem IsW.drewN (hW : IsW w p M F) (m : Nat) : IsW (w.drewN m) p M F := hW.below ⟨rfl, rfl, rfl, Nat.le_refl _, fun _ _ => rfl⟩
theorem WV.look_drewN {pa : Option Addr} {pc cg cc mg mc tb fb fn : Nat} {bl : Int → Nat} (h : WV w p M F pa pc cg cc mg mc tb fb fn bl) {q : Int} {t : Th} (hq : (Lit.int .i64 q).wf = true) (ht : M.at q = some t) (m : Nat) :
    (Instr.lookup 137 (.map (some tb)) (.int .i64 q) false).run Tryz.prog (w.drewN m) = .ok (.pointer (some ⟨bl q, 0, none⟩)) (w.drewN m) := by
  have := (h.below (w' := w.drewN m) ⟨rfl, rfl, rfl, Nat.le_refl _, fun _ _ => rfl⟩).look hq
  rw [ht] at this
  exact this
theorem there_yes (hW : IsW w p M F) {bw bx : Nat} {q k h : Int} {t : Th} (hq : (Lit.int .i64 q).wf = true) (ht : M.at q = some t) (hk : t.kind = k) (hh : t.home = h)
    (cw : w.cell? ⟨bw, 0, none⟩ = some (.pointer (some ⟨p, 0, none⟩))) (cx : w.cell? ⟨bx, 1, none⟩ = some (.int .i64 h)) :
    Calls Tryz.prog 168 #[.int .i64 q, .int .u8 k, .pointer (some ⟨bw, 0, none⟩), .pointer (some ⟨bx, 0, none⟩)] w fun e w' => e = .returned (.bool true) ∧ ∃ n, w' = w.drewN n := by
  subst hk hh
  have hK : ∀ m, Calls Tryz.prog 50 #[.pointer (some ⟨p, 0, none⟩), .int .i64 q] (w.drewN m) fun e w' => e = .returned (.int .u8 t.kind) ∧ w' = w.drewN m := fun m =>
    (Kind_W (hW.drewN m) hq).mono (by rintro e w' ⟨rfl, rfl⟩; exact ⟨by simp [WM.kindOf, ht], rfl⟩)
  have HK := (show Hid _ from hK)
  obtain ⟨pa, pc, cg, cc, mg, mc, tb, fb, fn, bl, h⟩ := hW
  have c2 := h.c2
  have hlk := h.look_drewN hq ht
  obtain ⟨-, k1, -, -, -, -, -, -⟩ := thc_cell (h.blk q t ht).1
  have e1 : (t.kind == t.kind) = true := by simp
  have e2 : (t.home == t.home) = true := by simp
  clear h ht hq hK
  go_enter Tryz.func168, Tryz.ntmps168
  go_wp2_with fail
  go_quiet ((go_at_call 50; exact Calls.quiet_of_same (HK.out _)))
  go_wp2_with fail
  go_ret
  exact ⟨rfl, _, rfl⟩
end Go.Proofs.YthaliljaglldjaaGreat
/- form: a What that is one. One theorem a kind; printed by gen_form.py A|B|C. -/
namespace Go.Proofs.YthaliljaglldjaaGreat
open Go.RowKit Go.ChangeMaps Go.MapKept
variable {w : World} {p : Nat} {M : WM} {F : Nat → Prop}
set_option maxHeartbeats 1000000 in
set_option maxRecDepth 8000 in
theorem form_2 (hW : IsW w p M F) (h : Int) (hs : sideB M h = true) : Calls Tryz.prog 74 #[.pointer (some ⟨p, 0, none⟩), .agg #[.int .u8 2, .int .i64 h, .int .u8 0, .int .i64 0, .string ⟨#[]⟩, .slice none 0 0, .int .i64 0, .slice none 0 0, .int .i64 0, .int .i64 0, .int .i64 0, .int .i64 0, .int .u8 0, .bool false, .slice none 0 0, .slice none 0 0]] w fun e w' => e = .returned (.bool true) ∧ Below w.heap.size w w' := by
  have hV : ∀ w : World, Calls Tryz.prog 161 #[.agg #[.int .u8 0, .int .i64 0, .string ⟨#[]⟩, .slice none 0 0, .int .i64 0]] w fun e w' => e = .returned (.bool true) ∧ Below w.heap.size w w' := fun w => vMay_W w 0 0 (.inl ⟨rfl, rfl⟩)
  go_enter Tryz.func74, Tryz.ntmps74
  go_wp2_with fail
  refine (bare_2 _ h 0 0 0 0 0 0 0 0 ⟨#[]⟩ false none none none none 0 0 0 0 0 0 0 0).mono ?_
  rintro e w1 ⟨rfl, hb1⟩
  have B1 := below_blk hb1 (blk_new _ _)
  obtain ⟨a0, a1, a2, a3, a4, a5, a6, a7, a8, a9, a10, a11, a12, a13, a14, a15⟩ := cells16 B1
  have hz1 : w.heap.size < w1.heap.size := by have := hb1.size; simp at this; omega
  have HB1 : Hid (Below w.heap.size w w1) := ((Below.refl _ _).alloc (Nat.le_refl _) _).trans (hb1.mono (by simp; try omega))
  clear hb1
  go_wp2_with fail
  refine (blank0_W _).mono ?_
  rintro e w2 ⟨rfl, hb2⟩
  have B2 := below_blk hb2 (blk_old _ _ B1)
  clear a0 a1 a2 a3 a4 a5 a6 a7 a8 a9 a10 a11 a12 a13 a14 a15
  obtain ⟨a0, a1, a2, a3, a4, a5, a6, a7, a8, a9, a10, a11, a12, a13, a14, a15⟩ := cells16 B2
  have hz2 : w.heap.size < w2.heap.size := by have := hb2.size; simp at this; omega
  have HB2 : Hid (Below w.heap.size w w2) := (HB1.out.alloc (by first | omega | (simp; try omega)) _).trans (hb2.mono (by first | omega | (simp; try omega)))
  clear hb2 B1 HB1 hz1
  go_wp2_with fail
  refine (blank0_W _).mono ?_
  rintro e w3 ⟨rfl, hb3⟩
  have B3 := below_blk hb3 B2
  clear a0 a1 a2 a3 a4 a5 a6 a7 a8 a9 a10 a11 a12 a13 a14 a15
  obtain ⟨a0, a1, a2, a3, a4, a5, a6, a7, a8, a9, a10, a11, a12, a13, a14, a15⟩ := cells16 B3
  have hz3 : w.heap.size < w3.heap.size := by have := hb3.size; omega
  have HB3 : Hid (Below w.heap.size w w3) := HB2.out.trans (hb3.mono (by first | omega | (simp; try omega)))
  clear hb3 B2 HB2 hz2
  go_wp2_with fail
  refine (side_W (hW.below HB3.out) h).mono ?_
  rw [hs]
  rintro e _ ⟨rfl, rfl⟩
  go_wp2_with fail
  refine (hV _).mono ?_
  rintro e w4 ⟨rfl, hb4⟩
  have B4 := below_blk hb4 B3
  clear a0 a1 a2 a3 a4 a5 a6 a7 a8 a9 a10 a11 a12 a13 a14 a15
  obtain ⟨a0, a1, a2, a3, a4, a5, a6, a7, a8, a9, a10, a11, a12, a13, a14, a15⟩ := cells16 B4
  have hz4 : w.heap.size < w4.heap.size := by have := hb4.size; omega
  have HB4 : Hid (Below w.heap.size w w4) := HB3.out.trans (hb4.mono (by first | omega | (simp; try omega)))
  clear hb4 B3 HB3 hz3
  go_wp2_with fail
  refine (vOf_W _).mono ?_
  rintro e w5 ⟨rfl, hb5⟩
  have B5 := below_blk hb5 B4
  clear a0 a1 a2 a3 a4 a5 a6 a7 a8 a9 a10 a11 a12 a13 a14 a15
  obtain ⟨a0, a1, a2, a3, a4, a5, a6, a7, a8, a9, a10, a11, a12, a13, a14, a15⟩ := cells16 B5
  have hz5 : w.heap.size < w5.heap.size := by have := hb5.size; omega
  have HB5 : Hid (Below w.heap.size w w5) := HB4.out.trans (hb5.mono (by first | omega | (simp; try omega)))
  clear hb5 B4 HB4 hz4
  go_wp2_with fail
  go_rounds 1
  have hB := HB5.out
  have hZ : w.heap.size ≤ w5.heap.size := by omega
  go_ret
  exact ⟨rfl, by go_grown⟩
set_option maxHeartbeats 1000000 in
set_option maxRecDepth 8000 in
theorem form_4 (hW : IsW w p M F) (h : Int) (hs : sideB M h = true) : Calls Tryz.prog 74 #[.pointer (some ⟨p, 0, none⟩), .agg #[.int .u8 4, .int .i64 h, .int .u8 0, .int .i64 0, .string ⟨#[]⟩, .slice none 0 0, .int .i64 0, .slice none 0 0, .int .i64 0, .int .i64 0, .int .i64 0, .int .i64 0, .int .u8 0, .bool false, .slice none 0 0, .slice none 0 0]] w fun e w' => e = .returned (.bool true) ∧ Below w.heap.size w w' := by
  have hV : ∀ w : World, Calls Tryz.prog 161 #[.agg #[.int .u8 0, .int .i64 0, .string ⟨#[]⟩, .slice none 0 0, .int .i64 0]] w fun e w' => e = .returned (.bool true) ∧ Below w.heap.size w w' := fun w => vMay_W w 0 0 (.inl ⟨rfl, rfl⟩)
  go_enter Tryz.func74, Tryz.ntmps74
  go_wp2_with fail
  refine (bare_4 _ h 0 0 0 0 0 0 0 0 ⟨#[]⟩ false none none none none 0 0 0 0 0 0 0 0).mono ?_
  rintro e w1 ⟨rfl, hb1⟩
  have B1 := below_blk hb1 (blk_new _ _)
  obtain ⟨a0, a1, a2, a3, a4, a5, a6, a7, a8, a9, a10, a11, a12, a13, a14, a15⟩ := cells16 B1
  have hz1 : w.heap.size < w1.heap.size := by have := hb1.size; simp at this; omega
  have HB1 : Hid (Below w.heap.size w w1) := ((Below.refl _ _).alloc (Nat.le_refl _) _).trans (hb1.mono (by simp; try omega))
  clear hb1
  go_wp2_with fail
  refine (blank0_W _).mono ?_
  rintro e w2 ⟨rfl, hb2⟩
  have B2 := below_blk hb2 (blk_old _ _ B1)
  clear a0 a1 a2 a3 a4 a5 a6 a7 a8 a9 a10 a11 a12 a13 a14 a15
  obtain ⟨a0, a1, a2, a3, a4, a5, a6, a7, a8, a9, a10, a11, a12, a13, a14, a15⟩ := cells16 B2
  have hz2 : w.heap.size < w2.heap.size := by have := hb2.size; simp at this; omega
  have HB2 : Hid (Below w.heap.size w w2) := (HB1.out.alloc (by first | omega | (simp; try omega)) _).trans (hb2.mono (by first | omega | (simp; try omega)))
  clear hb2 B1 HB1 hz1
  go_wp2_with fail
  refine (blank0_W _).mono ?_
  rintro e w3 ⟨rfl, hb3⟩
  have B3 := below_blk hb3 B2
  clear a0 a1 a2 a3 a4 a5 a6 a7 a8 a9 a10 a11 a12 a13 a14 a15
  obtain ⟨a0, a1, a2, a3, a4, a5, a6, a7, a8, a9, a10, a11, a12, a13, a14, a15⟩ := cells16 B3
  have hz3 : w.heap.size < w3.heap.size := by have := hb3.size; omega
  have HB3 : Hid (Below w.heap.size w w3) := HB2.out.trans (hb3.mono (by first | omega | (simp; try omega)))
  clear hb3 B2 HB2 hz2
  go_wp2_with fail
  refine (side_W (hW.below HB3.out) h).mono ?_
  rw [hs]
  rintro e _ ⟨rfl, rfl⟩
  go_wp2_with fail
  refine (hV _).mono ?_
  rintro e w4 ⟨rfl, hb4⟩
  have B4 := below_blk hb4 B3
  clear a0 a1 a2 a3 a4 a5 a6 a7 a8 a9 a10 a11 a12 a13 a14 a15
  obtain ⟨a0, a1, a2, a3, a4, a5, a6, a7, a8, a9, a10, a11, a12, a13, a14, a15⟩ := cells16 B4
  have hz4 : w.heap.size < w4.heap.size := by have := hb4.size; omega
  have HB4 : Hid (Below w.heap.size w w4) := HB3.out.trans (hb4.mono (by first | omega | (simp; try omega)))
  clear hb4 B3 HB3 hz3
  go_wp2_with fail
  refine (vOf_W _).mono ?_
  rintro e w5 ⟨rfl, hb5⟩
  have B5 := below_blk hb5 B4
  clear a0 a1 a2 a3 a4 a5 a6 a7 a8 a9 a10 a11 a12 a13 a14 a15
  obtain ⟨a0, a1, a2, a3, a4, a5, a6, a7, a8, a9, a10, a11, a12, a13, a14, a15⟩ := cells16 B5
  have hz5 : w.heap.size < w5.heap.size := by have := hb5.size; omega
  have HB5 : Hid (Below w.heap.size w w5) := HB4.out.trans (hb5.mono (by first | omega | (simp; try omega)))
  clear hb5 B4 HB4 hz4
  go_wp2_with fail
  go_rounds 1
  have hB := HB5.out
  have hZ : w.heap.size ≤ w5.heap.size := by omega
  go_ret
  exact ⟨rfl, by go_grown⟩
end Go.Proofs.YthaliljaglldjaaGreat
