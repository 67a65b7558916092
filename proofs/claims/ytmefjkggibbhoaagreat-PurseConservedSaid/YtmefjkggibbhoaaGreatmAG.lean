/- A part of the proof, several texts in one: MakeG, WalkB, WalkD. -/
import Derived.Test.YtmefjkggibbhoaaGreatmAD
import Derived.Test.YtmefjkggibbhoaaGreatmAF
import Derived.Deep.DeepCutAuto
import Derived.StillTailTactics
import Derived.Test.YtmefjkggibbhoaaGreatmAC
/- Make, whatever the lists of the thing are: its callees' answers are asked for. -/
namespace Go.Proofs.YtmefjkggibbhoaaGreat
open Go.RowKit Go.ChangeMaps Go.MapKept
variable {w : World} {p : Nat} {M : WM} {F : Nat → Prop}

def asksByB (k : Int) : Bool := k == 15 || k == 16

set_option maxRecDepth 8000 in
theorem asksOf_W (k : Int) (w : World) : Calls Tryz.prog 63 #[.int .u8 k] w fun e w' => e = .returned (.bool (asksOfB k)) ∧ w = w' := by
  have hwr := wraps_W k w
  by_cases h6 : k = 6
  · subst h6
    go_enter Tryz.func63, Tryz.ntmps63
    go_wp2
    go_ret
    exact ⟨rfl, rfl⟩
  by_cases h7 : k = 7
  · subst h7
    go_enter Tryz.func63, Tryz.ntmps63
    go_wp2
    go_ret
    exact ⟨rfl, rfl⟩
  by_cases h9 : k = 9
  · subst h9
    go_enter Tryz.func63, Tryz.ntmps63
    go_wp2
    go_ret
    exact ⟨rfl, rfl⟩
  by_cases h11 : k = 11
  · subst h11
    go_enter Tryz.func63, Tryz.ntmps63
    go_wp2
    go_ret
    exact ⟨rfl, rfl⟩
  have e6 : (k == 6) = false := by simpa using h6
  have e7 : (k == 7) = false := by simpa using h7
  have e9 : (k == 9) = false := by simpa using h9
  have e11 : (k == 11) = false := by simpa using h11
  have hv : asksOfB k = wrapsB k := by simp [asksOfB, e6, e7, e9, e11]
  rw [hv]
  clear hv h6 h7 h9 h11
  go_enter Tryz.func63, Tryz.ntmps63
  go_wp2_with fail
  refine hwr.mono ?_
  rintro e _ ⟨rfl, rfl⟩
  go_wp2_with fail
  go_ret
  exact ⟨rfl, rfl⟩

/-- A gate that is made becomes its switch's. -/
def gateM (M : WM) (t : Th) : WM := match (M.add t).at t.bi with
  | some u => (M.add t).set t.bi { u with tgt := M.last + 1 }
  | none => M.add t
/-- The world behind a thing that was made. -/
def makeM (M : WM) (t : Th) : WM := if t.kind = 15 then gateM M t else M.add t

/-- What Make leaves. -/
def MadeG (w : World) (p : Nat) (M : WM) (F : Nat → Prop) (h : Int) (T : Th → Prop) (e : Ending) (w' : World) : Prop :=
  (M.made.getD h.toNat 0 < 512 ∧ e = .returned (.tuple #[.int .i64 (M.last + 1), .int .i64 0]) ∧ ∃ t F', T t ∧ IsW w' p (makeM M t) F' ∧ Grew F w F' w') ∨
  (¬ M.made.getD h.toNat 0 < 512 ∧ e = .returned (.tuple #[.int .i64 0, .int .i64 8]) ∧ Below w.heap.size w w')

/-- The blocks that are new. -/
def newB (w w' : World) : Nat → Prop := fun b => w.heap.size ≤ b ∧ b < w'.heap.size

/-- What is known of a thing that Make is handed, of its callees. -/
structure MakeIn (w : World) (p : Nat) (M : WM) (F : Nat → Prop) (k h n l tg bi s : Int) (fu : Bool) (c2 c3 c4 c5 c6 c7 c14 c15 : Value) (T : Th → Prop) : Prop where
  form : ∀ w1, Below w.heap.size w w1 → Calls Tryz.prog 61 #[.pointer (some ⟨p, 0, none⟩), .agg #[.int .u8 k, .int .i64 h, c2, c3, c4, c5, c6, c7, .int .i64 n, .int .i64 l, .int .i64 tg, .int .i64 bi, .int .u8 s, .bool fu, c14, c15]] w1 fun e w' => e = .returned (.bool true) ∧ Below w1.heap.size w1 w'
  names : ∀ w1, Below w.heap.size w w1 → Calls Tryz.prog 62 #[.pointer (some ⟨p, 0, none⟩), .agg #[.int .u8 k, .int .i64 h, c2, c3, c4, c5, c6, c7, .int .i64 n, .int .i64 l, .int .i64 tg, .int .i64 bi, .int .u8 s, .bool fu, c14, c15]] w1 fun e w' => e = .returned (.bool true) ∧ Below w1.heap.size w1 w'
  fits : ∀ w1, Below w.heap.size w w1 → Calls Tryz.prog 65 #[.pointer (some ⟨p, 0, none⟩), .int .i64 0, .agg #[.int .u8 k, .int .i64 h, c2, c3, c4, c5, c6, c7, .int .i64 n, .int .i64 l, .int .i64 tg, .int .i64 bi, .int .u8 s, .bool fu, c14, c15]] w1 fun e w' => e = .returned (.bool true) ∧ Below w1.heap.size w1 w'
  own : ∀ w1, Below w.heap.size w w1 → Calls Tryz.prog 41 #[.agg #[.int .u8 k, .int .i64 h, c2, c3, c4, c5, c6, c7, .int .i64 n, .int .i64 l, .int .i64 tg, .int .i64 bi, .int .u8 s, .bool fu, c14, c15]] w1 fun e w' => ∃ t, T t ∧ e = .returned (.agg (thc t)) ∧ Below w1.heap.size w1 w' ∧ Deep w' (newB w1 w') t
  k14 : (k == 14) = false
  k13 : k = 13 → tg = 0
  tgw : (Lit.int .i64 tg).wf = true
  biw : (Lit.int .i64 bi).wf = true
  home : 0 ≤ h ∧ h < M.made.length
  hA : asksOfB k = true → (M.at tg).isSome = true
  hB : asksByB k = true → (M.at bi).isSome = true
  add : M.made.getD h.toNat 0 < 512 → ∀ t, T t → t.kind = k ∧ t.home = h ∧ t.bi = bi ∧ AddOk M t

theorem blk_drew {w : World} {b : Nat} {o : Obj} (h : w.heap[b]? = some o) : w.drew.heap[b]? = some o := h

set_option maxHeartbeats 2000000 in
set_option maxRecDepth 8000 in
theorem Make_G (hW : IsW w p M F) {k h n l tg bi s : Int} {fu : Bool} {c2 c3 c4 c5 c6 c7 c14 c15 : Value} {T : Th → Prop} (I : MakeIn w p M F k h n l tg bi s fu c2 c3 c4 c5 c6 c7 c14 c15 T) :
    Calls Tryz.prog 31 #[.pointer (some ⟨p, 0, none⟩), .agg #[.int .u8 k, .int .i64 h, c2, c3, c4, c5, c6, c7, .int .i64 n, .int .i64 l, .int .i64 tg, .int .i64 bi, .int .u8 s, .bool fu, c14, c15]] w (MadeG w p M F h T) := by
  have HI := (show Hid _ from I)
  have HW : Hid (IsW w p M F) := hW
  have k14 := I.k14
  have hb0 : Below w.heap.size w (w.alloc (.cells #[.int .u8 k, .int .i64 h, c2, c3, c4, c5, c6, c7, .int .i64 n, .int .i64 l, .int .i64 tg, .int .i64 bi, .int .u8 s, .bool fu, c14, c15] 53)) := (Below.refl _ _).alloc (Nat.le_refl _) _
  have HB0 := (show Hid _ from hb0)
  clear hW I hb0
  go_enter Tryz.func31, Tryz.ntmps31
  go_wp2_with fail
  refine (none_W (HW.out.below HB0.out)).mono ?_
  rintro e _ ⟨rfl, rfl⟩
  go_upto_region 3 with fail
  go_cut [27] (fun v wx => v = .bool false ∧ Hid (Below w.heap.size w wx) ∧ Hid (wx.heap[w.heap.size]? = some (.cells #[.int .u8 k, .int .i64 h, c2, c3, c4, c5, c6, c7, .int .i64 n, .int .i64 l, .int .i64 tg, .int .i64 bi, .int .u8 s, .bool fu, c14, c15] 53 (0, 0))))
  case first =>
    by_cases h13 : k = 13
    · have h0 := HI.out.k13 h13
      subst h13 h0
      go_wp2_with fail
      refine Calls.mono (HI.out.form _ HB0.out) ?_
      rintro e w1 ⟨rfl, hb1⟩
      have HB1 : Hid (Below w.heap.size w w1) := HB0.out.trans (hb1.mono (by simp))
      have B1 := (show Hid _ from below_blk hb1 (blk_new _ _))
      clear hb1
      go_wp2_with fail
      go_meet
      exact ⟨rfl, HB1, B1⟩
    · have k13 : (k == 13) = false := by simpa using h13
      clear h13
      go_wp2_with fail
      refine Calls.mono (HI.out.form _ HB0.out) ?_
      rintro e w1 ⟨rfl, hb1⟩
      have HB1 : Hid (Below w.heap.size w w1) := HB0.out.trans (hb1.mono (by simp))
      have B1 := (show Hid _ from below_blk hb1 (blk_new _ _))
      clear hb1
      go_wp2_with fail
      go_meet
      exact ⟨rfl, HB1, B1⟩
  obtain ⟨rfl, HB1, B1⟩ := hcut
  generalize wc = w1 at *
  go_upto_region 5 with fail
  go_cut [55] (fun v wx => v = .bool false ∧ Hid (Below w.heap.size w wx) ∧ Hid (wx.heap[w.heap.size]? = some (.cells #[.int .u8 k, .int .i64 h, c2, c3, c4, c5, c6, c7, .int .i64 n, .int .i64 l, .int .i64 tg, .int .i64 bi, .int .u8 s, .bool fu, c14, c15] 53 (0, 0))))
  case first =>
    have l1 := loadWhat_blk B1.out rfl
    go_wp2_with fail
    refine Calls.mono (HI.out.names _ HB1.out) ?_
    rintro e w2 ⟨rfl, hb2⟩
    have HB2 : Hid (Below w.heap.size w w2) := HB1.out.trans (hb2.mono HB1.out.size)
    have B2 := (show Hid _ from below_blk hb2 B1.out)
    clear hb2 l1
    have c0 : w2.cell? ⟨w.heap.size, 0, none⟩ = some (.int .u8 k) := by rw [cell_blk B2.out]; rfl
    have c10 : w2.cell? ⟨w.heap.size, 10, none⟩ = some (.int .i64 tg) := by rw [cell_blk B2.out]; rfl
    have c11 : w2.cell? ⟨w.heap.size, 11, none⟩ = some (.int .i64 bi) := by rw [cell_blk B2.out]; rfl
    go_wp2_with fail
    refine (asksOf_W k _).mono ?_
    have hA := HI.out.hA
    generalize asksOfB k = A at hA
    have HA := (show Hid (A = true → (M.at tg).isSome = true) from hA)
    clear hA
    rintro e _ ⟨rfl, rfl⟩
    cases A
    · go_wp2_with fail
      refine (asksBy_W k _).mono ?_
      have hB := HI.out.hB
      unfold asksByB at hB
      generalize (k == 15 || k == 16) = B at hB
      have HB := (show Hid (B = true → (M.at bi).isSome = true) from hB)
      clear hB
      rintro e _ ⟨rfl, rfl⟩
      cases B
      · go_wp2_with fail
        go_meet
        exact ⟨rfl, HB2, B2⟩
      · go_wp2_with fail
        refine (Is_W (HW.out.below HB2.out) HI.out.biw).mono ?_
        rw [HB.out (by simp)]
        rintro e _ ⟨rfl, rfl⟩
        go_wp2_with fail
        go_meet
        exact ⟨rfl, HB2, B2⟩
    · go_wp2_with fail
      refine (Is_W (HW.out.below HB2.out) HI.out.tgw).mono ?_
      rw [HA.out (by simp)]
      rintro e _ ⟨rfl, rfl⟩
      go_wp2_with fail
      refine (asksBy_W k _).mono ?_
      have hB := HI.out.hB
      unfold asksByB at hB
      generalize (k == 15 || k == 16) = B at hB
      have HB := (show Hid (B = true → (M.at bi).isSome = true) from hB)
      clear hB
      rintro e _ ⟨rfl, rfl⟩
      cases B
      · go_wp2_with fail
        go_meet
        exact ⟨rfl, HB2, B2⟩
      · go_wp2_with fail
        refine (Is_W (HW.out.below HB2.out) HI.out.biw).mono ?_
        rw [HB.out (by simp)]
        rintro e _ ⟨rfl, rfl⟩
        go_wp2_with fail
        go_meet
        exact ⟨rfl, HB2, B2⟩
  obtain ⟨rfl, HB2, B2⟩ := hcut
  clear HB1 B1
  generalize wc = w2 at *
  have l2 := loadWhat_blk B2.out rfl
  go_wp2_with fail
  refine Calls.mono (HI.out.fits _ HB2.out) ?_
  rintro e w3 ⟨rfl, hb3⟩
  have HB3 : Hid (Below w.heap.size w w3) := HB2.out.trans (hb3.mono HB2.out.size)
  have B3 := (show Hid _ from below_blk hb3 B2.out)
  clear hb3 l2 B2 HB2
  obtain ⟨q1, q2⟩ := HI.out.home
  obtain ⟨hn, hhn⟩ := Int.eq_ofNat_of_zero_le q1
  have hq2 : (hn : Int) < M.made.length := by omega
  have hW3 := HW.out.below HB3.out
  obtain ⟨pa, pc, cg, cc, mg, mc, tb, fb, fn, bl, hV⟩ := hW3
  have c5 := hV.c5
  have c1 : w3.cell? ⟨w.heap.size, 1, none⟩ = some (.int .i64 hn) := by rw [cell_blk B3.out, hhn]; rfl
  have hc : w3.cell? ⟨mg, hn, none⟩ = some (.int .i64 (M.made.getD hn 0)) := hV.mad.cell (by rw [List.getElem?_map, List.getElem?_eq_getElem (by omega), List.getD_eq_getElem?_getD, List.getElem?_eq_getElem (by omega)]; rfl)
  obtain ⟨v, hv⟩ : ∃ v, v = M.made.getD hn 0 := ⟨_, rfl⟩
  have Hv : Hid (M.made.getD h.toNat 0 = v) := by show _ = _; rw [hv, hhn]; rfl
  rw [← hv] at hc
  clear hv q1 q2 hV hhn
  by_cases hroom : v < 512
  · have Q3 : ¬ (512 ≤ v) := by omega
    have l3 := loadWhat_blk (w := w3.drew) (blk_drew B3.out) rfl
    have HR : Hid (M.made.getD h.toNat 0 < 512) := by show _ < _; rw [Hv.out]; exact hroom
    clear hroom
    go_wp2_with fail
    go_region
    clear c5 c1 hc hq2
    go_wp2_with fail
    refine Calls.mono (HI.out.own _ HB3.out.drew) ?_
    rintro e w4 ⟨t, hT, rfl, hb4, hdeep⟩
    have HB4 : Hid (Below w.heap.size w w4) := HB3.out.drew.trans (hb4.mono HB3.out.drew.size)
    have B4 := (show Hid _ from below_blk hb4 (blk_drew B3.out))
    obtain ⟨t1, t2, t3, hadd⟩ := HI.out.add HR.out t hT
    have hlay := lay_W (HW.out.below HB4.out) hadd hdeep (fun b hb => ⟨hb.2, fun hF => by
      have h1 := HW.out.lt b hF
      have h2 := HB3.out.size
      have h3 := hb.1
      have h4 : w3.drew.heap.size = w3.heap.size := rfl
      omega⟩)
    have HAdd := (show Hid (AddOk M t) from hadd)
    have HS3 : Hid (w.heap.size ≤ w3.drew.heap.size) := HB3.out.size
    have HT : Hid (T t ∧ t.kind = k ∧ t.home = h ∧ t.bi = bi) := ⟨hT, t1, t2, t3⟩
    clear hb4 l3 HB3 B3 t1 t2 t3 hT hdeep hadd
    go_wp2_with fail
    refine hlay.mono ?_
    rintro e w5 ⟨rfl, hW5, hk5⟩
    clear hlay
    have B5 := (hk5.block _ (blk_lt B4.out) (fun h => Nat.lt_irrefl _ (HW.out.lt _ h))).trans B4.out
    have a5 : w5.cell? ⟨w.heap.size, 0, none⟩ = some (.int .u8 k) := by rw [cell_blk B5]; rfl
    have a11 : w5.cell? ⟨w.heap.size, 11, none⟩ = some (.int .i64 bi) := by rw [cell_blk B5]; rfl
    have HF : Hid (∃ F', IsW w5 p (M.add t) F' ∧ Grew F w F' w5) := ⟨_, hW5, Below.keeps HB4.out hk5, by
      have := HB4.out.size
      rintro b ((h | h) | h)
      · exact .inl h
      · have h1 := h.1
        have h2 := HS3.out
        right
        omega
      · right; omega⟩
    clear hW5 hk5 HB4 B4 B5
    by_cases h15 : k = 15
    · subst h15
      obtain ⟨F5, hW5, hg5⟩ := HF.out
      obtain ⟨u, hu, hu13⟩ := HAdd.out.gate HT.out.2.1
      have hu5 := WM.add_at_old HW.out.ok t hu
      rw [HT.out.2.2.2] at hu hu5
      have hset : SetOk (M.add t) bi u { u with tgt := M.last + 1 } := {
        was := hu5
        kind := rfl
        home := rfl
        tgt := fun h => absurd hu13 h
        tgtw := (show (Lit.int .i64 (M.last + 1)).wf = true from WalkArith.wf_i64 (by have := HAdd.out.last; have := HW.out.ok.last; omega))
        bi := rfl
        set := rfl }
      have hmk : makeM M t = (M.add t).set bi { u with tgt := M.last + 1 } := by
        rw [makeM, if_pos HT.out.2.1, gateM, HT.out.2.2.2, hu5]
      obtain ⟨pa5, pc5, cg5, cc5, mg5, mc5, tb5, fb5, fn5, bl5, hV5⟩ := hW5
      obtain ⟨hblk, hbF, hbd⟩ := hV5.blk bi u hu5
      have c2' := hV5.c2
      have hlk : (Instr.lookup 60 (.map (some tb5)) (.int .i64 bi) false).run Tryz.prog w5.drew = .ok (.pointer (some ⟨bl5 bi, 0, none⟩)) w5.drew := by
        have := (hV5.below (w' := w5.drew) ⟨rfl, rfl, rfl, Nat.le_refl _, fun _ _ => rfl⟩).look HI.out.biw
        rw [hu5] at this
        exact this
      have hfr := frozen_blk hblk 10
      have hc10 : w5.cell? ⟨bl5 bi, 10, none⟩ = some (.int .i64 u.tgt) := by rw [cell_blk hblk]; rfl
      have hdn : Deep (w5.setCell ⟨bl5 bi, 10, none⟩ (.int .i64 (M.last + 1))).drew F5 { u with tgt := M.last + 1 } := by
        have D : Deep (w5.setCell ⟨bl5 bi, 10, none⟩ (.int .i64 (M.last + 1))).drew F5 u := hbd.of_blocks (fun b cs e fr hF hb he => Below.heap_setCell w5 ⟨bl5 bi, 10, none⟩ _ b (fun x => by
          simp only at x
          rw [x, hblk] at hb
          cases hb
          simp [deepTy] at he)) fun _ h => h
        exact ⟨D.v, D.vs, D.code, D.names⟩
      have HFin : Hid (∃ F', IsW (w5.setCell ⟨bl5 bi, 10, none⟩ (.int .i64 (M.last + 1))).drew p (makeM M t) F' ∧ Grew F w F' (w5.setCell ⟨bl5 bi, 10, none⟩ (.int .i64 (M.last + 1))).drew) := by
        refine ⟨F5, ⟨pa5, pc5, cg5, cc5, mg5, mc5, tb5, fb5, fn5, bl5, ?_⟩, ?_⟩
        · rw [hmk]
          have hB : (w5.setCell ⟨bl5 bi, 10, none⟩ (.int .i64 (M.last + 1))).drew.heap[bl5 bi]? = some (.cells (thc { u with tgt := M.last + 1 }) 53 (0, 0)) := blk_setCell hblk 10 _
          exact hV5.turn (w' := (w5.setCell ⟨bl5 bi, 10, none⟩ (.int .i64 (M.last + 1))).drew) hset (by simp [World.setCell]) hB (fun b hF hb => Below.heap_setCell w5 ⟨bl5 bi, 10, none⟩ _ b hb) (fun b h => h) (fun b h => by have := hV5.lt b h; simpa [World.setCell] using this) hdn
        · refine ⟨hg5.1.trans (Keeps.setCell (S := fun b => b = bl5 bi) w5 ⟨bl5 bi, 10, none⟩ _ rfl).drew (fun _ _ h => h) (fun b hb h => ?_), hg5.2⟩
          rcases hg5.2 _ hbF with h1 | h1
          · rw [h]; exact h1
          · omega
      have hbi5 : wrap64 (M.last + 1) = M.last + 1 := by
        have := HAdd.out.last
        have := HW.out.ok.last
        unfold wrap64
        omega
      clear hV5 hset hmk hblk hbF hbd hu hu5 hg5 hu13 hbi5 hdn
      go_wp2_with fail
      go_still_tail 10, (by kernel_rfl)
      change wpList _ _ _ _ _ w5.drew
      go_wp2_with fail
      go_ret2
      exact .inl ⟨by have := HR.out; omega, rfl, t, by obtain ⟨F', f1, f2⟩ := HFin.out; exact ⟨F', HT.out.1, f1, f2⟩⟩
    · have k15 : (k == 15) = false := by simpa using h15
      go_wp2_with fail
      go_ret2
      refine .inl ⟨by have := HR.out; omega, rfl, t, ?_⟩
      obtain ⟨F', f1, f2⟩ := HF.out
      exact ⟨F', HT.out.1, by rw [makeM, if_neg (by rw [HT.out.2.1]; exact h15)]; exact f1, f2⟩
  · have Q3 : 512 ≤ v := by omega
    have HR : Hid (¬ M.made.getD h.toNat 0 < 512) := by show ¬ _ < _; rw [Hv.out]; exact hroom
    clear hroom
    go_wp2_with fail
    go_region
    clear c5 c1 hc hq2
    go_wp2_with fail
    go_ret2
    exact .inr ⟨by have := HR.out; omega, rfl, HB3.out.drew⟩
end Go.Proofs.YtmefjkggibbhoaaGreat
/- What a thing is able to, its way, its base; the sides' tree. -/
namespace Go.Proofs.YtmefjkggibbhoaaGreat
open Go.RowKit Go.ChangeMaps Go.MapKept

def meet2 (a b : Int) : Int := bits BinOp.and IntKind.u8 (bits BinOp.and IntKind.u8 63 a) b
def canM (k : Int) : Int :=
  if k = 1 then 3 else if k = 2 then 9 else if k = 3 then 9 else if k = 4 then 12 else if k = 5 then 16 else if k = 6 then 16 else if k = 8 then 16 else if k = 12 then 16 else if k = 9 then 13 else if k = 10 then 1 else if k = 11 then 8 else if k = 13 then 33 else 0

theorem Meet_new (w : World) (a b : Int) :
    Calls Tryz.prog 67 #[.slice (some ⟨w.heap.size, 0, none⟩) 2 2] (w.alloc (.cells #[.int .u8 a, .int .u8 b] 49)) fun e w' => e = .returned (.int .u8 (meet2 a b)) ∧ w.alloc (.cells #[.int .u8 a, .int .u8 b] 49) = w' := by
  have h0 : (w.alloc (.cells #[.int .u8 a, .int .u8 b] 49)).cell? ⟨w.heap.size, 0, none⟩ = some (.int .u8 a) := by rw [cell_blk (blk_new w _)]; rfl
  have h1 : (w.alloc (.cells #[.int .u8 a, .int .u8 b] 49)).cell? ⟨w.heap.size, 1, none⟩ = some (.int .u8 b) := by rw [cell_blk (blk_new w _)]; rfl
  generalize w.alloc (.cells #[.int .u8 a, .int .u8 b] 49) = w1 at h0 h1 ⊢
  go_enter Tryz.func67, Tryz.ntmps67
  go_wp2
  go_rounds 3
  go_ret
  exact ⟨rfl, rfl⟩

theorem can_W (k : Int) (w : World) : Calls Tryz.prog 68 #[.int .u8 k] w fun e w' => e = .returned (.int .u8 (canM k)) ∧ Below w.heap.size w w' := by
  by_cases h1 : k = 1
  · subst h1
    go_enter Tryz.func68, Tryz.ntmps68
    go_wp2
    go_rounds 3
    go_ret
    exact ⟨rfl, by go_grown⟩
  by_cases h2 : k = 2
  · subst h2
    clear h1
    go_enter Tryz.func68, Tryz.ntmps68
    go_wp2
    go_rounds 3
    go_ret
    exact ⟨rfl, by go_grown⟩
  by_cases h3 : k = 3
  · subst h3
    clear h1 h2
    go_enter Tryz.func68, Tryz.ntmps68
    go_wp2
    go_rounds 3
    go_ret
    exact ⟨rfl, by go_grown⟩
  by_cases h4 : k = 4
  · subst h4
    clear h1 h2 h3
    go_enter Tryz.func68, Tryz.ntmps68
    go_wp2
    go_rounds 3
    go_ret
    exact ⟨rfl, by go_grown⟩
  by_cases h9 : k = 9
  · subst h9
    clear h1 h2 h3 h4
    go_enter Tryz.func68, Tryz.ntmps68
    go_wp2
    go_rounds 4
    go_ret
    exact ⟨rfl, by go_grown⟩
  by_cases h13 : k = 13
  · subst h13
    clear h1 h2 h3 h4 h9
    go_enter Tryz.func68, Tryz.ntmps68
    go_wp2
    go_rounds 3
    go_ret
    exact ⟨rfl, by go_grown⟩
  have g1 : (k == 1) = false := by simp [h1]
  have g2 : (k == 2) = false := by simp [h2]
  have g3 : (k == 3) = false := by simp [h3]
  have g4 : (k == 4) = false := by simp [h4]
  have g9 : (k == 9) = false := by simp [h9]
  have g13 : (k == 13) = false := by simp [h13]
  have H : Hid (canM k = if k = 5 then 16 else if k = 6 then 16 else if k = 8 then 16 else if k = 12 then 16 else if k = 10 then 1 else if k = 11 then 8 else 0) := by
    show canM k = _
    simp only [canM, if_neg h1, if_neg h2, if_neg h3, if_neg h4, if_neg h9, if_neg h13]
  clear h1 h2 h3 h4 h9 h13
  by_cases h5 : k = 5
  · subst h5
    go_enter Tryz.func68, Tryz.ntmps68
    go_wp2
    go_ret
    exact ⟨by rw [H.out]; rfl, by go_grown⟩
  by_cases h6 : k = 6
  · subst h6
    go_enter Tryz.func68, Tryz.ntmps68
    go_wp2
    go_ret
    exact ⟨by rw [H.out]; rfl, by go_grown⟩
  by_cases h8 : k = 8
  · subst h8
    go_enter Tryz.func68, Tryz.ntmps68
    go_wp2
    go_ret
    exact ⟨by rw [H.out]; rfl, by go_grown⟩
  by_cases h12 : k = 12
  · subst h12
    go_enter Tryz.func68, Tryz.ntmps68
    go_wp2
    go_ret
    exact ⟨by rw [H.out]; rfl, by go_grown⟩
  by_cases h10 : k = 10
  · subst h10
    go_enter Tryz.func68, Tryz.ntmps68
    go_wp2
    go_ret
    exact ⟨by rw [H.out]; rfl, by go_grown⟩
  by_cases h11 : k = 11
  · subst h11
    go_enter Tryz.func68, Tryz.ntmps68
    go_wp2
    go_ret
    exact ⟨by rw [H.out]; rfl, by go_grown⟩
  have H2 : Hid (canM k = 0) := by
    show canM k = 0
    rw [H.out, if_neg h5, if_neg h6, if_neg h8, if_neg h12, if_neg h10, if_neg h11]
  have g5 : (k == 5) = false := by simp [h5]
  have g6 : (k == 6) = false := by simp [h6]
  have g8 : (k == 8) = false := by simp [h8]
  have g12 : (k == 12) = false := by simp [h12]
  have g10 : (k == 10) = false := by simp [h10]
  have g11 : (k == 11) = false := by simp [h11]
  clear h5 h6 h8 h12 h10 h11 H
  go_enter Tryz.func68, Tryz.ntmps68
  go_wp2
  go_ret
  exact ⟨by rw [H2.out]; rfl, by go_grown⟩

def ableF (M : WM) : Nat → Int → Int → Int
  | 0, _, _ => 0
  | f + 1, s, r => match M.at r with
    | none => 0
    | some t => if t.kind = 14 then ableF M f (meet2 s t.set) t.tgt else if t.kind = 15 ∨ t.kind = 16 then ableF M f s t.tgt else meet2 s (canM t.kind)
def AbleIs (M : WM) (s r v : Int) : Prop := ∃ f0, ∀ f, f0 ≤ f → ableF M f s r = v

theorem AbleIs.uniq {M : WM} {s r v v' : Int} (h : AbleIs M s r v) (h' : AbleIs M s r v') : v = v' := by
  obtain ⟨f, h⟩ := h
  obtain ⟨f', h'⟩ := h'
  exact (h (f + f') (by omega)).symm.trans (h' (f + f') (by omega))
theorem AbleIs.none {M : WM} {s r v : Int} (h : AbleIs M s r v) (hr : M.at r = none) : v = 0 := by
  obtain ⟨f, h⟩ := h
  have := h (f + 1) (by omega)
  simpa [ableF, hr] using this.symm
theorem AbleIs.facet {M : WM} {s r v : Int} {t : Th} (h : AbleIs M s r v) (hr : M.at r = some t) (hk : t.kind = 14) : AbleIs M (meet2 s t.set) t.tgt v := by
  obtain ⟨f, h⟩ := h
  refine ⟨f, fun g hg => ?_⟩
  have := h (g + 1) (by omega)
  simpa [ableF, hr, hk] using this
theorem AbleIs.wrap {M : WM} {s r v : Int} {t : Th} (h : AbleIs M s r v) (hr : M.at r = some t) (hk : t.kind = 15 ∨ t.kind = 16) : AbleIs M s t.tgt v := by
  obtain ⟨f, h⟩ := h
  refine ⟨f, fun g hg => ?_⟩
  have := h (g + 1) (by omega)
  have h14 : t.kind ≠ 14 := by omega
  simpa [ableF, hr, hk, h14] using this
theorem AbleIs.base {M : WM} {s r v : Int} {t : Th} (h : AbleIs M s r v) (hr : M.at r = some t) (h14 : ¬ t.kind = 14) (hk : ¬ (t.kind = 15 ∨ t.kind = 16)) : v = meet2 s (canM t.kind) := by
  obtain ⟨f, h⟩ := h
  have := h (f + 1) (by omega)
  simpa [ableF, hr, hk, h14] using this.symm
theorem AbleIs.mk_none {M : WM} {s r : Int} (hr : M.at r = .none) : AbleIs M s r 0 := ⟨1, fun f hf => by obtain ⟨g, rfl⟩ : ∃ g, f = g + 1 := ⟨f - 1, by omega⟩; simp [ableF, hr]⟩
theorem AbleIs.mk_facet {M : WM} {s r v : Int} {t : Th} (hr : M.at r = some t) (hk : t.kind = 14) (h : AbleIs M (meet2 s t.set) t.tgt v) : AbleIs M s r v := by
  obtain ⟨f0, h⟩ := h
  exact ⟨f0 + 1, fun f hf => by obtain ⟨g, rfl⟩ : ∃ g, f = g + 1 := ⟨f - 1, by omega⟩; simp [ableF, hr, hk, h g (by omega)]⟩
theorem AbleIs.mk_wrap {M : WM} {s r v : Int} {t : Th} (hr : M.at r = some t) (hk : t.kind = 15 ∨ t.kind = 16) (h : AbleIs M s t.tgt v) : AbleIs M s r v := by
  obtain ⟨f0, h⟩ := h
  have h14 : t.kind ≠ 14 := by omega
  exact ⟨f0 + 1, fun f hf => by obtain ⟨g, rfl⟩ : ∃ g, f = g + 1 := ⟨f - 1, by omega⟩; simp [ableF, hr, hk, h14, h g (by omega)]⟩
theorem AbleIs.mk_base {M : WM} {s r : Int} {t : Th} (hr : M.at r = some t) (h14 : ¬ t.kind = 14) (hk : ¬ (t.kind = 15 ∨ t.kind = 16)) : AbleIs M s r (meet2 s (canM t.kind)) :=
  ⟨1, fun f hf => by obtain ⟨g, rfl⟩ : ∃ g, f = g + 1 := ⟨f - 1, by omega⟩; simp [ableF, hr, hk, h14]⟩

theorem able_ex {M : WM} (hok : M.ok) (s r : Int) : ∃ v, AbleIs M s r v := by
  obtain ⟨rk, -, hrk⟩ := hok.wrap
  generalize hm : rk r = m
  induction m using Nat.strongRecOn generalizing s r with
  | ind m ih =>
    subst hm
    cases hr : M.at r with
    | none => exact ⟨0, AbleIs.mk_none hr⟩
    | some t =>
      by_cases h14 : t.kind = 14
      · obtain ⟨v, hv⟩ := ih _ (hrk r t hr (by simp [wrapsB, h14])).2 (meet2 s t.set) t.tgt rfl
        exact ⟨v, AbleIs.mk_facet hr h14 hv⟩
      · by_cases hk : t.kind = 15 ∨ t.kind = 16
        · obtain ⟨v, hv⟩ := ih _ (hrk r t hr (by rcases hk with h | h <;> simp [wrapsB, h])).2 s t.tgt rfl
          exact ⟨v, AbleIs.mk_wrap hr hk hv⟩
        · exact ⟨_, AbleIs.mk_base hr h14 hk⟩

set_option maxRecDepth 4000 in
theorem Able_W {w : World} {p : Nat} {M : WM} {F : Nat → Prop} (hW : IsW w p M F) {r v : Int} (hr : (Lit.int .i64 r).wf = true) (hv : AbleIs M 63 r v) :
    Calls Tryz.prog 33 #[.pointer (some ⟨p, 0, none⟩), .int .i64 r] w fun e w' => e = .returned (.int .u8 v) ∧ Below w.heap.size w w' := by
  obtain ⟨rk, -, hrk⟩ := hW.ok.wrap
  have HW := (show Hid (IsW w p M F) from hW)
  clear hW
  have Hv := (show Hid (AbleIs M 63 r v) from hv)
  clear hv
  have Hrk := (show Hid (∀ (r : Int) (t : Th), M.at r = some t → wrapsB t.kind = true → (∃ u, M.at t.tgt = some u) ∧ rk t.tgt < rk r) from hrk)
  clear hrk
  go_enter Tryz.func33, Tryz.ntmps33
  go_wp2
  go_step3
  go_wp2
  go_step3
  go_wp2
  go_loopw [1, 5] (fun vr vs wr => ∃ q s, vr = .int .i64 q ∧ vs = .int .u8 s ∧ (Lit.int .i64 q).wf = true ∧ AbleIs M s q v ∧ Below w.heap.size w wr) (fun vr _ _ => rk (intOf vr))
  case atStart => exact ⟨r, 63, rfl, rfl, hr, Hv.out, Below.refl _ _⟩
  case round =>
    obtain ⟨q, s, rfl, rfl, hq, hv, hB⟩ := hrel
    have Hv := (show Hid (AbleIs M s q v) from hv)
    have HB := (show Hid (Below w.heap.size w wr) from hB)
    have hWr := HW.out.below hB
    have hn := Is_W hWr hq
    clear hv hB
    obtain ⟨pa, pc, cg, cc, mg, mc, tb, fb, fn, bl, h⟩ := id hWr
    have c2 := h.c2
    have hl := h.look hq
    cases ha : M.at q with
    | none =>
      rw [ha] at hn
      clear hl
      go_wp2_with (go_at_call 46; refine hn.mono ?_; rintro e w' ⟨rfl, rfl⟩)
      rw [Exit.noGoto_ret]
      go_ret
      exact ⟨by rw [Hv.out.none ha]; rfl, HB.out⟩
    | some t =>
      rw [ha] at hl hn
      simp only [Option.map_some] at hl
      obtain ⟨k0, -, -, -, k6, -, k8, -⟩ := thc_cell (h.blk q t ha).1
      have hwf := h.ok.wf q t ha
      have htgt := hwf.tgt
      have k6a := fun o => cell_al k6 o
      by_cases h14 : t.kind = 14
      · have H14 : Hid (t.kind = 14) := h14
        rw [h14] at k0
        clear h14 hwf
        go_wp2_with (first | (go_at_call 46; refine hn.mono ?_; rintro e w' ⟨rfl, rfl⟩) | (go_at_call 67; refine (Meet_new _ _ _).mono ?_; rintro e w' ⟨rfl, rfl⟩))
        go_roundw
        case rel => exact ⟨t.tgt, _, rfl, rfl, htgt, Hv.out.facet ha H14.out, HB.out.alloc HB.out.size _⟩
        case measure => exact (Hrk.out q t ha (by simp [wrapsB, H14.out])).2
      · by_cases hk : t.kind = 15 ∨ t.kind = 16
        · have H14 : Hid (t.kind = 15 ∨ t.kind = 16) := hk
          clear h14 hwf
          rcases hk with h15 | h16
          · rw [h15] at k0
            clear h15
            go_wp2_with (go_at_call 46; refine hn.mono ?_; rintro e w' ⟨rfl, rfl⟩)
            go_roundw
            case rel => exact ⟨t.tgt, _, rfl, rfl, htgt, Hv.out.wrap ha H14.out, HB.out⟩
            case measure => exact (Hrk.out q t ha (by rcases H14.out with h | h <;> simp [wrapsB, h])).2
          · rw [h16] at k0
            clear h16
            go_wp2_with (go_at_call 46; refine hn.mono ?_; rintro e w' ⟨rfl, rfl⟩)
            go_roundw
            case rel => exact ⟨t.tgt, _, rfl, rfl, htgt, Hv.out.wrap ha H14.out, HB.out⟩
            case measure => exact (Hrk.out q t ha (by rcases H14.out with h | h <;> simp [wrapsB, h])).2
        · have g14 : (t.kind == 14) = false := by simp [h14]
          have g15 : (t.kind == 15) = false := by simp; omega
          have g16 : (t.kind == 16) = false := by simp; omega
          have H : Hid (v = meet2 s (canM t.kind)) := Hv.out.base ha h14 hk
          clear h14 hk hwf
          go_wp2_with (first | (go_at_call 46; refine hn.mono ?_; rintro e w' ⟨rfl, rfl⟩) | (go_at_call 67; refine (Meet_new _ _ _).mono ?_; rintro e w' ⟨rfl, rfl⟩) | (go_at_call 68; refine (can_W _ _).mono ?_; rintro e w1 ⟨rfl, hb1⟩))
          rw [Exit.noGoto_ret]
          go_ret
          exact ⟨by rw [H.out]; rfl, (HB.out.trans (hb1.mono HB.out.size)).alloc (Nat.le_trans HB.out.size hb1.size) _⟩
end Go.Proofs.YtmefjkggibbhoaaGreat
/- The way of a thing, its base. -/
namespace Go.Proofs.YtmefjkggibbhoaaGreat
open Go.RowKit Go.ChangeMaps Go.MapKept

def wayF (M : WM) : Nat → Int → List Int
  | 0, _ => []
  | f + 1, r => match M.at r with
    | none => []
    | some t => r :: (if wrapsB t.kind = true then wayF M f t.tgt else [])
def WayIs (M : WM) (r : Int) (l : List Int) : Prop := ∃ f0, ∀ f, f0 ≤ f → wayF M f r = l

theorem WayIs.uniq {M : WM} {r : Int} {l l' : List Int} (h : WayIs M r l) (h' : WayIs M r l') : l = l' := by
  obtain ⟨f, h⟩ := h
  obtain ⟨f', h'⟩ := h'
  exact (h (f + f') (by omega)).symm.trans (h' (f + f') (by omega))
theorem WayIs.none {M : WM} {r : Int} {l : List Int} (h : WayIs M r l) (hr : M.at r = none) : l = [] := by
  obtain ⟨f, h⟩ := h
  have := h (f + 1) (by omega)
  simpa [wayF, hr] using this.symm
theorem WayIs.wrap {M : WM} {r : Int} {l : List Int} {t : Th} (h : WayIs M r l) (hr : M.at r = some t) (hk : wrapsB t.kind = true) : ∃ l', l = r :: l' ∧ WayIs M t.tgt l' := by
  obtain ⟨f, h⟩ := h
  have h1 := h (f + 1) (by omega)
  refine ⟨wayF M f t.tgt, by simpa [wayF, hr, hk] using h1.symm, f, fun g hg => ?_⟩
  have h2 := h (g + 1) (by omega)
  rw [← h1] at h2
  simpa [wayF, hr, hk] using h2
theorem WayIs.base {M : WM} {r : Int} {l : List Int} {t : Th} (h : WayIs M r l) (hr : M.at r = some t) (hk : wrapsB t.kind = false) : l = [r] := by
  obtain ⟨f, h⟩ := h
  have h1 := h (f + 1) (by omega)
  simpa [wayF, hr, hk] using h1.symm
theorem WayIs.mk_none {M : WM} {r : Int} (hr : M.at r = .none) : WayIs M r [] := ⟨1, fun f hf => by obtain ⟨g, rfl⟩ : ∃ g, f = g + 1 := ⟨f - 1, by omega⟩; simp [wayF, hr]⟩
theorem WayIs.mk_wrap {M : WM} {r : Int} {l : List Int} {t : Th} (hr : M.at r = some t) (hk : wrapsB t.kind = true) (h : WayIs M t.tgt l) : WayIs M r (r :: l) := by
  obtain ⟨f0, h⟩ := h
  exact ⟨f0 + 1, fun f hf => by obtain ⟨g, rfl⟩ : ∃ g, f = g + 1 := ⟨f - 1, by omega⟩; simp [wayF, hr, hk, h g (by omega)]⟩
theorem WayIs.mk_base {M : WM} {r : Int} {t : Th} (hr : M.at r = some t) (hk : wrapsB t.kind = false) : WayIs M r [r] :=
  ⟨1, fun f hf => by obtain ⟨g, rfl⟩ : ∃ g, f = g + 1 := ⟨f - 1, by omega⟩; simp [wayF, hr, hk]⟩

theorem way_ex {M : WM} (hok : M.ok) (r : Int) : ∃ l, WayIs M r l ∧ (l.length : Int) ≤ M.last + 1 := by
  obtain ⟨rk, hrk0, hrk⟩ := hok.wrap
  have hl := hok.last
  suffices h : ∃ l, WayIs M r l ∧ l.length ≤ rk r + 1 by
    obtain ⟨l, h1, h2⟩ := h
    have := hrk0 r
    exact ⟨l, h1, by omega⟩
  generalize hm : rk r = m
  induction m using Nat.strongRecOn generalizing r with
  | ind m ih =>
    subst hm
    cases hr : M.at r with
    | none => exact ⟨[], WayIs.mk_none hr, by simp⟩
    | some t =>
      cases hk : wrapsB t.kind with
      | true =>
        obtain ⟨l, h1, h2⟩ := ih _ (hrk r t hr hk).2 t.tgt rfl
        have := (hrk r t hr hk).2
        exact ⟨_, WayIs.mk_wrap hr hk h1, by simp; omega⟩
      | false => exact ⟨_, WayIs.mk_base hr hk, by simp⟩


set_option maxRecDepth 20000 in
theorem Way_W {w : World} {p : Nat} {M : WM} {F : Nat → Prop} (hW : IsW w p M F) {r : Int} {l : List Int} (hr : (Lit.int .i64 r).wf = true) (hl : WayIs M r l) :
    Calls Tryz.prog 70 #[.pointer (some ⟨p, 0, none⟩), .int .i64 r] w fun e w' => ∃ v, e = .returned v ∧ w'.ownsRow w.heap.size 35 1 v l.length (l.map (Value.int .i64)) ∧ Below w.heap.size w w' := by
  have Hb : Hid ((l.length : Int) ≤ 1099511627777) := by
    obtain ⟨l', h1, h2⟩ := way_ex hW.ok r
    obtain rfl := hl.uniq h1
    have := hW.ok.last
    show _ ≤ _
    omega
  obtain ⟨rk, -, hrk⟩ := hW.ok.wrap
  obtain ⟨pa, pc, cg, cc, mg, mc, tb, fb, fn, bl, hW⟩ := hW
  have HW := (show Hid (WV w p M F pa pc cg cc mg mc tb fb fn bl) from hW)
  have Hl := (show Hid (WayIs M r l) from hl)
  have Hrk := (show Hid (∀ (r : Int) (t : Th), M.at r = some t → wrapsB t.kind = true → (∃ u, M.at t.tgt = some u) ∧ rk t.tgt < rk r) from hrk)
  clear hW hl hrk
  go_enter Tryz.func70, Tryz.ntmps70
  go_wp2
  go_loopw [1, 5] (fun vr vs wr => ∃ q pre rest, vr = .int .i64 q ∧ (Lit.int .i64 q).wf = true ∧ Hid (WayIs M q rest) ∧ Hid (l = pre ++ rest) ∧ wr.ownsRow w.heap.size 35 1 vs pre.length (pre.map (Value.int .i64)) ∧ Below w.heap.size w wr) (fun vr _ _ => rk (intOf vr))
  case atStart => exact ⟨r, [], l, rfl, hr, Hl.out, rfl, World.ownsRow_nil _ _ _ _, Below.refl _ _⟩
  case round =>
    obtain ⟨q, pre, rest, rfl, hq, Hv, He, hown, hB⟩ := hrel
    have HB := (show Hid (Below w.heap.size w wr) from hB)
    have h := HW.out.below hB
    have hsz := hB.size
    have hn := Is_W ⟨_, _, _, _, _, _, _, _, _, _, h⟩ hq
    clear hB
    have c2 := h.c2
    have hl := h.look hq
    cases ha : M.at q with
    | none =>
      rw [ha] at hn
      clear hl
      go_wp2_with (go_at_call 46; refine hn.mono ?_; rintro e w' ⟨rfl, rfl⟩)
      go_ret
      have e1 : l = pre := by
        have := He.out
        rw [Hv.out.none ha] at this
        simpa using this
      exact ⟨_, rfl, by rw [e1]; exact hown, HB.out⟩
    | some t =>
      rw [ha] at hn
      clear hl c2
      have htgt := (h.ok.wf q t ha).tgt
      have Hp : Hid ((pre.length : Int) ≤ 1099511627777) := by
        show _ ≤ _
        have h1 := Hb.out
        have h2 := He.out
        cases hk : wrapsB t.kind with
        | true =>
          obtain ⟨l', e1, _⟩ := Hv.out.wrap ha hk
          rw [h2, e1] at h1
          simp at h1
          omega
        | false =>
          rw [h2, Hv.out.base ha hk] at h1
          simp at h1
          omega
      clear h
      have hwr := fun W => wraps_W t.kind W
      cases hk : wrapsB t.kind with
      | false =>
        have Hk : Hid (wrapsB t.kind = false) := hk
        rw [hk] at hwr
        clear hk
        go_wp2_with (first
          | (go_at_call 46; refine hn.mono ?_; rintro e w' ⟨rfl, rfl⟩)
          | (at_builtin; refine append_ref rfl _ _ rfl w.heap.size _ pre rfl hown q rfl Hp hsz ?_; intro v' w1 hown' _ hb1; have hB1 : Below w.heap.size w w1 := HB.out.trans hb1; have HB1 := (show Hid (Below w.heap.size w w1) from hB1); have h1 := HW.out.below hB1; have c2 := h1.c2; have hl := h1.look hq; rw [ha] at hl; simp only [Option.map_some] at hl; obtain ⟨k0, -, -, -, k6, -, -, -⟩ := thc_cell (h1.blk q t ha).1; clear h1 hB1 hb1)
          | (go_at_call 92; refine (hwr _).mono ?_; rintro e w' ⟨rfl, rfl⟩))
        go_ret
        have e1 : l = pre ++ [q] := by rw [He.out, Hv.out.base ha Hk.out]
        exact ⟨_, rfl, by rw [e1]; exact hown', HB1.out⟩
      | true =>
        have Hk : Hid (wrapsB t.kind = true) := hk
        rw [hk] at hwr
        clear hk
        go_wp2_with (first
          | (go_at_call 46; refine hn.mono ?_; rintro e w' ⟨rfl, rfl⟩)
          | (at_builtin; refine append_ref rfl _ _ rfl w.heap.size _ pre rfl hown q rfl Hp hsz ?_; intro v' w1 hown' _ hb1; have hB1 : Below w.heap.size w w1 := HB.out.trans hb1; have HB1 := (show Hid (Below w.heap.size w w1) from hB1); have h1 := HW.out.below hB1; have c2 := h1.c2; have hl := h1.look hq; rw [ha] at hl; simp only [Option.map_some] at hl; obtain ⟨k0, -, -, -, k6, -, -, -⟩ := thc_cell (h1.blk q t ha).1; clear h1 hB1 hb1)
          | (go_at_call 92; refine (hwr _).mono ?_; rintro e w' ⟨rfl, rfl⟩))
        go_roundw
        case rel =>
          obtain ⟨l', e1, hl'⟩ := Hv.out.wrap ha Hk.out
          refine ⟨t.tgt, pre ++ [q], l', rfl, htgt, hl', ?_, hown', HB1.out⟩
          show _ = _
          rw [He.out, e1]
          simp
        case measure => exact (Hrk.out q t ha Hk.out).2


end Go.Proofs.YtmefjkggibbhoaaGreat
