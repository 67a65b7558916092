/- A part of the proof, several texts in one: ConW. -/
import Derived.Test.YtmefjkggibbhoaaGreatmAV
import Derived.Test.YtmefjkggibbhoaaGreatmAY
/- PurseConserved: the walk. -/
namespace Go.Proofs.YtmefjkggibbhoaaGreat
open Go.RowKit Go.ChangeMaps Go.MapKept

theorem tree0' : TreeOk [0] := ⟨by decide, fun i p h => by
  match i, h with
  | 0, h => simp at h; subst h; decide⟩
/-! ### a trade, read and written at once -/
abbrev Trd := Int × Int × Int × Int
def trc (t : Trd) : List Value := [.int .i64 t.1, .int .i64 t.2.1, .int .i64 t.2.2.1, .int .i64 t.2.2.2]
theorem sizeT : (Tryz.prog.info? 80).map (·.size) = some 4 := by kernel_rfl
def ldT (a : Value) : Sem Next := do pure (.value (← Instr.loadAt 80 a))
def stT (a x : Value) : Sem Next := do Instr.storeAt 80 a x; pure .skip
@[go_sem ↓] theorem execOp_ldT (ρ : Operand → Value) (d : Option Tmp) (a : Operand) (ty : TypeId) (pos : String) (af : Array Edge) (g : Option (Nat × Bool)) :
    execOp ρ { dst := d, op := .load 80 a, type := ty, pos := pos, after := af, guard := g } = ldT (ρ a) := rfl
@[go_sem ↓] theorem execOp_stT (ρ : Operand → Value) (d : Option Tmp) (a x : Operand) (ty : TypeId) (pos : String) (af : Array Edge) (g : Option (Nat × Bool)) :
    execOp ρ { dst := d, op := .store 80 a x, type := ty, pos := pos, after := af, guard := g } = stT (ρ a) (ρ x) := rfl
theorem loadT_mid {w : World} {b o : Nat} {cs : List Value} (hc : w.rangeAt b o cs) (hs : cs.length = 4) : (ldT (.pointer (some ⟨b, o, none⟩))).run Tryz.prog w = .ok (.value (.agg cs.toArray)) w := by
  have := run_loadAt_mid w b o 80 cs _ hc Tryz.underlying80 rfl (by rw [hs]; exact sizeT)
  simp only [ldT, Sem.run_bind, this, Result.andThen, Sem.run_pure]
theorem storeT_blk {w : World} {b : Nat} {c c' : Array Value} (hg : w.heap[b]? = some (.cells c 80 (0, 0))) (hs : c.size = 4) (hs' : c'.size = 4) (h1 : c'.all (·.oneCell') = true) :
    (stT (.pointer (some ⟨b, 0, none⟩)) (.agg c')).run Tryz.prog w = .ok .skip (w.setRow b c') := by
  have := run_storeAt_blk (P := Tryz.prog) hg (by rw [hs']; exact sizeT) (by rw [hs, hs']) h1
  simp only [stT, Sem.run_bind, this, Result.andThen, Sem.run_pure]
theorem boxed_trd (w1 : World) (t : Trd) :
    ∃ w2, (stT (.pointer (some ⟨w1.heap.size, 0, none⟩)) (.agg (trc t).toArray)).run Tryz.prog (w1.alloc (.cells #[.int .i64 0, .int .i64 0, .int .i64 0, .int .i64 0] 80)) = .ok .skip w2 ∧
      Below w1.heap.size w1 w2 ∧ w2.heap[w1.heap.size]? = some (.cells (trc t).toArray 80 (0, 0)) :=
  ⟨_, storeT_blk (blk_new w1 _) rfl rfl (by simp [trc, go_sem]), Below.setRow ((Below.refl _ _).alloc (Nat.le_refl _) _) (Nat.le_refl _) _, heap_setRow_at (blk_new w1 _)⟩
/-- The script, where it lies. -/
def TrArg (w : World) (sa : Option Addr) (ts : List Trd) : Prop := ts = [] ∨ ∃ b o, sa = some ⟨b, o, none⟩ ∧ b < w.heap.size ∧ ∀ (j : Nat) (t : Trd), ts[j]? = some t → w.rangeAt b (o + j * 4) (trc t)
theorem rangeAt_below {w w' : World} {b o : Nat} {cs : List Value} (h : w.rangeAt b o cs) (hb : Below w.heap.size w w') (hlt : b < w.heap.size) : w'.rangeAt b o cs := fun j v hv => (hb.cell (p := ⟨b, o + j, none⟩) hlt).trans (h j v hv)
theorem TrArg.at {w : World} {sa : Option Addr} {ts : List Trd} (h : TrArg w sa ts) {j : Nat} {t : Trd} (ht : ts[j]? = some t) : ∃ b o, sa = some ⟨b, o, none⟩ ∧ ∀ w', Below w.heap.size w w' → w'.rangeAt b (o + j * 4) (trc t) := by
  rcases h with rfl | ⟨b, o, h1, h2, h3⟩
  · cases ht
  · exact ⟨b, o, h1, fun w' hb => rangeAt_below (h3 j t ht) hb h2⟩

theorem Pu.new : Pu (WM.new [0]) 0 where
  mlen := rfl
  last := rfl
  all r h1 h2 := by omega
  kinds r t h := by cases h
  room := by decide

theorem rem_bound2 (y : Int) {m : Nat} (h0 : 0 < m) (h1 : m ≤ 1000) : ∃ q : Nat, (y.tmod m + m).tmod m = (q : Int) ∧ q < m ∧ wrap64 (y.tmod m + m) = y.tmod m + m := by
  have hz : (0 : Int) < (m : Int) := by omega
  have h1 := Int.tmod_lt_of_pos y hz
  have h2 := Int.lt_tmod_of_pos y hz
  have h3 := Int.tmod_nonneg (m : Int) (show 0 ≤ y.tmod m + m by omega)
  have h4 := Int.tmod_lt_of_pos (y.tmod m + m) hz
  refine ⟨((y.tmod m + m).tmod m).toNat, by omega, by omega, ?_⟩
  unfold wrap64
  omega
theorem row_succ' {w : World} {base : Nat} {e : TypeId} {v : Value} {n : Nat} {xs : List Value} (h : w.ownsRow base e 1 v (n + 1) xs) : ∃ g cap, v = .slice (some ⟨g, 0, none⟩) (n + 1) cap := by
  rcases h.2 with ⟨-, h0⟩ | ⟨g, cap, cur, e, -⟩
  · cases h0
  · exact ⟨g, cap, e⟩

set_option maxHeartbeats 16000000 in
set_option maxRecDepth 100000 in
theorem con_W (w : World) (mc : Int) (hmc : 0 ≤ mc ∧ mc ≤ 255) (sa : Option Addr) (n c : Nat) (ts : List Trd) (hs : TrArg w sa ts) (hwf : ∀ t ∈ ts, (Lit.int .i64 t.2.1).wf = true ∧ (Lit.int .i64 t.2.2.1).wf = true) (hn : n = ts.length) :
    Calls Tryz.prog 6 #[.int .u8 mc, .slice sa n c] w fun e w' => e = .returned (.bool true) ∧ Below w.heap.size w w' := by
  have hmm := @run_makeMap Tryz.prog
  have HS := (show Hid (TrArg w sa ts) from hs)
  have HWF := (show Hid (∀ t ∈ ts, (Lit.int .i64 t.2.1).wf = true ∧ (Lit.int .i64 t.2.2.1).wf = true) from hwf)
  have Hn := (show Hid (n = ts.length) from hn)
  obtain ⟨mc0, mc1⟩ := hmc
  clear hs hwf hn
  go_enter Tryz.func6, Tryz.ntmps6
  go_wp2_with fail
  refine (New_W _ _ 1 [0] (.inr ⟨w.heap.size, 0, rfl, fun j x hx => ?_⟩)).mono ?_
  · rw [cell_blk (blk_new w _)]
    match j, hx with
    | 0, hx => simpa using hx
  rintro e w1 hpost
  obtain ⟨p, F, rfl, hW, hF, hb⟩ := (Or.resolve_right hpost (fun h => h.1 tree0')).2
  clear hpost
  have hb1 : Below w.heap.size w w1 := ((Below.refl _ _).alloc (Nat.le_refl _) _).trans (hb.mono (by simp))
  have HO : Hid (Own w w1 p (WM.new [0])) := ⟨F, hW, fun b h => by have := hF b h; simp at this; omega, hb1⟩
  have HB1 := (show Hid (Below w.heap.size w w1) from hb1)
  clear hW hF hb hb1
  by_cases hbig : n ≤ 150
  rotate_left
  · have hbz : (n : Int) > 150 := by omega
    go_wp2_with fail
    refine (lives10_W _).mono ?_
    rintro e w5 ⟨rfl, hb⟩
    have HE : Hid (Below w.heap.size w w5) := HB1.out.trans (hb.mono HB1.out.size)
    clear hb
    go_wp2_with fail
    go_ret
    exact ⟨rfl, HE⟩
  have hbz : ¬ ((n : Int) > 150) := by omega
  have HC : Hid (ConS w p (WM.new [0]) 0 (.slice none 0 0) w1.heap.size (muF (WM.new [0])) 0 (w1.alloc (.map #[] 0))) := by
    obtain ⟨F, h1, h2, h3⟩ := HO.out
    have hb : Below w1.heap.size w1 (w1.alloc (.map #[] 0)) := (Below.refl _ w1).alloc (Nat.le_refl _) _
    refine ⟨⟨F, h1.below hb, h2, h3.trans (hb.mono h3.size), fun b hb => ?_⟩, World.ownsRow_nil _ _ _ _, ⟨0, Nat.le_refl _, (HasMap.made w1 Tryz.prog 35).congr (fun key kl _ => by unfold muF; split <;> rfl)⟩, h3.size⟩
    rcases hb with hb | rfl
    · cases hb
    · exact ⟨fun h => by have := h1.lt _ h; omega, by simp⟩
  clear HO
  go_wp2_with fail
  revert HC
  generalize w1.alloc _ = w2
  generalize w1.heap.size = mb
  intro HC
  clear HB1 w1 hbz
  go_loopw [7, 9] (fun v7 vi wr => ∃ (i : Nat) (M : WM), vi = .int .i64 i ∧ i ≤ 4 ∧ (i : Int) ≤ mc % 4 + 1 ∧ Hid (Pu M i) ∧ Hid (ConS w p M i v7 mb (muF M) i wr)) (fun _ vi _ => 5 - (intOf vi).toNat)
  case atStart => exact ⟨0, WM.new [0], rfl, by omega, by omega, Pu.new, HC⟩
  case round =>
    clear HC
    obtain ⟨i, M, rfl, hi, hi2, HP, HC⟩ := hrel
    by_cases him : (i : Int) < mc % 4 + 1
    · obtain ⟨F, hW, hstep⟩ := HC.out.step
      have hM := hW.ok
      have hlast := HP.out.last
      have hroom := HP.out.room
      have home : 0 ≤ (i : Int) % 2 ∧ (i : Int) % 2 < M.made.length := by
        rw [HP.out.mlen]
        omega
      have hmt := Mint_W hW (by omega) home
      have HMT := (show Hid _ from hmt)
      have HST := (show Hid _ from hstep)
      have HM := (show Hid M.ok from hM)
      have Hroom : Hid (M.made.getD ((i : Int) % 2).toNat 0 < 512) := by
        have : ((i : Int) % 2).toNat = 0 ∨ ((i : Int) % 2).toNat = 1 := by omega
        show _ < _
        rcases this with e | e <;> rw [e] <;> omega
      have Hr : Hid (M.last + 1 = (i : Int) + 1) := by show _ = _; omega
      have Hhome := (show Hid (0 ≤ (i : Int) % 2 ∧ (i : Int) % 2 ≤ 1) from ⟨by omega, by omega⟩)
      clear hW hstep hM hlast hroom home hmt
      go_wp2_with fail
      refine Calls.mono HMT.out ?_
      rintro e w5 (⟨-, rfl, F', hW', hg⟩ | ⟨hx, -, -⟩)
      rotate_left
      · exact absurd Hroom.out hx
      rw [makeM, if_neg (by simp)] at hW'
      rw [Hr.out]
      have HC5 := (show Hid (ConS w p (M.add (mintT ((i : Int) % 2) 0 0)) i u7 mb (muF M) i w5) from HST.out _ _ _ hW' hg)
      have HP5 := (show Hid (Pu (M.add (mintT ((i : Int) % 2) 0 0)) (i + 1)) from HP.out.mint HM.out Hhome.out)
      have HR := (show Hid (w5.ownsRow w.heap.size 35 1 u7 i ((refs1 i).map (Value.int .i64))) from HC5.out.row)
      have Hbs := (show Hid (w.heap.size ≤ w5.heap.size) from HC5.out.base.size)
      have Hnn := (show Hid ((i : Int) ≤ 1099511627776) from (show (i : Int) ≤ 1099511627776 by omega))
      clear hW' hg HMT HST HC Hroom
      have Hmu := (show Hid _ from muF_mint HM.out ((i : Int) % 2))
      rw [Hr.out] at Hmu
      go_wp2_with (at_builtin; refine append_refS rfl _ _ rfl w.heap.size u7 (refs1 i) i rfl HR ((i : Int) + 1) rfl Hnn Hbs ?_; intro v' w6 hrow hg hown
                   obtain ⟨g5, cap5, h5⟩ := row_succ' hrow.out
                   subst h5
                   have HC6 : Hid (ConS w p (M.add (mintT ((i : Int) % 2) 0 0)) (i + 1) (.slice (some ⟨g5, 0, none⟩) (i + 1) cap5) mb (muF M) i w6) := HC5.out.append hg.out hrow.out hown.out
                   obtain ⟨w7, hrun, hC7⟩ := HC6.out.store (r := (i : Int) + 1) (n := 0) (WalkArith.wf_i64 (by omega)) Hmu.out.1 Hmu.out.2 (by omega)
                   have HC7 := (show Hid (ConS w p (M.add (mintT ((i : Int) % 2) 0 0)) (i + 1) (.slice (some ⟨g5, 0, none⟩) (i + 1) cap5) mb (muF (M.add (mintT ((i : Int) % 2) 0 0))) (i + 1) w7) from hC7)
                   clear hrow hg hown HC6 hC7)
      clear HC5 HR Hbs Hmu hrun
      go_roundw
      case rel => exact ⟨i + 1, _, by go_num, by omega, by omega, HP5, HC7⟩
      case measure =>
        simp [intOf]
        omega
    · obtain ⟨m0, hm0⟩ : ∃ m0 : Nat, m0 = i ∧ 1 ≤ m0 := ⟨i, rfl, by omega⟩
      have hn1 : ¬ (i : Int) < mc % 4 + 1 := him
      have Hm0 := (show Hid (1 ≤ i) from (show 1 ≤ i by omega))
      clear hm0 m0 hi2
      go_wp2_with fail
      go_loopw [7, 12] (fun v7 vi wx => ∃ (j m B : Nat) (M : WM), vi = .int .i64 j ∧ j ≤ n ∧ 1 ≤ m ∧ m ≤ 4 + j ∧ B ≤ 4 + j ∧ Hid (Pu M m) ∧ Hid (ConS w p M m v7 mb (muF M) B wx)) (fun _ vi _ => n - (intOf vi).toNat)
      case atStart => exact ⟨0, i, i, M, rfl, by omega, Hm0.out, by omega, by omega, HP, HC⟩
      case round =>
        clear HC HP Hm0 him hn1 hi
        clear M
        obtain ⟨j, m, B, M, rfl, hj, hm0, hm4, hB, HP, HC⟩ := hrel
        by_cases hjn : j < n
        · have hjz : (j : Int) < (n : Int) := by omega
          obtain ⟨⟨th, tA, tB, tN⟩, htj⟩ : ∃ t, ts[j]? = some t := ⟨_, List.getElem?_eq_getElem (by have := Hn.out; omega)⟩
          obtain ⟨bt, ot, rfl, hrg⟩ := HS.out.at htj
          have hld := loadT_mid (hrg wr HC.out.base) rfl
          obtain ⟨F, hW, hstep⟩ := HC.out.step
          have HWr := (show Hid (IsW wr p M F) from hW)
          have HSTr := (show Hid (∀ w' M' F', IsW w' p M' F' → Grew F wr F' w' → ConS w p M' m u7 mb (muF M) B w') from hstep)
          obtain ⟨w3, hst, hb3, hg3⟩ := boxed_trd wr (th, tA, tB, tN)
          have HC3 := (show Hid (ConS w p M m u7 mb (muF M) B w3) from HC.out.below hb3)
          have HB3 := (show Hid (Below wr.heap.size wr w3) from hb3)
          obtain ⟨g, cap, hv, hc0⟩ := HC3.out.cell (i := 0) (by omega)
          subst hv
          have mz : ¬ (m : Int) = 0 := by omega
          have mz2 : ((m : Int) == -1) = false := by
            simp
          have hm1000 : m ≤ 1000 := by omega
          obtain ⟨ka, a1, a2, a3⟩ := rem_bound2 tA (show 0 < m by omega) hm1000
          obtain ⟨kb, b1, b2, b3⟩ := rem_bound2 tB (show 0 < m by omega) hm1000
          have hca : w3.cell? ⟨g, ka, none⟩ = some (.int .i64 ((ka : Int) + 1)) := by
            obtain ⟨g', cap', e, h⟩ := HC3.out.cell (i := ka) a2
            cases e
            exact h
          have hcb : w3.cell? ⟨g, kb, none⟩ = some (.int .i64 ((kb : Int) + 1)) := by
            obtain ⟨g', cap', e, h⟩ := HC3.out.cell (i := kb) b2
            cases e
            exact h
          have d1 : w3.cell? ⟨wr.heap.size, 1, none⟩ = some (.int .i64 tA) := by rw [cell_blk hg3]; rfl
          have d2 : w3.cell? ⟨wr.heap.size, 2, none⟩ = some (.int .i64 tB) := by rw [cell_blk hg3]; rfl
          have az : (ka : Int) < (m : Int) := by omega
          have bz : (kb : Int) < (m : Int) := by omega
          have HG3 := (show Hid _ from hg3)
          clear htj hrg hb3 hg3 hc0 HC hW hstep
          go_wp2_with fail
          refine (Copy_W (HWr.out.below HB3.out) HP.out.lite).mono ?_
          rintro e w4 ⟨q, G, rfl, hWq, hG, hb4⟩
          have HC4 := (show Hid (ConS w p M m (.slice (some ⟨g, 0, none⟩) m cap) mb (muF M) B w4) from HC3.out.below hb4)
          have HQ := (show Hid (IsW w4 q M G) from hWq)
          have hg4 := below_blk hb4 HG3.out
          have d0 : w4.cell? ⟨wr.heap.size, 0, none⟩ = some (.int .i64 th) := by rw [cell_blk hg4]; rfl
          have d3 : w4.cell? ⟨wr.heap.size, 3, none⟩ = some (.int .i64 tN) := by rw [cell_blk hg4]; rfl
          have HG4 := (show Hid _ from hg4)
          have HB4 := (show Hid (Below wr.heap.size wr w4) from HB3.out.trans (hb4.mono HB3.out.size))
          clear hWq hG hb4 hg4 HC3 HG3 HB3 hca hcb d1 d2 hld hst mz mz2 a1 a3 b1 b3 az bz
          go_upto_block 4 with fail
          go_cut [17, 18] (fun vf vr wx => ∃ f r, vf = .int .i64 f ∧ vr = .int .i64 r ∧ Hid (AfterT w p m (.slice (some ⟨g, 0, none⟩) m cap) mb B w4 wx f r))
          case first =>
            have HT : Hid ((Lit.int .i64 ((ka : Int) + 1)).wf = true ∧ (Lit.int .i64 ((kb : Int) + 1)).wf = true) := ⟨WalkArith.wf_i64 (by omega), WalkArith.wf_i64 (by omega)⟩
            obtain ⟨ta, hta⟩ := HP.out.all ((ka : Int) + 1) (by omega) (by omega)
            obtain ⟨tb, htb⟩ := HP.out.all ((kb : Int) + 1) (by omega) (by omega)
            have HW := (show Hid (IsW w4 p M F) from HWr.out.below HB4.out)
            have HM := (show Hid M.ok from HWr.out.ok)
            have HST : Hid (∀ w' M' F', IsW w' p M' F' → Grew F w4 F' w' → ConS w p M' m (.slice (some ⟨g, 0, none⟩) m cap) mb (muF M) B w') := fun w' M' F' h1 h2 => HSTr.out _ _ _ h1 (Grew.of_below HB4.out h2)
            have HBX : Hid (∀ w' F', Grew F w4 F' w' → w'.heap[wr.heap.size]? = w4.heap[wr.heap.size]?) := fun w' F' h => h.1.block _ (blk_lt HG4.out) (fun e => by have := HWr.out.lt _ e; omega)
            have Hl : Hid (M.last + 1 ≤ 1099511627776 ∧ M.last + 1 = (m : Int) + 1) := by have := HP.out.last; exact ⟨by omega, by omega⟩
            have Hhome : Hid (∀ h : Int, 0 ≤ h → h ≤ 1 → (0 ≤ h ∧ h < M.made.length) ∧ M.made.getD h.toNat 0 < 512) := fun h h0 h1 => by
              have h2 := HP.out.mlen
              have h3 := HP.out.room
              refine ⟨by omega, ?_⟩
              have : h.toNat = 0 ∨ h.toNat = 1 := by omega
              rcases this with e | e <;> rw [e] <;> omega
            have HBm := (show Hid ((B : Int) ≤ 1099511627776) from (show (B : Int) ≤ 1099511627776 by omega))
            by_cases h0 : th = 0
            · subst h0
              rcases HP.out.kinds _ ta hta with ⟨hh, N, rfl, c0, c1, c2, c3, -⟩ | ⟨hh, N, qq, rfl, c0, c1, c2, -⟩
              · have Hta := (show Hid (M.at ((ka : Int) + 1) = some (mintT hh N 0)) from hta)
                have hask := Ask_W (n := tN) HW.out HT.out.1 Hl.out.1 (Hhome.out hh c0 c1).1 hta ⟨c2, c3⟩ ⟨Int.le_refl _, c2⟩
                have HASK := (show Hid _ from hask)
                have Hrm := (show Hid (M.made.getD hh.toNat 0 < 512) from (Hhome.out hh c0 c1).2)
                clear hask hta htb c0 c1
                go_wp2_with fail
                refine Calls.mono HASK.out ?_
                rintro e w5 (⟨-, rfl, hb5⟩ | ⟨-, rfl, hb5⟩ | ⟨-, hx, -⟩ | ⟨⟨q0, q1⟩, -, rfl, F', hW', hg⟩)
                · have HA : Hid (AfterT w p m (.slice (some ⟨g, 0, none⟩) m cap) mb B w4 w5 2 0) := .inl ⟨by decide, rfl, hb5⟩
                  clear hb5
                  go_wp2_with fail
                  go_meet
                  case rel => exact ⟨_, _, rfl, rfl, HA⟩
                · have HA : Hid (AfterT w p m (.slice (some ⟨g, 0, none⟩) m cap) mb B w4 w5 8 0) := .inl ⟨by decide, rfl, hb5⟩
                  clear hb5
                  go_wp2_with fail
                  go_meet
                  case rel => exact ⟨_, _, rfl, rfl, HA⟩
                · exact absurd Hrm.out hx
                · rw [Hl.out.2]
                  have HC5 := (show Hid (ConS w p _ m (.slice (some ⟨g, 0, none⟩) m cap) mb (muF M) B w5) from HST.out _ _ _ hW' hg)
                  have hmu := muF_ask (n := tN) HM.out Hta.out
                  have hlk := HC5.out.look2 HT.out.1 (muF_at Hta.out)
                  obtain ⟨w6, hrun, hC6⟩ := HC5.out.store HT.out.1 hmu.1 hmu.2 HBm.out
                  have d3' : w5.cell? ⟨wr.heap.size, 3, none⟩ = some (.int .i64 tN) := by rw [cell_blk ((HBX.out _ _ hg).trans HG4.out)]; rfl
                  have HA : Hid (AfterT w p m (.slice (some ⟨g, 0, none⟩) m cap) mb B w4 w6 0 ((m : Int) + 1)) := .inr (.inr ⟨rfl, rfl, _, HP.out.ask HM.out Hta.out q0 q1, hC6⟩)
                  clear hW' hg HC5 hmu hC6 HASK HST d3 d0
                  go_wp2_with fail
                  go_meet
                  case rel => exact ⟨_, _, rfl, rfl, HA⟩
              · have hask := Ask_not (x := tN) HW.out HT.out.1 hta
                have HASK := (show Hid _ from hask)
                clear hask hta htb c0 c1 c2
                go_wp2_with fail
                refine Calls.mono HASK.out ?_
                rintro e w5 ⟨rfl, hb5⟩
                have HA : Hid (AfterT w p m (.slice (some ⟨g, 0, none⟩) m cap) mb B w4 w5 100 0) := .inl ⟨by decide, rfl, hb5⟩
                clear hb5
                go_wp2_with fail
                go_meet
                case rel => exact ⟨_, _, rfl, rfl, HA⟩
            · have e0 : (th == 0) = false := by simpa using h0
              by_cases h1 : th = 1
              · subst h1
                rcases HP.out.kinds _ ta hta with ⟨hh, N, rfl, c0, c1, c2, c3, -⟩ | ⟨hh, N, qq, rfl, c0, c1, c2, N4, hN4⟩
                · have hask := Take_not (x := tN) HW.out HT.out.1 hta
                  have HASK := (show Hid _ from hask)
                  clear hask hta htb c0 c1 c2 c3
                  go_wp2_with fail
                  refine Calls.mono HASK.out ?_
                  rintro e w5 ⟨rfl, hb5⟩
                  have HA : Hid (AfterT w p m (.slice (some ⟨g, 0, none⟩) m cap) mb B w4 w5 100 0) := .inl ⟨by decide, rfl, hb5⟩
                  clear hb5
                  go_wp2_with fail
                  go_meet
                  case rel => exact ⟨_, _, rfl, rfl, HA⟩
                · have Hta := (show Hid (M.at ((ka : Int) + 1) = some (purseT hh N qq)) from hta)
                  have hask := Take_W (n := tN) HW.out HT.out.1 Hl.out.1 (Hhome.out hh c0 c1).1 hta hN4 (HP.out.purse_le HM.out hta)
                  have HASK := (show Hid _ from hask)
                  have Hrm := (show Hid (M.made.getD hh.toNat 0 < 512) from (Hhome.out hh c0 c1).2)
                  clear hask hta htb c0 c1 c2 hN4
                  go_wp2_with fail
                  refine Calls.mono HASK.out ?_
                  rintro e w5 (⟨-, rfl, hb5⟩ | ⟨-, rfl, hb5⟩ | ⟨-, hx, -⟩ | ⟨⟨q0, q1⟩, -, rfl, F', hW', hg⟩)
                  · have HA : Hid (AfterT w p m (.slice (some ⟨g, 0, none⟩) m cap) mb B w4 w5 2 0) := .inl ⟨by decide, rfl, hb5⟩
                    clear hb5
                    go_wp2_with fail
                    go_meet
                    case rel => exact ⟨_, _, rfl, rfl, HA⟩
                  · have HA : Hid (AfterT w p m (.slice (some ⟨g, 0, none⟩) m cap) mb B w4 w5 81 0) := .inl ⟨by decide, rfl, hb5⟩
                    clear hb5
                    go_wp2_with fail
                    go_meet
                    case rel => exact ⟨_, _, rfl, rfl, HA⟩
                  · exact absurd Hrm.out hx
                  · rw [Hl.out.2]
                    have HA : Hid (AfterT w p m (.slice (some ⟨g, 0, none⟩) m cap) mb B w4 w5 0 ((m : Int) + 1)) := .inr (.inr ⟨rfl, rfl, _, HP.out.take HM.out Hta.out q0 q1, ((HST.out _ _ _ hW' hg).keep (muF_take HM.out Hta.out)).more (Nat.le_succ _)⟩)
                    clear hW' hg HASK HST d3 d0
                    go_wp2_with fail
                    go_meet
                    case rel => exact ⟨_, _, rfl, rfl, HA⟩
              · have e1 : (th == 1) = false := by simpa using h1
                by_cases hpp : ∃ hh N qq h2 N2 q2, ta = purseT hh N qq ∧ tb = purseT h2 N2 q2
                · obtain ⟨hh, N, qq, h2, N2, q2, rfl, rfl⟩ := hpp
                  have Hta := (show Hid (M.at ((ka : Int) + 1) = some (purseT hh N qq)) from hta)
                  have Htb := (show Hid (M.at ((kb : Int) + 1) = some (purseT h2 N2 q2)) from htb)
                  obtain ⟨x0, x1⟩ : 0 ≤ hh ∧ hh ≤ 1 := by
                    rcases HP.out.kinds _ _ hta with ⟨_, _, e, -⟩ | ⟨_, _, _, e, y0, y1, -⟩
                    · cases e
                    · cases e
                      exact ⟨y0, y1⟩
                  obtain ⟨z0, z1⟩ : 0 ≤ h2 ∧ h2 ≤ 1 := by
                    rcases HP.out.kinds _ _ htb with ⟨_, _, e, -⟩ | ⟨_, _, _, e, y0, y1, -⟩
                    · cases e
                    · cases e
                      exact ⟨y0, y1⟩
                  have hask := Move_W HW.out hta htb (Hhome.out hh x0 x1).1 (Hhome.out h2 z0 z1).1 (HP.out.purse_le HM.out hta) (HP.out.purse_le HM.out htb)
                  have HASK := (show Hid _ from hask)
                  clear hask hta htb x0 x1 z0 z1 h0 h1
                  go_wp2_with fail
                  refine Calls.mono HASK.out ?_
                  rintro e w5 (⟨-, rfl, hb5⟩ | ⟨-, -, -, rfl, hb5⟩ | ⟨q0, rfl, -, rfl, hW', hg⟩)
                  · have HA : Hid (AfterT w p m (.slice (some ⟨g, 0, none⟩) m cap) mb B w4 w5 100 0) := .inl ⟨by decide, rfl, hb5⟩
                    clear hb5
                    go_wp2_with fail
                    go_meet
                    case rel => exact ⟨_, _, rfl, rfl, HA⟩
                  · have HA : Hid (AfterT w p m (.slice (some ⟨g, 0, none⟩) m cap) mb B w4 w5 8 0) := .inl ⟨by decide, rfl, hb5⟩
                    clear hb5
                    go_wp2_with fail
                    go_meet
                    case rel => exact ⟨_, _, rfl, rfl, HA⟩
                  · have HA : Hid (AfterT w p m (.slice (some ⟨g, 0, none⟩) m cap) mb B w4 w5 0 0) := .inr (.inl ⟨rfl, rfl, _, HP.out.move HM.out Hta.out Htb.out q0, ((HST.out _ _ _ hW' ⟨hg, fun _ h => .inl h⟩).keep (muF_move Hta.out Htb.out q0)).more (Nat.le_succ _)⟩)
                    clear hW' hg HASK HST d3 d0 q0
                    go_wp2_with fail
                    go_meet
                    case rel => exact ⟨_, _, rfl, rfl, HA⟩
                · have hask : Calls Tryz.prog 26 #[.pointer (some ⟨p, 0, none⟩), .int .i64 ((ka : Int) + 1), .int .i64 ((kb : Int) + 1)] w4 fun e w' => e = .returned (.int .i64 100) ∧ Below w4.heap.size w4 w' := by
                    rcases HP.out.kinds _ ta hta with ⟨hh, N, rfl, -⟩ | ⟨hh, N, qq, rfl, -⟩
                    · rcases HP.out.kinds _ tb htb with ⟨h2, N2, rfl, -⟩ | ⟨h2, N2, q2, rfl, -⟩
                      · exact Move_not HW.out HT.out.1 HT.out.2 hta htb (.inl ⟨rfl, .inl rfl⟩)
                      · exact Move_not HW.out HT.out.1 HT.out.2 hta htb (.inl ⟨rfl, .inr rfl⟩)
                    · rcases HP.out.kinds _ tb htb with ⟨h2, N2, rfl, -⟩ | ⟨h2, N2, q2, rfl, -⟩
                      · exact Move_not HW.out HT.out.1 HT.out.2 hta htb (.inr ⟨rfl, rfl⟩)
                      · exact absurd ⟨hh, N, qq, h2, N2, q2, rfl, rfl⟩ hpp
                  have HASK := (show Hid _ from hask)
                  clear hask hta htb hpp h0 h1
                  go_wp2_with fail
                  refine Calls.mono HASK.out ?_
                  rintro e w5 ⟨rfl, hb5⟩
                  have HA : Hid (AfterT w p m (.slice (some ⟨g, 0, none⟩) m cap) mb B w4 w5 100 0) := .inl ⟨by decide, rfl, hb5⟩
                  clear hb5
                  go_wp2_with fail
                  go_meet
                  case rel => exact ⟨_, _, rfl, rfl, HA⟩
          obtain ⟨f, r, rfl, rfl, HA⟩ := hcut
          have Hm200 := (show Hid (m ≤ 154) from (show m ≤ 154 by omega))
          rcases HA.out with ⟨f0, rfl, hbw⟩ | ⟨rfl, rfl, M', hP', hC'⟩ | ⟨rfl, rfl, M', hP', hC'⟩
          · have f0b : (f != 0) = true := by simpa using f0
            have HC5 := (show Hid (ConS w p M m (.slice (some ⟨g, 0, none⟩) m cap) mb (muF M) B wc) from HC4.out.below hbw)
            have hsm : M.things.length ≤ 1000000 := by
              have h1 := HWr.out.ok.len_le
              have h2 := HP.out.last
              have h3 := Hm200.out
              omega
            have hsame := Same_W HC5.out.step.choose_spec.1 (HQ.out.below hbw) HP.out.lite hsm
            have HSM := (show Hid _ from hsame)
            clear hbw hsm hsame HA d0 d3 HC4
            go_wp2_with fail
            refine Calls.mono HSM.out ?_
            rintro e w6 ⟨rfl, hb6⟩
            have HC6 := (show Hid (ConS w p M m (.slice (some ⟨g, 0, none⟩) m cap) mb (muF M) B w6) from HC5.out.below hb6)
            clear hb6 HSM HC5
            go_wp2_with fail
            refine (Check_W HC6.out.step.choose_spec.1 (HP.out.hP HC6.out.ok) (HP.out.hT HC6.out.ok)).mono ?_
            rintro e w7 ⟨rfl, hb7⟩
            have HC7 := (show Hid (ConS w p M m (.slice (some ⟨g, 0, none⟩) m cap) mb (muF M) B w7) from HC6.out.below hb7)
            clear hb7 HC6
            go_wp2_with fail
            go_roundw
            case rel => exact ⟨j + 1, m, B, M, by go_num, by omega, hm0, by omega, by omega, HP, HC7⟩
            case measure =>
              simp [intOf]
              omega
          · have HP5 := (show Hid (Pu M' m) from hP')
            have HC5 := (show Hid (ConS w p M' m (.slice (some ⟨g, 0, none⟩) m cap) mb (muF M') (B + 1) wc) from hC')
            clear hP' hC' HA d0 d3 HC4
            go_wp2_with fail
            refine (Check_W HC5.out.step.choose_spec.1 (HP5.out.hP HC5.out.ok) (HP5.out.hT HC5.out.ok)).mono ?_
            rintro e w7 ⟨rfl, hb7⟩
            have HC7 := (show Hid (ConS w p M' m (.slice (some ⟨g, 0, none⟩) m cap) mb (muF M') (B + 1) w7) from HC5.out.below hb7)
            clear hb7 HC5
            go_wp2_with fail
            go_roundw
            case rel => exact ⟨j + 1, m, B + 1, M', by go_num, by omega, hm0, by omega, by omega, HP5, HC7⟩
            case measure =>
              simp [intOf]
              omega
          · have HP5 := (show Hid (Pu M' (m + 1)) from hP')
            have HC5 := (show Hid (ConS w p M' m (.slice (some ⟨g, 0, none⟩) m cap) mb (muF M') (B + 1) wc) from hC')
            have HR := (show Hid (wc.ownsRow w.heap.size 35 1 (.slice (some ⟨g, 0, none⟩) m cap) m ((refs1 m).map (Value.int .i64))) from HC5.out.row)
            have Hbs := (show Hid (w.heap.size ≤ wc.heap.size) from HC5.out.base.size)
            have Hnn := (show Hid ((m : Int) ≤ 1099511627776) from (show (m : Int) ≤ 1099511627776 by omega))
            have hr0 : (((m : Int) + 1) != 0) = true := by
              have : (m : Int) + 1 ≠ 0 := by omega
              simpa using this
            clear hP' hC' HA d0 d3 HC4
            go_wp2_with (at_builtin; refine append_refS rfl _ _ rfl w.heap.size (.slice (some ⟨g, 0, none⟩) m cap) (refs1 m) m rfl HR ((m : Int) + 1) rfl Hnn Hbs ?_; intro v' w6 hrow hg hown
                         obtain ⟨g5, cap5, h5⟩ := row_succ' hrow.out
                         subst h5
                         have HC6 : Hid (ConS w p M' (m + 1) (.slice (some ⟨g5, 0, none⟩) (m + 1) cap5) mb (muF M') (B + 1) w6) := HC5.out.append hg.out hrow.out hown.out
                         clear hrow hg hown)
            clear HC5 HR Hbs
            refine (Check_W HC6.out.step.choose_spec.1 (HP5.out.hP HC6.out.ok) (HP5.out.hT HC6.out.ok)).mono ?_
            rintro e w7 ⟨rfl, hb7⟩
            have HC7 := (show Hid (ConS w p M' (m + 1) (.slice (some ⟨g5, 0, none⟩) (m + 1) cap5) mb (muF M') (B + 1) w7) from HC6.out.below hb7)
            clear hb7 HC6
            go_wp2_with fail
            go_roundw
            case rel => exact ⟨j + 1, m + 1, B + 1, M', by go_num, by omega, by omega, by omega, by omega, HP5, HC7⟩
            case measure =>
              simp [intOf]
              omega
        · have hjz : ¬ (j : Int) < (n : Int) := by omega
          obtain ⟨F, hW, hstep⟩ := HC.out.step
          have HWr := (show Hid (IsW wr p M F) from hW)
          obtain ⟨cm, hcm, hth⟩ := HC.out.made
          have Hth := (show Hid (HasMap Tryz.prog 35 wr mb (muF M) cm) from hth)
          have HBr := (show Hid (Below w.heap.size w wr) from HC.out.base)
          have Hm := (show Hid (m ≤ 1000) from (show m ≤ 1000 by omega))
          clear hW hstep hth hcm HC HWF Hn HS hj hm0 hm4 hB hbig hjn
          go_wp2_with (first | (at_range; refine range_H rfl _ 77 2 rfl Tryz.underlying77 mb _ (muF M) rfl Hth.out ?_; intro w3 L cnt hrg hL hb3))
          have HW3 := (show Hid (IsW w3 p M F) from HWr.out.below hb3)
          have HB3 := (show Hid (Below w.heap.size w w3) from HBr.out.trans (hb3.mono HBr.out.size))
          have HG3 := (show Hid (Rg w3 mb wr.heap.size (muF M) L cnt) from hrg)
          have HF := (show Hid (∀ b, F b → b ≠ wr.heap.size) from fun b hb => Nat.ne_of_lt (HWr.out.lt b hb))
          have Hr0 := (show Hid (w.heap.size ≤ wr.heap.size) from HBr.out.size)
          clear hrg hL hb3 HWr Hth HBr cm hjz
          revert HG3 HF Hr0
          generalize wr.heap.size = r0
          intro HG3 HF Hr0
          go_loopw [] (fun wx => ∃ L cnt, Hid (Rg wx mb r0 (muF M) L cnt) ∧ Hid (IsW wx p M F) ∧ Hid (Below w.heap.size w wx)) (fun wx => wx.rangeLeft mb r0)
          case atStart => exact ⟨L, cnt, HG3, HW3, HB3⟩
          case round =>
            clear HG3 HW3 HB3
            obtain ⟨L, cnt, HG, HW, HB⟩ := hrel
            go_wp2_with (first | (at_next; refine next_H rfl _ rfl mb r0 (muF M) L cnt rfl HG.out ?_ ?_))
            · intro _
              clear HG HW
              go_wp2_with fail
              refine (lives10_W _).mono ?_
              rintro e w5 ⟨rfl, hb⟩
              have HE : Hid (Below w.heap.size w w5) := HB.out.trans (hb.mono HB.out.size)
              clear hb
              go_wp2_with fail
              go_ret
              exact ⟨rfl, HE⟩
            · intro x v w4 cnt' hx hLx hf hrg' hlt hk hsz hen
              obtain ⟨t, ht, hk8, rfl⟩ := muF_some hf
              obtain ⟨hh, N, rfl⟩ : ∃ hh N, t = mintT hh N 0 := by
                rcases HP.out.kinds x t ht with ⟨hh, N, rfl, -⟩ | ⟨hh, N, qq, rfl, -⟩
                · exact ⟨hh, N, rfl⟩
                · cases hk8
              have HW4 := (show Hid (IsW w4 p M F) from HW.out.keeps hk (fun b hb => HF.out b hb))
              have HB4 := (show Hid (Below w.heap.size w w4) from HB.out.trans (hk.below HB.out.size (fun b e => by rw [e]; exact Hr0.out)))
              have HG4 := (show Hid (Rg w4 mb r0 (muF M) (fun z => L z && !decide (z = x)) cnt') from hrg')
              have Ht := (show Hid (M.at x = some (mintT hh N 0)) from ht)
              have Hx := (show Hid ((Lit.int .i64 x).wf = true) from hx)
              have Hcnt := (show Hid (wr.rangeLeft mb r0 = cnt) from HG.out.left_eq)
              have Hlt := (show Hid (cnt' < cnt) from hlt)
              obtain ⟨s1, s2, s3, s4⟩ := HP.out.sum HW.out.ok ht
              have Hs := (show Hid (0 ≤ N ∧ N ≤ 9007199254740992 ∧ sumP (M.things.filter (isP x)) = N) from ⟨s3, s4, (sumP_filter x _).trans s2⟩)
              have hsum := Sum_W HW4.out hx ht (HP.out.hP HW.out.ok)
              rw [s1] at hsum
              have HSUM := (show Hid _ from hsum)
              have Hnn := (show Hid (∀ y ∈ M.things.filter (isP x), ∃ h n m, y.2 = purseT h n m ∧ 0 ≤ n ∧ M.at y.1 = some y.2) from fun y hy => by
                obtain ⟨hy1, hy2⟩ := List.mem_filter.1 hy
                unfold isP at hy2
                simp only [Bool.and_eq_true, decide_eq_true_eq] at hy2
                obtain ⟨h, n, m, e, h0⟩ := HP.out.hP HW.out.ok y hy1 hy2.1
                exact ⟨h, n, m, e, h0, HW.out.ok.at_of_mem hy1⟩)
              clear hx hLx hf hrg' hlt hk hsz ht hk8 s1 s2 s3 s4 hsum HW HG HB
              go_wp2_with fail
              refine Calls.mono HSUM.out ?_
              rintro e w5 ⟨rfl, hb5⟩
              have HB45 := (show Hid (Below w4.heap.size w4 w5) from hb5)
              clear hb5 HSUM hen
              go_wp2_with fail
              refine (Purses_W (HW4.out.below HB45.out) Hx.out Ht.out (fun y hy hk => by obtain ⟨a, b, c, d, -⟩ := HP.out.hP HW4.out.ok y hy hk; exact ⟨a, b, c, d⟩)).mono ?_
              rintro e w6 ⟨v, rfl, hrow, hb6⟩
              have HB46 := (show Hid (Below w4.heap.size w4 w6) from HB45.out.trans (hb6.mono HB45.out.size))
              obtain ⟨sa6, cap6, rfl, hcell⟩ := row_slice hrow
              have HROW := (show Hid _ from hcell)
              have HWS := (show Hid (IsW w4 p M F) from HW4.out)
              clear hb6 hrow hcell HB45 HW4
              have Hxs := (show Hid ((M.things.filter (isP x)).length ≤ 1000000) from by
                have h0 : (M.things.filter (isP x)).length ≤ M.things.length := List.length_filter_le _ _
                have h1 := HWS.out.ok.len_le
                have h2 := HP.out.last
                have h3 := Hm.out
                show _ ≤ _
                omega)
              revert HROW Hs Hnn Hxs
              generalize M.things.filter (isP x) = xs
              intro Hs Hnn HROW Hxs
              go_wp2_with fail
              go_loopw [27, 28] (fun vs vi wx => ∃ (k : Nat) (sm : Int), vi = .int .i64 k ∧ k ≤ xs.length ∧ vs = .int .i64 sm ∧ Hid (sm = sumP (xs.take k)) ∧ Hid (Below w6.heap.size w6 wx)) (fun _ vi _ => xs.length - (intOf vi).toNat)
              case atStart => exact ⟨0, 0, rfl, by omega, rfl, (show _ = _ by simp [sumP]), Below.refl _ _⟩
              case round =>
                obtain ⟨k, sm, rfl, hk, rfl, HSM, HBx⟩ := hrel
                by_cases hkn : k < xs.length
                · obtain ⟨y, hy⟩ : ∃ y, xs[k]? = some y := ⟨_, List.getElem?_eq_getElem hkn⟩
                  obtain ⟨g, rfl, hc⟩ := HROW.out k hkn
                  rw [List.getElem?_map, hy] at hc
                  have hc' := HBx.out.cell (World.block_lt_of_cell? _ _ hc) |>.trans hc
                  obtain ⟨yr, yt⟩ := y
                  obtain ⟨yh, yn, ym, rfl, hy0, hya⟩ := Hnn.out _ (List.mem_of_getElem? hy)
                  have hx1 := sumP_take hy
                  have hx2 := sumP_mono (l := xs) (fun z hz => by obtain ⟨a, b, c, e, e0, -⟩ := Hnn.out z hz; rw [e]; exact e0) (k + 1)
                  have hx3 := sumP_mono (l := xs) (fun z hz => by obtain ⟨a, b, c, e, e0, -⟩ := Hnn.out z hz; rw [e]; exact e0) k
                  have n0 : ¬ yn < 0 := by omega
                  have hb1 : sumP (xs.take k) + yn ≤ 9007199254740992 := by
                    have := Hs.out
                    have : sumP (xs.take (k + 1)) = sumP (xs.take k) + yn := hx1
                    omega
                  have hb0 : 0 ≤ sumP (xs.take k) := hx3.1
                  have hw' : IntKind.i64.wrap (sm + yn) = sumP (xs.take (k + 1)) := by
                    have h1 : sumP (xs.take (k + 1)) = sumP (xs.take k) + yn := hx1
                    have h2 := HSM.out
                    rw [h1, IntKind.wrap_i64]
                    omega
                  have Hk1 := (show Hid (k + 1 ≤ xs.length) from hkn)
                  have HW' := (show Hid _ from hw')
                  have hkb : (k : Int) + 1 ≤ 1000000 := by
                    have := Hxs.out
                    omega
                  have hkz : (k : Int) < (xs.length : Int) := by omega
                  have HBy := (show Hid (IsW wr p M F ∧ (Lit.int .i64 yr).wf = true ∧ M.at yr = some (purseT yh yn ym)) from ⟨HWS.out.below (HB46.out.trans (HBx.out.mono HB46.out.size)), HWS.out.ok.at_wf hya, hya⟩)
                  clear hx1 hx2 hx3 hb0 hb1 hc hy hya hy0 hw'
                  go_wp2_with fail
                  refine (Get_W HBy.out.1 HBy.out.2.1 HBy.out.2.2).mono ?_
                  rintro e w7 ⟨rfl, hb7⟩
                  have HB7 := (show Hid (Below w6.heap.size w6 w7) from HBx.out.trans (hb7.mono HBx.out.size))
                  clear hb7 HBx HBy hc' hkb hkz hkn
                  go_upto_region 49 with fail
                  have hw' : IntKind.i64.wrap (sm + yn) = sumP (xs.take (k + 1)) := HW'.out
                  have hkb : (k : Int) + 1 ≤ 1000000 := by
                    have h1 := Hxs.out
                    have h2 := Hk1.out
                    omega
                  go_wp2_with fail
                  go_roundw
                  case rel => exact ⟨k + 1, _, by go_num, Hk1.out, rfl, rfl, HB7⟩
                  case measure =>
                    have := Hk1.out
                    simp [intOf]
                    omega
                · have hkz : ¬ (k : Int) < (xs.length : Int) := by omega
                  obtain rfl : sm = N := by
                    have h2 : sm = sumP (xs.take k) := HSM.out
                    rw [List.take_of_length_le (by omega)] at h2
                    exact h2.trans Hs.out.2.2
                  have HB7 := (show Hid (Below w.heap.size w wr) from HB4.out.trans ((HB46.out.trans (HBx.out.mono HB46.out.size)).mono HB4.out.size))
                  have HG7 := (show Hid (Rg wr mb r0 (muF M) (fun z => L z && !decide (z = x)) cnt') from HG4.out.below (HB46.out.trans (HBx.out.mono HB46.out.size)))
                  have HW7 := (show Hid (IsW wr p M F) from HWS.out.below (HB46.out.trans (HBx.out.mono HB46.out.size)))
                  clear hkn hk HSM HBx
                  go_wp2_with fail
                  go_roundw
                  case rel => exact ⟨_, _, HG7, HW7, HB7⟩
                  case measure =>
                    rw [Hcnt.out, HG7.out.left_eq]
                    exact Hlt.out
end Go.Proofs.YtmefjkggibbhoaaGreat
