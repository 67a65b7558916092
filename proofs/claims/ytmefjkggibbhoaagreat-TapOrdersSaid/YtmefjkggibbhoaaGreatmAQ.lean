/- A part of the proof, several texts in one: TapD, CntA, OthA, OrdA. -/
import Derived.Test.YtmefjkggibbhoaaGreatmAP
import Derived.Maps.AppendAt
/- Taps: Pass; the taps on a way. -/
namespace Go.Proofs.YtmefjkggibbhoaaGreat
open Go.RowKit Go.ChangeMaps Go.MapKept

theorem Pass_W {w : World} {p : Nat} {M : WM} {F : Nat → Prop} (hW : IsW w p M F) (hT : TW M) {r : Int} {l : List Int} (hl : WayIs M r l) {t0 : Th} (hr : M.at r = some t0) :
    Calls Tryz.prog 12 #[.pointer (some ⟨p, 0, none⟩), .int .i64 r] w fun e w' => e = .returned (.int .i64 0) ∧ IsW w' p (M.pass l) F ∧ Keeps F w w' := by
  have hmf : ∀ (fn : Fn) (first cap : Array Value) (w : World), (Instr.makeFunc fn first cap).run Tryz.prog w = .ok (.func fn first cap) w := fun _ _ _ _ => rfl
  have HP := (show Hid _ from walkPass_W hW hT hl hr)
  clear hW hT hl hr
  go_enter Tryz.func12, Tryz.ntmps12
  go_wp2_with fail
  refine Calls.mono HP.out ?_
  rintro e w1 ⟨rfl, h1, h2⟩
  have H1 := (show Hid _ from And.intro h1 h2)
  clear h1 h2
  go_wp2_with fail
  go_ret
  exact ⟨rfl, H1.out.1, H1.out.2⟩

/-- A list of references that a call makes grows by one; where it lies then. -/
theorem append_refT {w : World} {ops : Array Oper} {rest : List Oper} {o : Oper} {a : Act} {Q : Exit → Act → World → Prop} (hgd : o.guard = none) (s x : Operand)
    (ho : o.op = .call { callee := .builtin .append, args := #[s, x], argTypes := #[31, 31] }) (base : Nat)
    (v : Value) (l : List Int) (n : Nat) (hs : a.eval s = v) (hown : Hid (w.ownsRow base 35 1 v n (l.map (Value.int .i64)))) (y : Int) (hx : a.eval x = .slice (some ⟨w.heap.size, 0, none⟩) 1 1)
    (hn : Hid ((n : Int) ≤ 1099511627776)) (hbase : Hid (base ≤ w.heap.size))
    (h : ∀ v' w', Hid (w'.ownsRow base 35 1 v' (n + 1) ((l ++ [y]).map (Value.int .i64))) → Hid (w.grownBy w' v.ownBlock) → Hid (v'.ownBlock = v.ownBlock ∨ v'.ownBlock = some (w.heap.size + 1)) → wpList Tryz.prog ops Q rest (a.put o.dst v') w') : wpList Tryz.prog ops Q (o :: rest) a (w.alloc (.cells #[.int .i64 y] 35)) := by
  obtain ⟨i, hi, hz, h1, h2⟩ := info_parts infoRef
  have hn' := hn.out
  have hb2 : (n + 1) * 8 ≤ 1099511627777 * 8 := Nat.mul_le_mul_right _ (by omega)
  refine wpList_append_own_at _ hgd s x 31 ho base 35 i (.int .i64 0) 1 8 Tryz.underlying31 hi hz h1 h2 rfl (by decide) v n _ hs (hown.out.alloc _) ⟨w.heap.size, 0, none⟩ 1 1 [.int .i64 y] hx rfl (cell_one_new _ _ _) (by simp [Value.oneCell']) (by unfold maxLen; omega) (by omega) (by have := hbase.out; simp; omega) ?_
  intro v' w' r1 r2 _ r4
  exact h v' w' (by show World.ownsRow _ _ _ _ _ _ _; simpa using r1) ((World.grownBy_alloc w _ _).trans r2) (by show _ ∨ _; simpa using r4)
/-- The taps among some. -/
def WM.tapsL (M : WM) (l : List Int) : List Int := l.filter fun q => M.kindOf q == 16
/-- While the taps are gathered. -/
def TapsAt (w w1 : World) (base B : Nat) (xs : List Int) (wr : World) : Prop :=
  ∃ v, wr.heap[B]? = some (.cells #[v] 93 (0, 0)) ∧ wr.ownsRow base 35 1 v xs.length (xs.map (Value.int .i64)) ∧ (∀ b, v.ownBlock = some b → w1.heap.size ≤ b) ∧ Below base w wr ∧ w1.heap.size ≤ wr.heap.size ∧ ∀ b, b < w1.heap.size → b ≠ B → wr.heap[b]? = w1.heap[b]?
def TapsPost (w : World) (base B : Nat) (xs : List Int) (w' : World) : Prop :=
  ∃ v, w'.heap[B]? = some (.cells #[v] 93 (0, 0)) ∧ w'.ownsRow base 35 1 v xs.length (xs.map (Value.int .i64)) ∧ Below base w w'
/-- What add leaves. -/
def AddPost (w : World) (base B : Nat) (v : Value) (xs : List Int) (q : Int) (w' : World) : Prop :=
  ∃ v', w'.heap[B]? = some (.cells #[v'] 93 (0, 0)) ∧ w'.ownsRow base 35 1 v' (xs ++ [q]).length ((xs ++ [q]).map (Value.int .i64)) ∧ (v'.ownBlock = v.ownBlock ∨ v'.ownBlock = some (w.heap.size + 1)) ∧ Keeps (fun b => b = B ∨ v.ownBlock = some b) w w'

theorem add_box {w w1 : World} {v : Value} {B : Nat} {o : Obj} (hg : w.grownBy w1 v.ownBlock) (hB : w.heap[B]? = some o) (hne : v.ownBlock ≠ some B) : w1.heap[B]? = some o :=
  (hg.block B (blk_lt hB) (fun e => hne e.symm)).trans hB
theorem box_is {W : World} {B : Nat} {v : Value} {t : TypeId} (h : W.heap[B]? = some (.cells #[v] t (0, 0))) : W.cell? ⟨B, 0, none⟩ = some v ∧ W.frozen? ⟨B, 0, none⟩ = false := by
  constructor <;> simp [World.cell?, World.frozen?, h]
theorem row_succ {w : World} {base : Nat} {e : TypeId} {v : Value} {n : Nat} {xs : List Value} (h : w.ownsRow base e 1 v (n + 1) xs) : ∃ g cap, v = .slice (some ⟨g, 0, none⟩) (n + 1) cap := by
  rcases h.2 with ⟨-, h⟩ | ⟨g, cap, cur, rfl, -⟩
  · omega
  · exact ⟨g, cap, rfl⟩
set_option maxRecDepth 8000 in
theorem add_W (w : World) {B base : Nat} {v : Value} {xs : List Int} (q : Int) (hB : w.heap[B]? = some (.cells #[v] 93 (0, 0))) (hrow : w.ownsRow base 35 1 v xs.length (xs.map (Value.int .i64))) (hne : v.ownBlock ≠ some B) (hbase : base ≤ w.heap.size) (hlen : (xs.length : Int) ≤ 1099511627776) :
    Calls Tryz.prog 37 #[.pointer (some ⟨B, 0, none⟩), .int .i64 q] w fun e w' => e = .returned (.tuple #[]) ∧ Hid (AddPost w base B v xs q w') := by
  have c0 : w.cell? ⟨B, 0, none⟩ = some v := by rw [cell_blk hB]; rfl
  have HB := (show Hid _ from hB)
  have HR := (show Hid (w.ownsRow base 35 1 v xs.length (xs.map (Value.int .i64))) from hrow)
  have Hne := (show Hid (v.ownBlock ≠ some B) from hne)
  have Hba := (show Hid (base ≤ w.heap.size) from hbase)
  have Hlen := (show Hid ((xs.length : Int) ≤ 1099511627776) from hlen)
  clear hB hrow hne hbase hlen
  go_enter Tryz.func37, Tryz.ntmps37
  go_wp2_with (at_builtin; refine append_refT rfl _ _ rfl base v xs xs.length rfl HR q rfl Hlen Hba ?_; intro v' w1 hrow1 hg1 hown1; obtain ⟨g5, cap5, h5⟩ := row_succ hrow1.out; subst h5; have hB1 := add_box hg1.out HB.out Hne.out; obtain ⟨cB, fB⟩ := box_is hB1)
  have hBlt := blk_lt HB.out
  have hk : Keeps (fun b => v.ownBlock = some b) w w1 := Keeps.of_grown hg1.out (fun x hx => hx)
  have HAP : Hid (AddPost w base B v xs q (w1.setCell ⟨B, 0, none⟩ (.slice (some ⟨g5, 0, none⟩) (xs.length + 1) cap5))) := by
    have hs := blk_setCell hB1 0 (.slice (some ⟨g5, 0, none⟩) (xs.length + 1) cap5)
    refine ⟨.slice (some ⟨g5, 0, none⟩) (xs.length + 1) cap5, hs, ?_, hown1.out, hk.trans (Keeps.setCell (S := fun b => b = B) w1 ⟨B, 0, none⟩ _ rfl) (fun _ _ h => .inr h) (fun _ _ h => .inl h)⟩
    have hne' : (Value.slice (some ⟨g5, 0, none⟩) (xs.length + 1) cap5).ownBlock ≠ some B := fun e => by
      rcases hown1.out with h | h
      · exact Hne.out (h.symm.trans e)
      · rw [h] at e
        simp only [Option.some.injEq] at e
        omega
    have hr := hrow1.out
    refine ⟨by simp, ?_⟩
    rcases hr.2 with ⟨h1, h2⟩ | ⟨g, cap, cur, he, h1, h2, h3⟩
    · exact absurd h2 (by omega)
    · cases he
      refine .inr ⟨g5, cap5, cur, by simp, h1, (blk_other h2 ⟨B, 0, none⟩ _ (fun e => hne' (by simp [Value.ownBlock, e]))), by simpa using h3⟩
  clear hBlt hk hB1 hrow1 hg1 hown1 HB HR c0
  go_wp2_with fail
  go_end0
  exact ⟨rfl, HAP⟩

theorem tapsL_snoc (M : WM) (l : List Int) (q : Int) : M.tapsL (l ++ [q]) = if M.kindOf q = 16 then M.tapsL l ++ [q] else M.tapsL l := by
  unfold WM.tapsL
  rw [List.filter_append]
  by_cases h : M.kindOf q = 16 <;> simp [h]
theorem keeps_from {base : Nat} {w w' : World} (h : Below base w w') : Keeps (fun b => base ≤ b) w w' := ⟨h.os, h.tape, h.output, h.size, fun b _ hn => h.block b (by omega)⟩
theorem TapsAt.add {w w1 : World} {base B : Nat} {xs : List Int} {wr w2 : World} {v : Value} {q : Int} (hb : base ≤ B) (hB : B < w1.heap.size) (hv : ∀ b, v.ownBlock = some b → w1.heap.size ≤ b) (h4 : Below base w wr) (h5 : w1.heap.size ≤ wr.heap.size)
    (h6 : ∀ b, b < w1.heap.size → b ≠ B → wr.heap[b]? = w1.heap[b]?) (hbw : base ≤ w.heap.size) (h : AddPost wr base B v xs q w2) : TapsAt w w1 base B (xs ++ [q]) w2 := by
  obtain ⟨v', a1, a2, a3, a4⟩ := h
  refine ⟨v', a1, a2, fun b hb' => ?_, h4.trans (Keeps.below a4 (Nat.le_trans hbw h4.size) (fun x hx => ?_)), Nat.le_trans h5 a4.size, fun b h1 h2 => ?_⟩
  · rcases a3 with e | e
    · exact hv b (e.symm.trans hb')
    · rw [e] at hb'
      simp only [Option.some.injEq] at hb'
      omega
  · rcases hx with rfl | hx
    · exact hb
    · have := hv x hx
      omega
  · refine (a4.block b (by omega) (fun e => ?_)).trans (h6 b h1 h2)
    rcases e with e | e
    · exact h2 e
    · have := hv b e
      omega

set_option maxHeartbeats 4000000 in
set_option maxRecDepth 100000 in
theorem walkTaps_W {w : World} {p : Nat} {M : WM} {F : Nat → Prop} {base B : Nat} (hW : IsW w p M F) (hF : Hid (∀ b, F b → b < base)) (hb : Hid (base ≤ B)) (hB : w.heap[B]? = some (.cells #[.slice none 0 0] 93 (0, 0))) {r : Int} {l : List Int} (hl : WayIs M r l) {t0 : Th} (hr : M.at r = some t0) :
    Calls Tryz.prog 36 #[.pointer (some ⟨p, 0, none⟩), .int .i64 r, .func (.func 37) #[.pointer (some ⟨B, 0, none⟩)] #[]] w fun e w' => e = .returned (.int .i64 0) ∧ Hid (TapsPost w base B (M.tapsL l) w') := by
  have hrw := hW.ok.at_wf hr
  have HS := (show Hid _ from Sides_W hW)
  have hI := Is_W hW hrw
  rw [hr] at hI
  have HI := (show Hid _ from hI)
  have HY := (show Hid _ from Way_W hW hrw hl)
  have hne : ((M.made.length : Int) == 0) = false := by
    have := hW.ok.made
    exact beq_eq_false_iff_ne.2 (by omega)
  have HW := (show Hid (IsW w p M F) from hW)
  have HB := (show Hid _ from hB)
  have HM := (show Hid (∀ q ∈ l, ∃ t, M.at q = some t) from way_mem l r hl)
  have Hlen : Hid ((l.length : Int) ≤ 1099511627777) := by
    obtain ⟨l', h1, h2⟩ := way_ex hW.ok r
    obtain rfl := hl.uniq h1
    have := hW.ok.last
    show _ ≤ _
    omega
  obtain ⟨n, hn⟩ : ∃ n, n = l.length := ⟨_, rfl⟩
  have Hn := (show Hid (n = l.length) from hn)
  rw [← hn] at HY Hlen
  clear hW hB hr hl hI hn
  go_enter Tryz.func36, Tryz.ntmps36
  go_wp2_with fail
  refine Calls.mono HS.out ?_
  rintro e _ ⟨rfl, rfl⟩
  go_wp2_with fail
  refine Calls.mono HI.out ?_
  rintro e _ ⟨rfl, rfl⟩
  go_wp2_with fail
  refine Calls.mono HY.out ?_
  rintro e w1 ⟨v, rfl, hrow, hb1⟩
  obtain ⟨a, cap, rfl, hcells⟩ := way_cells hrow
  have HB1 := (show Hid (Below w.heap.size w w1) from hb1)
  have HC := (show Hid (∀ k, k < n → ∃ g, a = some ⟨g, 0, none⟩ ∧ w.heap.size ≤ g ∧ g < w1.heap.size ∧ w1.cell? ⟨g, k, none⟩ = (l.map (Value.int .i64))[k]?) from hcells)
  have HBB : Hid (B < w1.heap.size ∧ base ≤ w.heap.size) := ⟨Nat.lt_of_lt_of_le (blk_lt HB.out) hb1.size, by have := hb.out; have := blk_lt HB.out; omega⟩
  have HT0 : Hid (TapsAt w w1 base B (M.tapsL (l.take 0)) w1) := ⟨.slice none 0 0, below_blk hb1 HB.out, ⟨rfl, .inl ⟨rfl, rfl⟩⟩, (fun b h => by cases h), hb1.mono HBB.out.2, Nat.le_refl _, fun b _ _ => rfl⟩
  clear hrow hcells hb1 HS HI HY
  go_wp2_with fail
  go_loopw [24] (fun vi wr => ∃ k : Nat, vi = .int .i64 k ∧ k ≤ n ∧ Hid (TapsAt w w1 base B (M.tapsL (l.take k)) wr)) (fun vi _ => n - (intOf vi).toNat)
  case atStart => exact ⟨0, rfl, Nat.zero_le _, HT0⟩
  case round =>
    clear HT0
    obtain ⟨k, rfl, hk, HR⟩ := hrel
    by_cases hkn : k < n
    · have hkz : (k : Int) < (n : Int) := by omega
      have hwk : wrap64 ((k : Int) + 1) = (k : Int) + 1 := by have := Hlen.out; unfold wrap64; omega
      obtain ⟨q, hq⟩ : ∃ q, l[k]? = some q := ⟨_, List.getElem?_eq_getElem (by have := Hn.out; omega)⟩
      have Htk : Hid (l.take (k + 1) = l.take k ++ [q]) := by show _ = _; rw [List.take_add_one, hq]; rfl
      obtain ⟨t, ht⟩ := HM.out q (List.mem_of_getElem? hq)
      obtain ⟨g, rfl, hg0, hg1, hgc⟩ := HC.out k hkn
      obtain ⟨v, hv1, hv2, hv3, hv4, hv5, hv6⟩ := HR.out
      have hgB : g ≠ B := by have := blk_lt HB.out; omega
      have hcell : wr.cell? ⟨g, k, none⟩ = some (.int .i64 q) := by
        rw [World.cell?_of_block (a := ⟨g, k, none⟩) (hv6 g hg1 hgB), hgc, List.getElem?_map, hq]
        rfl
      have hWr : IsW wr p M F := HW.out.keeps (keeps_from hv4) (fun b hb' => by have := hF.out b hb'; omega)
      have hkw := Kind_W hWr (HW.out.ok.at_wf ht)
      have HK := (show Hid _ from hkw)
      have HV := (show Hid _ from And.intro hv1 (And.intro hv2 (And.intro hv3 (And.intro hv4 (And.intro hv5 hv6)))))
      clear hq ht hgc hkw hWr hv1 hv2 hv3 hv4 hv5 hv6 hgB
      by_cases h16 : M.kindOf q = 16
      · have e16 : (M.kindOf q == 16) = true := by simpa using h16
        have Htp : Hid (M.tapsL (l.take (k + 1)) = M.tapsL (l.take k) ++ [q]) := by show _ = _; rw [Htk.out, tapsL_snoc, if_pos h16]
        have haw := add_W wr (B := B) (base := base) (v := v) (xs := M.tapsL (l.take k)) q HV.out.1 HV.out.2.1 (fun e => by have := HV.out.2.2.1 B e; have := HBB.out.1; omega) (by have := HV.out.2.2.2.2.1; have := HBB.out.1; have := hb.out; omega) (by
          have h1 : (M.tapsL (l.take k)).length ≤ (l.take k).length := List.length_filter_le _ _
          have h2 := Hlen.out
          rw [List.length_take] at h1
          omega)
        have HAW := (show Hid _ from haw)
        clear haw h16
        go_wp2_with fail
        refine Calls.mono HK.out ?_
        rintro e _ ⟨rfl, rfl⟩
        go_wp2_with fail
        refine Calls.mono HAW.out ?_
        rintro e w2 ⟨rfl, hA⟩
        have HR2 : Hid (TapsAt w w1 base B (M.tapsL (l.take (k + 1))) w2) := by
          rw [Htp.out]
          exact TapsAt.add hb.out HBB.out.1 HV.out.2.2.1 HV.out.2.2.2.1 HV.out.2.2.2.2.1 HV.out.2.2.2.2.2 HBB.out.2 hA.out
        clear hA HR HAW HK HV
        go_wp2_with fail
        go_roundw
        case rel => exact ⟨k + 1, by rw [hwk]; go_num, by omega, HR2⟩
        case measure => rw [hwk]; exact meas_up hkn
      · have e16 : (M.kindOf q == 16) = false := by simpa using h16
        have HR2 : Hid (TapsAt w w1 base B (M.tapsL (l.take (k + 1))) wr) := by
          rw [Htk.out, tapsL_snoc, if_neg h16]
          exact HR.out
        clear h16 HR HV
        go_wp2_with fail
        refine Calls.mono HK.out ?_
        rintro e _ ⟨rfl, rfl⟩
        go_wp2_with fail
        go_roundw
        case rel => exact ⟨k + 1, by rw [hwk]; go_num, by omega, HR2⟩
        case measure => rw [hwk]; exact meas_up hkn
    · have hkz : ¬ (k : Int) < (n : Int) := by omega
      obtain rfl : k = n := by omega
      have HR2 : Hid (TapsPost w base B (M.tapsL l) wr) := by
        obtain ⟨v, hv1, hv2, hv3, hv4, -⟩ := HR.out
        rw [Hn.out, List.take_length] at hv2
        exact ⟨v, hv1, hv2, hv4⟩
      clear HR
      go_wp2_with fail
      go_ret
      exact ⟨rfl, HR2⟩

set_option maxRecDepth 8000 in
theorem Taps_W {w : World} {p : Nat} {M : WM} {F : Nat → Prop} (hW : IsW w p M F) {r : Int} {l : List Int} (hl : WayIs M r l) {t0 : Th} (hr : M.at r = some t0) :
    Calls Tryz.prog 10 #[.pointer (some ⟨p, 0, none⟩), .int .i64 r] w fun e w' => ∃ v, e = .returned (.tuple #[v, .int .i64 0]) ∧ w'.ownsRow w.heap.size 35 1 v (M.tapsL l).length ((M.tapsL l).map (Value.int .i64)) ∧ Below w.heap.size w w' := by
  have hmf : ∀ (fn : Fn) (first cap : Array Value) (w : World), (Instr.makeFunc fn first cap).run Tryz.prog w = .ok (.func fn first cap) w := fun _ _ _ _ => rfl
  have hb1 : Below w.heap.size w (w.alloc (.cells #[.slice none 0 0] 93)) := (Below.refl _ _).alloc (Nat.le_refl _) _
  have HP := (show Hid _ from walkTaps_W (base := w.heap.size) (B := w.heap.size) (hW.below hb1) hW.lt (Nat.le_refl _) (blk_new _ _) hl hr)
  have HB1 := (show Hid _ from hb1)
  clear hW hl hr hb1
  go_enter Tryz.func10, Tryz.ntmps10
  go_wp2_with fail
  refine Calls.mono HP.out ?_
  rintro e w1 ⟨rfl, h1⟩
  obtain ⟨v, hv1, hv2, hv3⟩ := h1.out
  have cB : w1.cell? ⟨w.heap.size, 0, none⟩ = some v := by rw [cell_blk hv1]; rfl
  have H2 : Hid (w1.ownsRow w.heap.size 35 1 v (M.tapsL l).length ((M.tapsL l).map (Value.int .i64)) ∧ Below w.heap.size w w1) := ⟨hv2, HB1.out.trans hv3⟩
  clear hv1 hv2 hv3 h1
  go_wp2_with fail
  go_ret2
  exact ⟨v, rfl, H2.out.1, H2.out.2⟩
end Go.Proofs.YtmefjkggibbhoaaGreat
/- TapCounts: towers whose tallies count: as plain data. -/
namespace Go.Proofs.YtmefjkggibbhoaaGreat
open Go.RowKit

/-- A wrapper counts: its tally, where it has one, by one. -/
def bump (tl c : Int → Int) (q : Int) : Int → Int := fun n => if tl q ≠ 0 ∧ n = tl q then c n + 1 else c n
theorem fold_at (tl : Int → Int) : ∀ (xs : List Int) (c : Int → Int) (n : Int), xs.foldl (bump tl) c n = c n + ((xs.filter fun q => decide (tl q ≠ 0 ∧ n = tl q)).length : Int)
  | [], c, n => by simp
  | q :: xs, c, n => by
    rw [List.foldl_cons, fold_at tl xs, List.filter_cons]
    unfold bump
    by_cases h : tl q ≠ 0 ∧ n = tl q
    · simp only [h, and_self, if_true, decide_true, List.length_cons, ne_eq, not_false_eq_true]
      omega
    · simp only [h, if_false, decide_false]
      simp
theorem fold_rev (tl c : Int → Int) (xs : List Int) : xs.reverse.foldl (bump tl) c = xs.foldl (bump tl) c := by
  funext n
  rw [fold_at, fold_at, List.filter_reverse, List.length_reverse]
theorem fold_le (tl c : Int → Int) (xs : List Int) (n : Int) : c n ≤ xs.foldl (bump tl) c n ∧ xs.foldl (bump tl) c n ≤ c n + xs.length := by
  rw [fold_at]
  have := List.length_filter_le (fun q => decide (tl q ≠ 0 ∧ n = tl q)) xs
  omega
theorem bump_no {tl c : Int → Int} {q : Int} (h : tl q = 0) : bump tl c q = c := by
  funext n
  simp [bump, h]

/-- A tower l whose tallies have counted c. -/
structure Cw (M : WM) (l : List Int) (tl c : Int → Int) : Prop where
  base : M.at 1 = some (lt 1 0 0 0 0 0 0 0 0 false)
  head : l[0]? = some 1
  chain : ∀ (j : Nat) (x y : Int), l[j]? = some x → l[j + 1]? = some y → ∃ t, M.at y = some t ∧ t.tgt = x ∧ ((t.kind = 16 ∧ t.bi = tl y ∧ tl y ≠ 0) ∨ ((t.kind = 14 ∧ t.set = 0 ∨ t.kind = 15) ∧ tl y = 0))
  tl1 : tl 1 = 0
  taps : ∀ r t, M.at r = some t → t.kind = 16 → ∃ h tg n h', t = tapT h tg n ∧ M.at n = some (tallyT h' (c n))
  lite : ∀ r t, M.at r = some t → Lite t
theorem Tw.cw {M : WM} {l : List Int} {tl : Int → Int} {first : Int} {B : Nat} (h : Tw M l tl first B) : Cw M l tl (fun _ => 0) where
  base := h.base
  head := h.head
  chain := h.chain
  tl1 := h.tl1
  taps r t ht hk := by
    obtain ⟨h1, tg, n, e, hn⟩ := h.taps r t ht hk
    exact ⟨h1, tg, n, h1, e, hn⟩
  lite := h.lite
section
variable {M : WM} {l : List Int} {tl c : Int → Int}
theorem Cw.ne (h : Cw M l tl c) : 0 < l.length := (List.getElem?_eq_some_iff.1 h.head).1
theorem Cw.at (h : Cw M l tl c) {j : Nat} {x : Int} (hj : l[j]? = some x) : ∃ t, M.at x = some t := by
  match j with
  | 0 =>
    rw [h.head] at hj
    cases hj
    exact ⟨_, h.base⟩
  | j + 1 =>
    have hlt := (List.getElem?_eq_some_iff.1 hj).1
    obtain ⟨t, ht, -⟩ := h.chain j l[j] x (List.getElem?_eq_getElem (by omega)) hj
    exact ⟨t, ht⟩
theorem Cw.able (h : Cw M l tl c) : ∀ (j : Nat) (x : Int), l[j]? = some x → ∃ v, AbleIs M 63 x v ∧ AbleIs M 0 x 0
  | 0, x, hj => by
    rw [h.head] at hj
    cases hj
    exact ⟨3, AbleIs.mk_base h.base (by decide) (by decide), AbleIs.mk_base h.base (by decide) (by decide)⟩
  | j + 1, x, hj => by
    have hlt := (List.getElem?_eq_some_iff.1 hj).1
    obtain ⟨v, h1, h3⟩ := h.able j l[j] (List.getElem?_eq_getElem (by omega))
    obtain ⟨t, ht, htg, hc⟩ := h.chain j l[j] x (List.getElem?_eq_getElem (by omega)) hj
    rw [← htg] at h1 h3
    rcases hc with ⟨hk, -⟩ | ⟨⟨hk, hs⟩ | hk, -⟩
    · exact ⟨v, AbleIs.mk_wrap ht (.inr hk) h1, AbleIs.mk_wrap ht (.inr hk) h3⟩
    · refine ⟨0, AbleIs.mk_facet ht hk ?_, AbleIs.mk_facet ht hk ?_⟩
      · rw [hs]
        exact h3
      · rw [hs]
        exact h3
    · exact ⟨v, AbleIs.mk_wrap ht (.inl hk) h1, AbleIs.mk_wrap ht (.inl hk) h3⟩
/-- A tap has the abilities of what is below it. -/
theorem Cw.able_tap (h : Cw M l tl c) {j : Nat} {x y : Int} (hx : l[j]? = some x) (hy : l[j + 1]? = some y) (hn : tl y ≠ 0) : ∃ v, AbleIs M 63 x v ∧ AbleIs M 63 y v := by
  obtain ⟨v, h1, -⟩ := h.able j x hx
  obtain ⟨t, ht, htg, hc⟩ := h.chain j x y hx hy
  rcases hc with ⟨hk, -⟩ | ⟨-, h0⟩
  · exact ⟨v, h1, AbleIs.mk_wrap ht (.inr hk) (by rw [htg]; exact h1)⟩
  · exact absurd h0 hn
theorem Cw.way (h : Cw M l tl c) : ∀ (j : Nat) (x : Int), l[j]? = some x → WayIs M x (l.take (j + 1)).reverse
  | 0, x, hj => by
    rw [h.head] at hj
    cases hj
    have : l.take 1 = [1] := by
      rw [List.take_add_one, h.head]
      rfl
    rw [this]
    exact WayIs.mk_base h.base rfl
  | j + 1, x, hj => by
    have hlt := (List.getElem?_eq_some_iff.1 hj).1
    have ih := h.way j l[j] (List.getElem?_eq_getElem (by omega))
    obtain ⟨t, ht, htg, hc⟩ := h.chain j l[j] x (List.getElem?_eq_getElem (by omega)) hj
    rw [← htg] at ih
    have hw : wrapsB t.kind = true := by
      rcases hc with ⟨hk, -⟩ | ⟨⟨hk, hs⟩ | hk, -⟩ <;> rw [hk] <;> rfl
    rw [List.take_add_one, hj]
    simp only [Option.toList_some, List.reverse_append, List.reverse_cons, List.reverse_nil, List.nil_append, List.singleton_append]
    exact WayIs.mk_wrap ht hw ih
theorem Cw.tw (h : Cw M l tl c) (hM : M.ok) (hc : ∀ n, 0 ≤ c n ∧ c n ≤ 9007199254740992) : TW M := fun r t ht hk => by
  obtain ⟨hh, tg, n, h', rfl, hn⟩ := h.taps r t ht hk
  exact ⟨hh, tg, n, h', c n, rfl, hn, hM.homes _ _ hn (show ¬ ((3 : Int) = 14) by decide), (hc n).1, (hc n).2⟩
/-- What one wrapper is. -/
theorem Cw.one (h : Cw M l tl c) {j : Nat} {x y : Int} (hx : l[j]? = some x) (hy : l[j + 1]? = some y) :
    (tl y ≠ 0 ∧ ∃ hh tg h', M.at y = some (tapT hh tg (tl y)) ∧ M.at (tl y) = some (tallyT h' (c (tl y)))) ∨ (tl y = 0 ∧ ∃ t, M.at y = some t ∧ t.kind ≠ 16) := by
  obtain ⟨t, ht, -, hc⟩ := h.chain j x y hx hy
  rcases hc with ⟨hk, hb, hn⟩ | ⟨hk, h0⟩
  · obtain ⟨hh, tg, n, h', rfl, hn'⟩ := h.taps y t ht hk
    obtain rfl : n = tl y := hb
    exact .inl ⟨hn, hh, tg, h', ht, hn'⟩
  · refine .inr ⟨h0, t, ht, ?_⟩
    rcases hk with ⟨hk, -⟩ | hk <;> rw [hk] <;> decide
theorem Cw.cnt (h : Cw M l tl c) {q : Int} (hq : q ∈ l) (hc : ∀ n, 0 ≤ c n ∧ c n < 9007199254740992) : Cw (M.cnt q) l tl (bump tl c q) := by
  obtain ⟨j, hj, e⟩ := List.getElem_of_mem hq
  have hj' : l[j]? = some q := by rw [List.getElem?_eq_getElem hj, e]
  match j, hj, hj' with
  | 0, _, hj' =>
    rw [h.head] at hj'
    cases hj'
    rw [cnt_not h.base (by show (1 : Int) ≠ 16; decide), bump_no h.tl1]
    exact h
  | j + 1, hj, hj' =>
    rcases h.one (List.getElem?_eq_getElem (show j < l.length by omega)) hj' with ⟨hn, hh, tg, h', ht, hn'⟩ | ⟨h0, t, ht, hk⟩
    · rw [cnt_tap ht hn']
      have hup : up (c (tl q)) = c (tl q) + 1 := by
        have := hc (tl q)
        unfold up
        omega
      rw [hup]
      exact {
        base := by
          rw [WM.set_at_ne _ _ (fun e => by rw [← e, h.base] at hn'; cases hn')]
          exact h.base
        head := h.head
        chain := fun j x y hx hy => by
          obtain ⟨v, hv, h1, h2⟩ := h.chain j x y hx hy
          have : y ≠ tl q := fun e => by
            rw [← e, hv] at hn'
            cases hn'
            rcases h2 with ⟨h3, -⟩ | ⟨⟨h3, -⟩ | h3, -⟩ <;> cases h3
          exact ⟨v, by rw [WM.set_at_ne _ _ this]; exact hv, h1, h2⟩
        tl1 := h.tl1
        taps := fun r t hr hk => by
          have hrn : r ≠ tl q := fun e => by
            subst e
            rw [WM.set_at_self _ hn'] at hr
            cases hr
            cases hk
          rw [WM.set_at_ne _ _ hrn] at hr
          obtain ⟨h1, tg1, n1, h1', rfl, hn1⟩ := h.taps r t hr hk
          by_cases e : n1 = tl q
          · subst e
            rw [hn'] at hn1
            cases hn1
            exact ⟨h1, tg1, _, h', rfl, by rw [WM.set_at_self _ hn']; simp [bump, hn]⟩
          · exact ⟨h1, tg1, n1, h1', rfl, by rw [WM.set_at_ne _ _ e, hn1]; simp [bump, e]⟩
        lite := fun r t hr => by
          rcases WM.set_at_some hr with ⟨rfl, rfl, -⟩ | ⟨-, hr⟩
          · exact ⟨_, _, _, _, _, _, _, _, _, _, rfl, plain0⟩
          · exact h.lite r t hr }
    · rw [cnt_not ht hk, bump_no h0]
      exact h
theorem Cw.pass : ∀ (xs : List Int) {M : WM} {c : Int → Int}, Cw M l tl c → (∀ q ∈ xs, q ∈ l) → (∀ n, 0 ≤ c n ∧ c n + xs.length ≤ 9007199254740992) → Cw (M.pass xs) l tl (xs.foldl (bump tl) c)
  | [], _, _, h, _, _ => h
  | q :: xs, M, c, h, hx, hc => by
    have h1 := h.cnt (hx q (by simp)) fun n => by have := hc n; simp at this; omega
    exact Cw.pass xs h1 (fun y hy => hx y (by simp [hy])) fun n => by
      have h2 := hc n
      have h3 := fold_le tl c [q] n
      simp only [List.foldl_cons, List.foldl_nil, List.length_cons, List.length_nil] at h2 h3
      omega
/-- The taps on a way. -/
theorem Cw.taps_up (h : Cw M l tl c) {j : Nat} {x y : Int} (hx : l[j]? = some x) (hy : l[j + 1]? = some y) : M.tapsL (l.take (j + 2)).reverse = if tl y ≠ 0 then y :: M.tapsL (l.take (j + 1)).reverse else M.tapsL (l.take (j + 1)).reverse := by
  rw [List.take_add_one (i := j + 1), hy]
  simp only [Option.toList_some, List.reverse_append, List.reverse_cons, List.reverse_nil, List.nil_append, List.singleton_append]
  unfold WM.tapsL
  rw [List.filter_cons]
  rcases h.one hx hy with ⟨hn, hh, tg, h', ht, -⟩ | ⟨h0, t, ht, hk⟩
  · rw [if_pos hn]
    have : M.kindOf y = 16 := by unfold WM.kindOf; rw [ht]; rfl
    rw [this]
    rfl
  · have : (M.kindOf y == 16) = false := by unfold WM.kindOf; rw [ht]; simpa using hk
    rw [this, h0]
    rfl
theorem Cw.last (h : Cw M l tl c) (j : Nat) : (l.take (j + 1)).reverse.getLast?.getD 0 = 1 := by
  rw [List.getLast?_reverse]
  rw [List.head?_eq_getElem?, List.getElem?_take, if_pos (by omega), h.head]
  rfl
end
end Go.Proofs.YtmefjkggibbhoaaGreat
/- TapOthers: what a pass does to each thing: as plain data. -/
namespace Go.Proofs.YtmefjkggibbhoaaGreat
open Go.RowKit

/-- A thing that has counted d more. -/
def addN (t : Th) (d : Int) : Th := { t with n := t.n + d }
theorem addN_zero (t : Th) : addN t 0 = t := by
  unfold addN
  rw [Int.add_zero]
theorem addN_add (t : Th) (d e : Int) : addN (addN t d) e = addN t (d + e) := by
  unfold addN
  simp [Int.add_assoc]
/-- How often the tally r counts, where what is in xs is passed. -/
def hits (tl : Int → Int) (xs : List Int) (r : Int) : Int := ((xs.filter fun q => decide (tl q ≠ 0 ∧ r = tl q)).length : Int)
theorem hits_cons (tl : Int → Int) (q : Int) (xs : List Int) (r : Int) : hits tl (q :: xs) r = (if tl q ≠ 0 ∧ r = tl q then 1 else 0) + hits tl xs r := by
  unfold hits
  rw [List.filter_cons]
  by_cases h : tl q ≠ 0 ∧ r = tl q
  · simp only [h, decide_true, if_true, List.length_cons, and_self, ne_eq, not_false_eq_true]
    omega
  · simp only [h, decide_false, if_false]
    simp
theorem hits_nonneg (tl : Int → Int) (xs : List Int) (r : Int) : 0 ≤ hits tl xs r := by
  unfold hits
  omega
theorem hits_le (tl : Int → Int) (xs : List Int) (r : Int) : hits tl xs r ≤ xs.length := by
  unfold hits
  have := List.length_filter_le (fun q => decide (tl q ≠ 0 ∧ r = tl q)) xs
  omega
section
variable {M : WM} {l : List Int} {tl c : Int → Int}
theorem Cw.cnt_thing (h : Cw M l tl c) {q : Int} (hq : q ∈ l) (hc : ∀ n, 0 ≤ c n ∧ c n < 9007199254740992) {r : Int} {t : Th} (hr : M.at r = some t) : (M.cnt q).at r = some (addN t (if tl q ≠ 0 ∧ r = tl q then 1 else 0)) := by
  obtain ⟨j, hj, e⟩ := List.getElem_of_mem hq
  have hj' : l[j]? = some q := by rw [List.getElem?_eq_getElem hj, e]
  match j, hj, hj' with
  | 0, _, hj' =>
    rw [h.head] at hj'
    cases hj'
    rw [cnt_not h.base (by show (1 : Int) ≠ 16; decide), if_neg (fun e => e.1 h.tl1), addN_zero]
    exact hr
  | j + 1, hj, hj' =>
    rcases h.one (List.getElem?_eq_getElem (show j < l.length by omega)) hj' with ⟨hn, hh, tg, h', ht, hn'⟩ | ⟨h0, u, hu, hk⟩
    · rw [cnt_tap ht hn']
      by_cases e : r = tl q
      · subst e
        rw [hn'] at hr
        cases hr
        have hup : up (c (tl q)) = c (tl q) + 1 := by
          have := hc (tl q)
          unfold up
          omega
        rw [WM.set_at_self _ hn', if_pos ⟨hn, rfl⟩, hup]
        rfl
      · rw [WM.set_at_ne _ _ e, if_neg (fun x => e x.2), addN_zero]
        exact hr
    · rw [cnt_not hu hk, if_neg (fun x => x.1 h0), addN_zero]
      exact hr
theorem Cw.pass_thing : ∀ (xs : List Int) {M : WM} {c : Int → Int}, Cw M l tl c → (∀ q ∈ xs, q ∈ l) → (∀ n, 0 ≤ c n ∧ c n + xs.length ≤ 9007199254740992) → ∀ {r : Int} {t : Th}, M.at r = some t → (M.pass xs).at r = some (addN t (hits tl xs r))
  | [], _, _, _, _, _, r, t, hr => by
    show _ = some (addN t 0)
    rw [addN_zero]
    exact hr
  | q :: xs, M, c, h, hx, hc, r, t, hr => by
    have hc' : ∀ n, 0 ≤ c n ∧ c n < 9007199254740992 := fun n => by have := hc n; simp at this; omega
    have h1 := h.cnt (hx q (by simp)) hc'
    have h2 := h.cnt_thing (hx q (by simp)) hc' hr
    have h3 := Cw.pass_thing xs h1 (fun y hy => hx y (by simp [hy])) (fun n => by
      have h2 := hc n
      have h3 := fold_le tl c [q] n
      simp only [List.foldl_cons, List.foldl_nil, List.length_cons, List.length_nil] at h2 h3
      omega) h2
    rw [addN_add, ← hits_cons] at h3
    exact h3
end
theorem cnt_back {M : WM} {q r : Int} {u : Th} (h : (M.cnt q).at r = some u) : ∃ t, M.at r = some t := by
  unfold WM.cnt at h
  repeat' split at h
  all_goals first
    | exact ⟨u, h⟩
    | (rcases WM.set_at_some h with ⟨-, -, t, ht⟩ | ⟨-, ht⟩
       · exact ⟨t, ht⟩
       · exact ⟨u, ht⟩)
theorem pass_back : ∀ (xs : List Int) {M : WM} {r : Int} {u : Th}, (M.pass xs).at r = some u → ∃ t, M.at r = some t
  | [], _, _, u, h => ⟨u, h⟩
  | q :: xs, M, r, u, h => by
    obtain ⟨t, ht⟩ := pass_back xs (M := M.cnt q) h
    exact cnt_back ht
theorem cnt_len (M : WM) (q : Int) : (M.cnt q).things.length = M.things.length := by
  unfold WM.cnt
  repeat' split
  all_goals first | rfl | exact WM.set_len _ _ _
theorem pass_len : ∀ (xs : List Int) (M : WM), (M.pass xs).things.length = M.things.length
  | [], _ => rfl
  | q :: xs, M => (pass_len xs (M.cnt q)).trans (cnt_len M q)
/-- The tallies of the taps on the way are what turns. -/
theorem Cw.turned {M : WM} {l : List Int} {tl c : Int → Int} (h : Cw M l tl c) (xs : List Int) (hx : ∀ q ∈ xs, q ∈ l) (r : Int) : r ∈ (M.tapsL xs).map tl ↔ hits tl xs r ≠ 0 := by
  have hkey : ∀ q ∈ l, (M.kindOf q == 16) = true ↔ tl q ≠ 0 := fun q hq => by
    obtain ⟨j, hj, e⟩ := List.getElem_of_mem hq
    have hj' : l[j]? = some q := by rw [List.getElem?_eq_getElem hj, e]
    match j, hj, hj' with
    | 0, _, hj' =>
      rw [h.head] at hj'
      cases hj'
      rw [h.tl1]
      unfold WM.kindOf
      rw [h.base]
      simp [lt]
    | j + 1, hj, hj' =>
      rcases h.one (List.getElem?_eq_getElem (show j < l.length by omega)) hj' with ⟨hn, hh, tg, h', ht, hn'⟩ | ⟨h0, u, hu, hk⟩
      · have : M.kindOf q = 16 := by unfold WM.kindOf; rw [ht]; rfl
        simp [this, hn]
      · have : M.kindOf q = u.kind := by unfold WM.kindOf; rw [hu]; rfl
        simp [this, h0, hk]
  unfold hits WM.tapsL
  constructor
  · intro hr
    obtain ⟨q, hq, e⟩ := List.mem_map.1 hr
    obtain ⟨h1, h2⟩ := List.mem_filter.1 hq
    have h3 : q ∈ xs.filter fun q => decide (tl q ≠ 0 ∧ r = tl q) := List.mem_filter.2 ⟨h1, decide_eq_true ⟨(hkey q (hx q h1)).1 h2, e.symm⟩⟩
    have := List.length_pos_of_mem h3
    omega
  · intro hr
    have hne : (xs.filter fun q => decide (tl q ≠ 0 ∧ r = tl q)) ≠ [] := fun e => hr (by rw [e]; rfl)
    obtain ⟨q, hq⟩ := List.exists_mem_of_ne_nil _ hne
    obtain ⟨h1, h2⟩ := List.mem_filter.1 hq
    have h2 := of_decide_eq_true h2
    exact List.mem_map.2 ⟨q, List.mem_filter.2 ⟨h1, (hkey q (hx q h1)).2 h2.1⟩, h2.2.symm⟩
end Go.Proofs.YtmefjkggibbhoaaGreat
/- TapOrders: passes in whatever order come to the same: as plain data. -/
namespace Go.Proofs.YtmefjkggibbhoaaGreat
open Go.RowKit

def sumI (f : Int → Int) : List Int → Int
  | [] => 0
  | x :: l => f x + sumI f l
theorem sumI_set (f : Int → Int) : ∀ (l : List Int) (i : Nat) (a v : Int), l[i]? = some a → sumI f (l.set i v) = sumI f l - f a + f v
  | [], i, a, v, h => by simp at h
  | x :: l, 0, a, v, h => by
    simp at h
    subst h
    show f v + sumI f l = f x + sumI f l - f x + f v
    omega
  | x :: l, i + 1, a, v, h => by
    have := sumI_set f l i a v (by simpa using h)
    show f x + sumI f (l.set i v) = f x + sumI f l - f a + f v
    omega
/-- Two places exchanged. -/
def swapL (l : List Int) (i j : Nat) (a b : Int) : List Int := (l.set i b).set j a
theorem sumI_swap (f : Int → Int) {l : List Int} {i j : Nat} {a b : Int} (ha : l[i]? = some a) (hb : l[j]? = some b) : sumI f (swapL l i j a b) = sumI f l := by
  have hi := (List.getElem?_eq_some_iff.1 ha).1
  have h1 := sumI_set f l i a b ha
  have h2 : (l.set i b)[j]? = some b := by
    rw [List.getElem?_set]
    by_cases e : i = j
    · subst e
      simp [hi]
    · rw [if_neg e]
      exact hb
  have h3 := sumI_set f (l.set i b) j b a h2
  unfold swapL
  omega
theorem swapL_len (l : List Int) (i j : Nat) (a b : Int) : (swapL l i j a b).length = l.length := by simp [swapL]
theorem swapL_mem {l : List Int} {i j : Nat} {a b x : Int} (ha : l[i]? = some a) (hb : l[j]? = some b) (hx : x ∈ swapL l i j a b) : x ∈ l := by
  rcases List.mem_or_eq_of_mem_set hx with h | rfl
  · rcases List.mem_or_eq_of_mem_set h with h | rfl
    · exact h
    · exact List.mem_of_getElem? hb
  · exact List.mem_of_getElem? ha

theorem hits_append (tl : Int → Int) (xs ys : List Int) (r : Int) : hits tl (xs ++ ys) r = hits tl xs r + hits tl ys r := by
  unfold hits
  rw [List.filter_append, List.length_append]
  omega
/-- The way of a pass, of several passes. -/
def wayOf (l : List Int) (m : Nat) (x : Int) : List Int := (l.take ((x % (m : Int)).toNat + 1)).reverse
def waysOf (l : List Int) (m : Nat) (xs : List Int) : List Int := xs.flatMap (wayOf l m)
theorem hits_ways (tl : Int → Int) (l : List Int) (m : Nat) (r : Int) : ∀ xs, hits tl (waysOf l m xs) r = sumI (fun x => hits tl (wayOf l m x) r) xs
  | [] => rfl
  | x :: xs => by
    show hits tl (wayOf l m x ++ waysOf l m xs) r = _
    rw [hits_append, hits_ways tl l m r xs]
    rfl
theorem waysOf_snoc (l : List Int) (m : Nat) (xs : List Int) (x : Int) : waysOf l m (xs ++ [x]) = waysOf l m xs ++ wayOf l m x := by simp [waysOf]
theorem wayOf_sub (l : List Int) (m : Nat) (x : Int) : ∀ q ∈ wayOf l m x, q ∈ l := fun _ hq => List.mem_of_mem_take (List.mem_reverse.1 hq)
theorem waysOf_sub (l : List Int) (m : Nat) (xs : List Int) : ∀ q ∈ waysOf l m xs, q ∈ l := fun q hq => by
  obtain ⟨x, -, h⟩ := List.mem_flatMap.1 hq
  exact wayOf_sub l m x q h
theorem wayOf_len (l : List Int) (m : Nat) (x : Int) : (wayOf l m x).length ≤ l.length := by
  unfold wayOf
  rw [List.length_reverse, List.length_take]
  omega
theorem waysOf_len (l : List Int) (m : Nat) : ∀ xs : List Int, (waysOf l m xs).length ≤ xs.length * l.length
  | [] => by simp [waysOf]
  | x :: xs => by
    have h1 := waysOf_len l m xs
    have h2 := wayOf_len l m x
    show (wayOf l m x ++ waysOf l m xs).length ≤ (xs.length + 1) * l.length
    rw [List.length_append, Nat.succ_mul]
    omega
theorem pass_append (M : WM) (xs ys : List Int) : M.pass (xs ++ ys) = (M.pass xs).pass ys := by simp [WM.pass]

/-- All but the things stays, and the things' numbers. -/
theorem cnt_shape (M : WM) (q : Int) : ∃ T, M.cnt q = { M with things := T } ∧ T.map (·.1) = M.things.map (·.1) := by
  unfold WM.cnt
  repeat' split
  all_goals first
    | exact ⟨M.things, rfl, rfl⟩
    | (refine ⟨_, rfl, ?_⟩
       rw [List.map_map]
       apply List.map_congr_left
       intro x _
       show (if x.1 = _ then (x.1, _) else x).1 = x.1
       split <;> rfl)
theorem pass_shape : ∀ (xs : List Int) (M : WM), ∃ T, M.pass xs = { M with things := T } ∧ T.map (·.1) = M.things.map (·.1)
  | [], M => ⟨M.things, rfl, rfl⟩
  | q :: xs, M => by
    obtain ⟨T, h1, h2⟩ := cnt_shape M q
    obtain ⟨U, h3, h4⟩ := pass_shape xs (M.cnt q)
    refine ⟨U, ?_, ?_⟩
    · show (M.cnt q).pass xs = _
      rw [h3, h1]
    · rw [h4, h1]
      exact h2
theorem lookup_keys : ∀ {l : List (Int × Th)} {r : Int}, r ∉ l.map (·.1) → l.lookup r = none
  | [], _, _ => rfl
  | x :: l, r, h => by
    simp only [List.map_cons, List.mem_cons, not_or] at h
    have : (r == x.1) = false := by simpa using h.1
    rw [List.lookup_cons, this]
    exact lookup_keys h.2
theorem eq_of_keys : ∀ {A B : List (Int × Th)}, A.map (·.1) = B.map (·.1) → (A.map (·.1)).Nodup → (∀ r, A.lookup r = B.lookup r) → A = B
  | [], [], _, _, _ => rfl
  | [], b :: B, h, _, _ => by simp at h
  | a :: A, [], h, _, _ => by simp at h
  | (k, t) :: A, (k', t') :: B, h, hn, hl => by
    simp only [List.map_cons, List.cons.injEq] at h
    obtain ⟨rfl, hk⟩ := h
    simp only [List.map_cons, List.nodup_cons] at hn
    have h1 := hl k
    simp only [List.lookup_cons, beq_self_eq_true] at h1
    obtain rfl := Option.some.inj h1
    have : A = B := eq_of_keys hk hn.2 fun r => by
      by_cases e : r = k
      · subst e
        rw [lookup_keys hn.1, lookup_keys (by rw [← hk]; exact hn.1)]
      · have := hl r
        have hr : (r == k) = false := by simpa using e
        rw [List.lookup_cons, List.lookup_cons, hr] at this
        exact this
    rw [this]
/-- The law. -/
theorem pass_same {M : WM} {l : List Int} {tl : Int → Int} (h : Cw M l tl fun _ => 0) (hM : M.ok) {xs ys : List Int} (hx : ∀ q ∈ xs, q ∈ l) (hy : ∀ q ∈ ys, q ∈ l) (lx : xs.length ≤ 1000000) (ly : ys.length ≤ 1000000) (hh : ∀ r, hits tl xs r = hits tl ys r) : M.pass xs = M.pass ys := by
  obtain ⟨T, h1, h2⟩ := pass_shape xs M
  obtain ⟨U, h3, h4⟩ := pass_shape ys M
  have hat : ∀ r, T.lookup r = U.lookup r := fun r => by
    show ({ M with things := T } : WM).at r = ({ M with things := U } : WM).at r
    rw [← h1, ← h3]
    cases hr : M.at r with
    | none =>
      have n1 : (M.pass xs).at r = none := by
        cases e : (M.pass xs).at r with
        | none => rfl
        | some u =>
          obtain ⟨t, ht⟩ := pass_back xs e
          rw [hr] at ht
          cases ht
      have n2 : (M.pass ys).at r = none := by
        cases e : (M.pass ys).at r with
        | none => rfl
        | some u =>
          obtain ⟨t, ht⟩ := pass_back ys e
          rw [hr] at ht
          cases ht
      rw [n1, n2]
    | some t =>
      rw [h.pass_thing xs hx (fun n => by show (0 : Int) ≤ 0 ∧ (0 : Int) + _ ≤ _; omega) hr, h.pass_thing ys hy (fun n => by show (0 : Int) ≤ 0 ∧ (0 : Int) + _ ≤ _; omega) hr, hh r]
  have hnd : (T.map (·.1)).Nodup := by
    rw [h2]
    have := hM.keys
    rw [List.Nodup, List.pairwise_map]
    exact this.imp fun h => by omega
  rw [h1, h3, eq_of_keys (h2.trans h4.symm) hnd hat]
end Go.Proofs.YtmefjkggibbhoaaGreat
