/- A part of the proof, several texts in one: TapD, CntA, Free. -/
import Derived.Test.YtmefjkggibbhoaamAP
import Derived.Maps.AppendAt
import Derived.Test.YtmefjkggibbhoaamAC
import Derived.Test.YtmefjkggibbhoaamAD
import Derived.Deep.QuietTactic
import Derived.BigQuiet
/- Taps: Pass; the taps on a way. -/
namespace Go.Proofs.Ytmefjkggibbhoaa
open Go.RowKit Go.ChangeMaps Go.MapKept

theorem Pass_W {w : World} {p : Nat} {M : WM} {F : Nat → Prop} (hW : IsW w p M F) (hT : TW M) {r : Int} {l : List Int} (hl : WayIs M r l) {t0 : Th} (hr : M.at r = some t0) :
    Calls Try.prog 28 #[.pointer (some ⟨p, 0, none⟩), .int .i64 r] w fun e w' => e = .returned (.int .i64 0) ∧ IsW w' p (M.pass l) F ∧ Keeps F w w' := by
  have hmf : ∀ (fn : Fn) (first cap : Array Value) (w : World), (Instr.makeFunc fn first cap).run Try.prog w = .ok (.func fn first cap) w := fun _ _ _ _ => rfl
  have HP := (show Hid _ from walkPass_W hW hT hl hr)
  clear hW hT hl hr
  go_enter Try.func28, Try.ntmps28
  go_wp2_with fail
  refine Calls.mono HP.out ?_
  rintro e w1 ⟨rfl, h1, h2⟩
  have H1 := (show Hid _ from And.intro h1 h2)
  clear h1 h2
  go_wp2_with fail
  go_ret
  exact ⟨rfl, H1.out.1, H1.out.2⟩

/-- A list of references that a call makes grows by one; where it lies then. -/
theorem append_refT {w : World} {ops : Array Oper} {rest : List Oper} {o : Oper} {a : Act} {Q : Exit → Act → World → Prop} (hgd : o.guard = none) (s x : Operand)
    (ho : o.op = .call { callee := .builtin .append, args := #[s, x], argTypes := #[66, 66] }) (base : Nat)
    (v : Value) (l : List Int) (n : Nat) (hs : a.eval s = v) (hown : Hid (w.ownsRow base 30 1 v n (l.map (Value.int .i64)))) (y : Int) (hx : a.eval x = .slice (some ⟨w.heap.size, 0, none⟩) 1 1)
    (hn : Hid ((n : Int) ≤ 1099511627776)) (hbase : Hid (base ≤ w.heap.size))
    (h : ∀ v' w', Hid (w'.ownsRow base 30 1 v' (n + 1) ((l ++ [y]).map (Value.int .i64))) → Hid (w.grownBy w' v.ownBlock) → Hid (v'.ownBlock = v.ownBlock ∨ v'.ownBlock = some (w.heap.size + 1)) → wpList Try.prog ops Q rest (a.put o.dst v') w') : wpList Try.prog ops Q (o :: rest) a (w.alloc (.cells #[.int .i64 y] 30)) := by
  obtain ⟨i, hi, hz, h1, h2⟩ := info_parts infoRef
  have hn' := hn.out
  have hb2 : (n + 1) * 8 ≤ 1099511627777 * 8 := Nat.mul_le_mul_right _ (by omega)
  refine wpList_append_own_at _ hgd s x 66 ho base 30 i (.int .i64 0) 1 8 Try.underlying66 hi hz h1 h2 rfl (by decide) v n _ hs (hown.out.alloc _) ⟨w.heap.size, 0, none⟩ 1 1 [.int .i64 y] hx rfl (cell_one_new _ _ _) (by simp [Value.oneCell']) (by unfold maxLen; omega) (by omega) (by have := hbase.out; simp; omega) ?_
  intro v' w' r1 r2 _ r4
  exact h v' w' (by show World.ownsRow _ _ _ _ _ _ _; simpa using r1) ((World.grownBy_alloc w _ _).trans r2) (by show _ ∨ _; simpa using r4)
/-- The taps among some. -/
def WM.tapsL (M : WM) (l : List Int) : List Int := l.filter fun q => M.kindOf q == 16
/-- While the taps are gathered. -/
def TapsAt (w w1 : World) (base B : Nat) (xs : List Int) (wr : World) : Prop :=
  ∃ v, wr.heap[B]? = some (.cells #[v] 119 (0, 0)) ∧ wr.ownsRow base 30 1 v xs.length (xs.map (Value.int .i64)) ∧ (∀ b, v.ownBlock = some b → w1.heap.size ≤ b) ∧ Below base w wr ∧ w1.heap.size ≤ wr.heap.size ∧ ∀ b, b < w1.heap.size → b ≠ B → wr.heap[b]? = w1.heap[b]?
def TapsPost (w : World) (base B : Nat) (xs : List Int) (w' : World) : Prop :=
  ∃ v, w'.heap[B]? = some (.cells #[v] 119 (0, 0)) ∧ w'.ownsRow base 30 1 v xs.length (xs.map (Value.int .i64)) ∧ Below base w w'
/-- What add leaves. -/
def AddPost (w : World) (base B : Nat) (v : Value) (xs : List Int) (q : Int) (w' : World) : Prop :=
  ∃ v', w'.heap[B]? = some (.cells #[v'] 119 (0, 0)) ∧ w'.ownsRow base 30 1 v' (xs ++ [q]).length ((xs ++ [q]).map (Value.int .i64)) ∧ (v'.ownBlock = v.ownBlock ∨ v'.ownBlock = some (w.heap.size + 1)) ∧ Keeps (fun b => b = B ∨ v.ownBlock = some b) w w'

theorem add_box {w w1 : World} {v : Value} {B : Nat} {o : Obj} (hg : w.grownBy w1 v.ownBlock) (hB : w.heap[B]? = some o) (hne : v.ownBlock ≠ some B) : w1.heap[B]? = some o :=
  (hg.block B (blk_lt hB) (fun e => hne e.symm)).trans hB
theorem box_is {W : World} {B : Nat} {v : Value} {t : TypeId} (h : W.heap[B]? = some (.cells #[v] t (0, 0))) : W.cell? ⟨B, 0, none⟩ = some v ∧ W.frozen? ⟨B, 0, none⟩ = false := by
  constructor <;> simp [World.cell?, World.frozen?, h]
theorem row_succ {w : World} {base : Nat} {e : TypeId} {v : Value} {n : Nat} {xs : List Value} (h : w.ownsRow base e 1 v (n + 1) xs) : ∃ g cap, v = .slice (some ⟨g, 0, none⟩) (n + 1) cap := by
  rcases h.2 with ⟨-, h⟩ | ⟨g, cap, cur, rfl, -⟩
  · omega
  · exact ⟨g, cap, rfl⟩
set_option maxRecDepth 8000 in
theorem add_W (w : World) {B base : Nat} {v : Value} {xs : List Int} (q : Int) (hB : w.heap[B]? = some (.cells #[v] 119 (0, 0))) (hrow : w.ownsRow base 30 1 v xs.length (xs.map (Value.int .i64))) (hne : v.ownBlock ≠ some B) (hbase : base ≤ w.heap.size) (hlen : (xs.length : Int) ≤ 1099511627776) :
    Calls Try.prog 70 #[.pointer (some ⟨B, 0, none⟩), .int .i64 q] w fun e w' => e = .returned (.tuple #[]) ∧ Hid (AddPost w base B v xs q w') := by
  have c0 : w.cell? ⟨B, 0, none⟩ = some v := by rw [cell_blk hB]; rfl
  have HB := (show Hid _ from hB)
  have HR := (show Hid (w.ownsRow base 30 1 v xs.length (xs.map (Value.int .i64))) from hrow)
  have Hne := (show Hid (v.ownBlock ≠ some B) from hne)
  have Hba := (show Hid (base ≤ w.heap.size) from hbase)
  have Hlen := (show Hid ((xs.length : Int) ≤ 1099511627776) from hlen)
  clear hB hrow hne hbase hlen
  go_enter Try.func70, Try.ntmps70
  go_wp2_with (at_builtin; refine append_refT rfl _ _ rfl base v xs xs.length rfl HR q rfl Hlen Hba ?_; intro v' w1 hrow1 hg1 hown1; obtain ⟨g5, cap5, h5⟩ := row_succ hrow1.out; subst h5; have hB1 := add_box hg1.out HB.out Hne.out; obtain ⟨cB, fB⟩ := box_is hB1)
  have hBlt := blk_lt HB.out
  have hk : Keeps (fun b => v.ownBlock = some b) w w1 := Keeps.of_grown hg1.out (fun x hx => hx)
  have HAP : Hid (AddPost w base B v xs q (w1.setCell ⟨B, 0, none⟩ (.slice (some ⟨g5, 0, none⟩) (xs.length + 1) cap5))) := by
    have hs := blk_setCell hB1 0 (.slice (some ⟨g5, 0, none⟩) (xs.length + 1) cap5)
    refine ⟨.slice (some ⟨g5, 0, none⟩) (xs.length + 1) cap5, hs, ?_, hown1.out, hk.trans (Keeps.setCell (S := fun b => b = B) w1 ⟨B, 0, none⟩ _ rfl) (fun _ _ h => .inr h) (fun _ _ h => .inl h)⟩
    have hne' : (Value.slice (some ⟨g5, 0, none⟩) (xs.length + 1) cap5).ownBlock ≠ some B := fun e => by
      rcases hown1.out with h | h
      · exact Hne.out (h.symm.trans e)
      · rw [h] at e
        simp only [Option.some.injEq] at e
        omega
    have hr := hrow1.out
    refine ⟨by simp, ?_⟩
    rcases hr.2 with ⟨h1, h2⟩ | ⟨g, cap, cur, he, h1, h2, h3⟩
    · exact absurd h2 (by omega)
    · cases he
      refine .inr ⟨g5, cap5, cur, by simp, h1, (blk_other h2 ⟨B, 0, none⟩ _ (fun e => hne' (by simp [Value.ownBlock, e]))), by simpa using h3⟩
  clear hBlt hk hB1 hrow1 hg1 hown1 HB HR c0
  go_wp2_with fail
  go_end0
  exact ⟨rfl, HAP⟩

theorem tapsL_snoc (M : WM) (l : List Int) (q : Int) : M.tapsL (l ++ [q]) = if M.kindOf q = 16 then M.tapsL l ++ [q] else M.tapsL l := by
  unfold WM.tapsL
  rw [List.filter_append]
  by_cases h : M.kindOf q = 16 <;> simp [h]
theorem keeps_from {base : Nat} {w w' : World} (h : Below base w w') : Keeps (fun b => base ≤ b) w w' := ⟨h.os, h.tape, h.output, h.size, fun b _ hn => h.block b (by omega)⟩
theorem TapsAt.add {w w1 : World} {base B : Nat} {xs : List Int} {wr w2 : World} {v : Value} {q : Int} (hb : base ≤ B) (hB : B < w1.heap.size) (hv : ∀ b, v.ownBlock = some b → w1.heap.size ≤ b) (h4 : Below base w wr) (h5 : w1.heap.size ≤ wr.heap.size)
    (h6 : ∀ b, b < w1.heap.size → b ≠ B → wr.heap[b]? = w1.heap[b]?) (hbw : base ≤ w.heap.size) (h : AddPost wr base B v xs q w2) : TapsAt w w1 base B (xs ++ [q]) w2 := by
  obtain ⟨v', a1, a2, a3, a4⟩ := h
  refine ⟨v', a1, a2, fun b hb' => ?_, h4.trans (Keeps.below a4 (Nat.le_trans hbw h4.size) (fun x hx => ?_)), Nat.le_trans h5 a4.size, fun b h1 h2 => ?_⟩
  · rcases a3 with e | e
    · exact hv b (e.symm.trans hb')
    · rw [e] at hb'
      simp only [Option.some.injEq] at hb'
      omega
  · rcases hx with rfl | hx
    · exact hb
    · have := hv x hx
      omega
  · refine (a4.block b (by omega) (fun e => ?_)).trans (h6 b h1 h2)
    rcases e with e | e
    · exact h2 e
    · have := hv b e
      omega

set_option maxHeartbeats 4000000 in
set_option maxRecDepth 100000 in
theorem walkTaps_W {w : World} {p : Nat} {M : WM} {F : Nat → Prop} {base B : Nat} (hW : IsW w p M F) (hF : Hid (∀ b, F b → b < base)) (hb : Hid (base ≤ B)) (hB : w.heap[B]? = some (.cells #[.slice none 0 0] 119 (0, 0))) {r : Int} {l : List Int} (hl : WayIs M r l) {t0 : Th} (hr : M.at r = some t0) :
    Calls Try.prog 65 #[.pointer (some ⟨p, 0, none⟩), .int .i64 r, .func (.func 70) #[.pointer (some ⟨B, 0, none⟩)] #[]] w fun e w' => e = .returned (.int .i64 0) ∧ Hid (TapsPost w base B (M.tapsL l) w') := by
  have hrw := hW.ok.at_wf hr
  have HS := (show Hid _ from Sides_W hW)
  have hI := Is_W hW hrw
  rw [hr] at hI
  have HI := (show Hid _ from hI)
  have HY := (show Hid _ from Way_W hW hrw hl)
  have hne : ((M.made.length : Int) == 0) = false := by
    have := hW.ok.made
    exact beq_eq_false_iff_ne.2 (by omega)
  have HW := (show Hid (IsW w p M F) from hW)
  have HB := (show Hid _ from hB)
  have HM := (show Hid (∀ q ∈ l, ∃ t, M.at q = some t) from way_mem l r hl)
  have Hlen : Hid ((l.length : Int) ≤ 1099511627777) := by
    obtain ⟨l', h1, h2⟩ := way_ex hW.ok r
    obtain rfl := hl.uniq h1
    have := hW.ok.last
    show _ ≤ _
    omega
  obtain ⟨n, hn⟩ : ∃ n, n = l.length := ⟨_, rfl⟩
  have Hn := (show Hid (n = l.length) from hn)
  rw [← hn] at HY Hlen
  clear hW hB hr hl hI hn
  go_enter Try.func65, Try.ntmps65
  go_wp2_with fail
  refine Calls.mono HS.out ?_
  rintro e _ ⟨rfl, rfl⟩
  go_wp2_with fail
  refine Calls.mono HI.out ?_
  rintro e _ ⟨rfl, rfl⟩
  go_wp2_with fail
  refine Calls.mono HY.out ?_
  rintro e w1 ⟨v, rfl, hrow, hb1⟩
  obtain ⟨a, cap, rfl, hcells⟩ := way_cells hrow
  have HB1 := (show Hid (Below w.heap.size w w1) from hb1)
  have HC := (show Hid (∀ k, k < n → ∃ g, a = some ⟨g, 0, none⟩ ∧ w.heap.size ≤ g ∧ g < w1.heap.size ∧ w1.cell? ⟨g, k, none⟩ = (l.map (Value.int .i64))[k]?) from hcells)
  have HBB : Hid (B < w1.heap.size ∧ base ≤ w.heap.size) := ⟨Nat.lt_of_lt_of_le (blk_lt HB.out) hb1.size, by have := hb.out; have := blk_lt HB.out; omega⟩
  have HT0 : Hid (TapsAt w w1 base B (M.tapsL (l.take 0)) w1) := ⟨.slice none 0 0, below_blk hb1 HB.out, ⟨rfl, .inl ⟨rfl, rfl⟩⟩, (fun b h => by cases h), hb1.mono HBB.out.2, Nat.le_refl _, fun b _ _ => rfl⟩
  clear hrow hcells hb1 HS HI HY
  go_wp2_with fail
  go_loopw [24] (fun vi wr => ∃ k : Nat, vi = .int .i64 k ∧ k ≤ n ∧ Hid (TapsAt w w1 base B (M.tapsL (l.take k)) wr)) (fun vi _ => n - (intOf vi).toNat)
  case atStart => exact ⟨0, rfl, Nat.zero_le _, HT0⟩
  case round =>
    clear HT0
    obtain ⟨k, rfl, hk, HR⟩ := hrel
    by_cases hkn : k < n
    · have hkz : (k : Int) < (n : Int) := by omega
      have hwk : wrap64 ((k : Int) + 1) = (k : Int) + 1 := by have := Hlen.out; unfold wrap64; omega
      obtain ⟨q, hq⟩ : ∃ q, l[k]? = some q := ⟨_, List.getElem?_eq_getElem (by have := Hn.out; omega)⟩
      have Htk : Hid (l.take (k + 1) = l.take k ++ [q]) := by show _ = _; rw [List.take_add_one, hq]; rfl
      obtain ⟨t, ht⟩ := HM.out q (List.mem_of_getElem? hq)
      obtain ⟨g, rfl, hg0, hg1, hgc⟩ := HC.out k hkn
      obtain ⟨v, hv1, hv2, hv3, hv4, hv5, hv6⟩ := HR.out
      have hgB : g ≠ B := by have := blk_lt HB.out; omega
      have hcell : wr.cell? ⟨g, k, none⟩ = some (.int .i64 q) := by
        rw [World.cell?_of_block (a := ⟨g, k, none⟩) (hv6 g hg1 hgB), hgc, List.getElem?_map, hq]
        rfl
      have hWr : IsW wr p M F := HW.out.keeps (keeps_from hv4) (fun b hb' => by have := hF.out b hb'; omega)
      have hkw := Kind_W hWr (HW.out.ok.at_wf ht)
      have HK := (show Hid _ from hkw)
      have HV := (show Hid _ from And.intro hv1 (And.intro hv2 (And.intro hv3 (And.intro hv4 (And.intro hv5 hv6)))))
      clear hq ht hgc hkw hWr hv1 hv2 hv3 hv4 hv5 hv6 hgB
      by_cases h16 : M.kindOf q = 16
      · have e16 : (M.kindOf q == 16) = true := by simpa using h16
        have Htp : Hid (M.tapsL (l.take (k + 1)) = M.tapsL (l.take k) ++ [q]) := by show _ = _; rw [Htk.out, tapsL_snoc, if_pos h16]
        have haw := add_W wr (B := B) (base := base) (v := v) (xs := M.tapsL (l.take k)) q HV.out.1 HV.out.2.1 (fun e => by have := HV.out.2.2.1 B e; have := HBB.out.1; omega) (by have := HV.out.2.2.2.2.1; have := HBB.out.1; have := hb.out; omega) (by
          have h1 : (M.tapsL (l.take k)).length ≤ (l.take k).length := List.length_filter_le _ _
          have h2 := Hlen.out
          rw [List.length_take] at h1
          omega)
        have HAW := (show Hid _ from haw)
        clear haw h16
        go_wp2_with fail
        refine Calls.mono HK.out ?_
        rintro e _ ⟨rfl, rfl⟩
        go_wp2_with fail
        refine Calls.mono HAW.out ?_
        rintro e w2 ⟨rfl, hA⟩
        have HR2 : Hid (TapsAt w w1 base B (M.tapsL (l.take (k + 1))) w2) := by
          rw [Htp.out]
          exact TapsAt.add hb.out HBB.out.1 HV.out.2.2.1 HV.out.2.2.2.1 HV.out.2.2.2.2.1 HV.out.2.2.2.2.2 HBB.out.2 hA.out
        clear hA HR HAW HK HV
        go_wp2_with fail
        go_roundw
        case rel => exact ⟨k + 1, by rw [hwk]; go_num, by omega, HR2⟩
        case measure => rw [hwk]; exact meas_up hkn
      · have e16 : (M.kindOf q == 16) = false := by simpa using h16
        have HR2 : Hid (TapsAt w w1 base B (M.tapsL (l.take (k + 1))) wr) := by
          rw [Htk.out, tapsL_snoc, if_neg h16]
          exact HR.out
        clear h16 HR HV
        go_wp2_with fail
        refine Calls.mono HK.out ?_
        rintro e _ ⟨rfl, rfl⟩
        go_wp2_with fail
        go_roundw
        case rel => exact ⟨k + 1, by rw [hwk]; go_num, by omega, HR2⟩
        case measure => rw [hwk]; exact meas_up hkn
    · have hkz : ¬ (k : Int) < (n : Int) := by omega
      obtain rfl : k = n := by omega
      have HR2 : Hid (TapsPost w base B (M.tapsL l) wr) := by
        obtain ⟨v, hv1, hv2, hv3, hv4, -⟩ := HR.out
        rw [Hn.out, List.take_length] at hv2
        exact ⟨v, hv1, hv2, hv4⟩
      clear HR
      go_wp2_with fail
      go_ret
      exact ⟨rfl, HR2⟩

set_option maxRecDepth 8000 in
theorem Taps_W {w : World} {p : Nat} {M : WM} {F : Nat → Prop} (hW : IsW w p M F) {r : Int} {l : List Int} (hl : WayIs M r l) {t0 : Th} (hr : M.at r = some t0) :
    Calls Try.prog 33 #[.pointer (some ⟨p, 0, none⟩), .int .i64 r] w fun e w' => ∃ v, e = .returned (.tuple #[v, .int .i64 0]) ∧ w'.ownsRow w.heap.size 30 1 v (M.tapsL l).length ((M.tapsL l).map (Value.int .i64)) ∧ Below w.heap.size w w' := by
  have hmf : ∀ (fn : Fn) (first cap : Array Value) (w : World), (Instr.makeFunc fn first cap).run Try.prog w = .ok (.func fn first cap) w := fun _ _ _ _ => rfl
  have hb1 : Below w.heap.size w (w.alloc (.cells #[.slice none 0 0] 119)) := (Below.refl _ _).alloc (Nat.le_refl _) _
  have HP := (show Hid _ from walkTaps_W (base := w.heap.size) (B := w.heap.size) (hW.below hb1) hW.lt (Nat.le_refl _) (blk_new _ _) hl hr)
  have HB1 := (show Hid _ from hb1)
  clear hW hl hr hb1
  go_enter Try.func33, Try.ntmps33
  go_wp2_with fail
  refine Calls.mono HP.out ?_
  rintro e w1 ⟨rfl, h1⟩
  obtain ⟨v, hv1, hv2, hv3⟩ := h1.out
  have cB : w1.cell? ⟨w.heap.size, 0, none⟩ = some v := by rw [cell_blk hv1]; rfl
  have H2 : Hid (w1.ownsRow w.heap.size 30 1 v (M.tapsL l).length ((M.tapsL l).map (Value.int .i64)) ∧ Below w.heap.size w w1) := ⟨hv2, HB1.out.trans hv3⟩
  clear hv1 hv2 hv3 h1
  go_wp2_with fail
  go_ret2
  exact ⟨v, rfl, H2.out.1, H2.out.2⟩
end Go.Proofs.Ytmefjkggibbhoaa
/- TapCounts: towers whose tallies count: as plain data. -/
namespace Go.Proofs.Ytmefjkggibbhoaa
open Go.RowKit

/-- A wrapper counts: its tally, where it has one, by one. -/
def bump (tl c : Int → Int) (q : Int) : Int → Int := fun n => if tl q ≠ 0 ∧ n = tl q then c n + 1 else c n
theorem fold_at (tl : Int → Int) : ∀ (xs : List Int) (c : Int → Int) (n : Int), xs.foldl (bump tl) c n = c n + ((xs.filter fun q => decide (tl q ≠ 0 ∧ n = tl q)).length : Int)
  | [], c, n => by simp
  | q :: xs, c, n => by
    rw [List.foldl_cons, fold_at tl xs, List.filter_cons]
    unfold bump
    by_cases h : tl q ≠ 0 ∧ n = tl q
    · simp only [h, and_self, if_true, decide_true, List.length_cons, ne_eq, not_false_eq_true]
      omega
    · simp only [h, if_false, decide_false]
      simp
theorem fold_rev (tl c : Int → Int) (xs : List Int) : xs.reverse.foldl (bump tl) c = xs.foldl (bump tl) c := by
  funext n
  rw [fold_at, fold_at, List.filter_reverse, List.length_reverse]
theorem fold_le (tl c : Int → Int) (xs : List Int) (n : Int) : c n ≤ xs.foldl (bump tl) c n ∧ xs.foldl (bump tl) c n ≤ c n + xs.length := by
  rw [fold_at]
  have := List.length_filter_le (fun q => decide (tl q ≠ 0 ∧ n = tl q)) xs
  omega
theorem bump_no {tl c : Int → Int} {q : Int} (h : tl q = 0) : bump tl c q = c := by
  funext n
  simp [bump, h]

/-- A tower l whose tallies have counted c. -/
structure Cw (M : WM) (l : List Int) (tl c : Int → Int) : Prop where
  base : M.at 1 = some (lt 1 0 0 0 0 0 0 0 0 false)
  head : l[0]? = some 1
  chain : ∀ (j : Nat) (x y : Int), l[j]? = some x → l[j + 1]? = some y → ∃ t, M.at y = some t ∧ t.tgt = x ∧ ((t.kind = 16 ∧ t.bi = tl y ∧ tl y ≠ 0) ∨ ((t.kind = 14 ∧ t.set = 0 ∨ t.kind = 15) ∧ tl y = 0))
  tl1 : tl 1 = 0
  taps : ∀ r t, M.at r = some t → t.kind = 16 → ∃ h tg n h', t = tapT h tg n ∧ M.at n = some (tallyT h' (c n))
  lite : ∀ r t, M.at r = some t → Lite t
theorem Tw.cw {M : WM} {l : List Int} {tl : Int → Int} {first : Int} {B : Nat} (h : Tw M l tl first B) : Cw M l tl (fun _ => 0) where
  base := h.base
  head := h.head
  chain := h.chain
  tl1 := h.tl1
  taps r t ht hk := by
    obtain ⟨h1, tg, n, e, hn⟩ := h.taps r t ht hk
    exact ⟨h1, tg, n, h1, e, hn⟩
  lite := h.lite
section
variable {M : WM} {l : List Int} {tl c : Int → Int}
theorem Cw.ne (h : Cw M l tl c) : 0 < l.length := (List.getElem?_eq_some_iff.1 h.head).1
theorem Cw.at (h : Cw M l tl c) {j : Nat} {x : Int} (hj : l[j]? = some x) : ∃ t, M.at x = some t := by
  match j with
  | 0 =>
    rw [h.head] at hj
    cases hj
    exact ⟨_, h.base⟩
  | j + 1 =>
    have hlt := (List.getElem?_eq_some_iff.1 hj).1
    obtain ⟨t, ht, -⟩ := h.chain j l[j] x (List.getElem?_eq_getElem (by omega)) hj
    exact ⟨t, ht⟩
theorem Cw.able (h : Cw M l tl c) : ∀ (j : Nat) (x : Int), l[j]? = some x → ∃ v, AbleIs M 63 x v ∧ AbleIs M 0 x 0
  | 0, x, hj => by
    rw [h.head] at hj
    cases hj
    exact ⟨3, AbleIs.mk_base h.base (by decide) (by decide), AbleIs.mk_base h.base (by decide) (by decide)⟩
  | j + 1, x, hj => by
    have hlt := (List.getElem?_eq_some_iff.1 hj).1
    obtain ⟨v, h1, h3⟩ := h.able j l[j] (List.getElem?_eq_getElem (by omega))
    obtain ⟨t, ht, htg, hc⟩ := h.chain j l[j] x (List.getElem?_eq_getElem (by omega)) hj
    rw [← htg] at h1 h3
    rcases hc with ⟨hk, -⟩ | ⟨⟨hk, hs⟩ | hk, -⟩
    · exact ⟨v, AbleIs.mk_wrap ht (.inr hk) h1, AbleIs.mk_wrap ht (.inr hk) h3⟩
    · refine ⟨0, AbleIs.mk_facet ht hk ?_, AbleIs.mk_facet ht hk ?_⟩
      · rw [hs]
        exact h3
      · rw [hs]
        exact h3
    · exact ⟨v, AbleIs.mk_wrap ht (.inl hk) h1, AbleIs.mk_wrap ht (.inl hk) h3⟩
/-- A tap has the abilities of what is below it. -/
theorem Cw.able_tap (h : Cw M l tl c) {j : Nat} {x y : Int} (hx : l[j]? = some x) (hy : l[j + 1]? = some y) (hn : tl y ≠ 0) : ∃ v, AbleIs M 63 x v ∧ AbleIs M 63 y v := by
  obtain ⟨v, h1, -⟩ := h.able j x hx
  obtain ⟨t, ht, htg, hc⟩ := h.chain j x y hx hy
  rcases hc with ⟨hk, -⟩ | ⟨-, h0⟩
  · exact ⟨v, h1, AbleIs.mk_wrap ht (.inr hk) (by rw [htg]; exact h1)⟩
  · exact absurd h0 hn
theorem Cw.way (h : Cw M l tl c) : ∀ (j : Nat) (x : Int), l[j]? = some x → WayIs M x (l.take (j + 1)).reverse
  | 0, x, hj => by
    rw [h.head] at hj
    cases hj
    have : l.take 1 = [1] := by
      rw [List.take_add_one, h.head]
      rfl
    rw [this]
    exact WayIs.mk_base h.base rfl
  | j + 1, x, hj => by
    have hlt := (List.getElem?_eq_some_iff.1 hj).1
    have ih := h.way j l[j] (List.getElem?_eq_getElem (by omega))
    obtain ⟨t, ht, htg, hc⟩ := h.chain j l[j] x (List.getElem?_eq_getElem (by omega)) hj
    rw [← htg] at ih
    have hw : wrapsB t.kind = true := by
      rcases hc with ⟨hk, -⟩ | ⟨⟨hk, hs⟩ | hk, -⟩ <;> rw [hk] <;> rfl
    rw [List.take_add_one, hj]
    simp only [Option.toList_some, List.reverse_append, List.reverse_cons, List.reverse_nil, List.nil_append, List.singleton_append]
    exact WayIs.mk_wrap ht hw ih
theorem Cw.tw (h : Cw M l tl c) (hM : M.ok) (hc : ∀ n, 0 ≤ c n ∧ c n ≤ 9007199254740992) : TW M := fun r t ht hk => by
  obtain ⟨hh, tg, n, h', rfl, hn⟩ := h.taps r t ht hk
  exact ⟨hh, tg, n, h', c n, rfl, hn, hM.homes _ _ hn (show ¬ ((3 : Int) = 14) by decide), (hc n).1, (hc n).2⟩
/-- What one wrapper is. -/
theorem Cw.one (h : Cw M l tl c) {j : Nat} {x y : Int} (hx : l[j]? = some x) (hy : l[j + 1]? = some y) :
    (tl y ≠ 0 ∧ ∃ hh tg h', M.at y = some (tapT hh tg (tl y)) ∧ M.at (tl y) = some (tallyT h' (c (tl y)))) ∨ (tl y = 0 ∧ ∃ t, M.at y = some t ∧ t.kind ≠ 16) := by
  obtain ⟨t, ht, -, hc⟩ := h.chain j x y hx hy
  rcases hc with ⟨hk, hb, hn⟩ | ⟨hk, h0⟩
  · obtain ⟨hh, tg, n, h', rfl, hn'⟩ := h.taps y t ht hk
    obtain rfl : n = tl y := hb
    exact .inl ⟨hn, hh, tg, h', ht, hn'⟩
  · refine .inr ⟨h0, t, ht, ?_⟩
    rcases hk with ⟨hk, -⟩ | hk <;> rw [hk] <;> decide
theorem Cw.cnt (h : Cw M l tl c) {q : Int} (hq : q ∈ l) (hc : ∀ n, 0 ≤ c n ∧ c n < 9007199254740992) : Cw (M.cnt q) l tl (bump tl c q) := by
  obtain ⟨j, hj, e⟩ := List.getElem_of_mem hq
  have hj' : l[j]? = some q := by rw [List.getElem?_eq_getElem hj, e]
  match j, hj, hj' with
  | 0, _, hj' =>
    rw [h.head] at hj'
    cases hj'
    rw [cnt_not h.base (by show (1 : Int) ≠ 16; decide), bump_no h.tl1]
    exact h
  | j + 1, hj, hj' =>
    rcases h.one (List.getElem?_eq_getElem (show j < l.length by omega)) hj' with ⟨hn, hh, tg, h', ht, hn'⟩ | ⟨h0, t, ht, hk⟩
    · rw [cnt_tap ht hn']
      have hup : up (c (tl q)) = c (tl q) + 1 := by
        have := hc (tl q)
        unfold up
        omega
      rw [hup]
      exact {
        base := by
          rw [WM.set_at_ne _ _ (fun e => by rw [← e, h.base] at hn'; cases hn')]
          exact h.base
        head := h.head
        chain := fun j x y hx hy => by
          obtain ⟨v, hv, h1, h2⟩ := h.chain j x y hx hy
          have : y ≠ tl q := fun e => by
            rw [← e, hv] at hn'
            cases hn'
            rcases h2 with ⟨h3, -⟩ | ⟨⟨h3, -⟩ | h3, -⟩ <;> cases h3
          exact ⟨v, by rw [WM.set_at_ne _ _ this]; exact hv, h1, h2⟩
        tl1 := h.tl1
        taps := fun r t hr hk => by
          have hrn : r ≠ tl q := fun e => by
            subst e
            rw [WM.set_at_self _ hn'] at hr
            cases hr
            cases hk
          rw [WM.set_at_ne _ _ hrn] at hr
          obtain ⟨h1, tg1, n1, h1', rfl, hn1⟩ := h.taps r t hr hk
          by_cases e : n1 = tl q
          · subst e
            rw [hn'] at hn1
            cases hn1
            exact ⟨h1, tg1, _, h', rfl, by rw [WM.set_at_self _ hn']; simp [bump, hn]⟩
          · exact ⟨h1, tg1, n1, h1', rfl, by rw [WM.set_at_ne _ _ e, hn1]; simp [bump, e]⟩
        lite := fun r t hr => by
          rcases WM.set_at_some hr with ⟨rfl, rfl, -⟩ | ⟨-, hr⟩
          · exact ⟨_, _, _, _, _, _, _, _, _, _, rfl, plain0⟩
          · exact h.lite r t hr }
    · rw [cnt_not ht hk, bump_no h0]
      exact h
theorem Cw.pass : ∀ (xs : List Int) {M : WM} {c : Int → Int}, Cw M l tl c → (∀ q ∈ xs, q ∈ l) → (∀ n, 0 ≤ c n ∧ c n + xs.length ≤ 9007199254740992) → Cw (M.pass xs) l tl (xs.foldl (bump tl) c)
  | [], _, _, h, _, _ => h
  | q :: xs, M, c, h, hx, hc => by
    have h1 := h.cnt (hx q (by simp)) fun n => by have := hc n; simp at this; omega
    exact Cw.pass xs h1 (fun y hy => hx y (by simp [hy])) fun n => by
      have h2 := hc n
      have h3 := fold_le tl c [q] n
      simp only [List.foldl_cons, List.foldl_nil, List.length_cons, List.length_nil] at h2 h3
      omega
/-- The taps on a way. -/
theorem Cw.taps_up (h : Cw M l tl c) {j : Nat} {x y : Int} (hx : l[j]? = some x) (hy : l[j + 1]? = some y) : M.tapsL (l.take (j + 2)).reverse = if tl y ≠ 0 then y :: M.tapsL (l.take (j + 1)).reverse else M.tapsL (l.take (j + 1)).reverse := by
  rw [List.take_add_one (i := j + 1), hy]
  simp only [Option.toList_some, List.reverse_append, List.reverse_cons, List.reverse_nil, List.nil_append, List.singleton_append]
  unfold WM.tapsL
  rw [List.filter_cons]
  rcases h.one hx hy with ⟨hn, hh, tg, h', ht, -⟩ | ⟨h0, t, ht, hk⟩
  · rw [if_pos hn]
    have : M.kindOf y = 16 := by unfold WM.kindOf; rw [ht]; rfl
    rw [this]
    rfl
  · have : (M.kindOf y == 16) = false := by unfold WM.kindOf; rw [ht]; simpa using hk
    rw [this, h0]
    rfl
theorem Cw.last (h : Cw M l tl c) (j : Nat) : (l.take (j + 1)).reverse.getLast?.getD 0 = 1 := by
  rw [List.getLast?_reverse]
  rw [List.head?_eq_getElem?, List.getElem?_take, if_pos (by omega), h.head]
  rfl
end
end Go.Proofs.Ytmefjkggibbhoaa
/- Free, where no gate stands on the way. -/
namespace Go.Proofs.Ytmefjkggibbhoaa
open Go.RowKit Go.ChangeMaps Go.MapKept
variable {w : World} {p : Nat} {M : WM} {F : Nat → Prop}

theorem cell_below' {w w' : World} (hb : Below w.heap.size w w') {a : Addr} {v : Value} (h : w.cell? a = some v) : w'.cell? a = some v := by
  have : a.block < w.heap.size := by
    unfold World.cell? at h
    cases ho : w.heap[a.block]? with
    | none => simp [ho] at h
    | some o => exact blk_lt ho
  exact (hb.cell this).trans h

theorem meas_step {n k : Nat} (h : k < n) (hw : wrap64 ((k : Int) + 1) = (k : Int) + 1) : n - (intOf (.int .i64 (wrap64 ((k : Int) + 1)))).toNat < n - (intOf (.int .i64 (k : Int))).toNat := by
  rw [hw]
  have e1 : (intOf (.int .i64 ((k : Int) + 1))).toNat = k + 1 := by simp only [intOf]; omega
  have e2 : (intOf (.int .i64 (k : Int))).toNat = k := by simp only [intOf]; omega
  rw [e1, e2]
  omega

def freeL (M : WM) : Int → List Int → Bool
  | _, [] => true
  | a, r :: l => match M.at r with
    | none => false
    | some t => if t.kind = 14 then freeL M a l else if M.openB a t.home = true then freeL M t.home l else false

def freeE (v : Bool) : Int := if v = true then 0 else 7

set_option maxHeartbeats 1000000 in
set_option maxRecDepth 8000 in
theorem Free_W (hW : IsW w p M F) {a r : Int} {l : List Int} (ha : sideB M a = true) (hr : (Lit.int .i64 r).wf = true) (hl : WayIs M r l) {t0 : Th} (ht0 : M.at r = some t0)
    (hall : ∀ x ∈ l, ∃ t, M.at x = some t ∧ t.kind ≠ 15) :
    Calls Try.prog 49 #[.pointer (some ⟨p, 0, none⟩), .int .i64 a, .int .i64 r] w fun e w' => e = .returned (.int .i64 (freeE (freeL M a l))) ∧ Below w.heap.size w w' := by
  have hn := Way_W hW hr hl
  have hlen : Hid ((l.length : Int) ≤ 1099511627777) := by
    obtain ⟨l', h1, h2⟩ := way_ex hW.ok r
    obtain rfl := hl.uniq h1
    have := hW.ok.last
    show _ ≤ _
    omega
  have HW : Hid (IsW w p M F) := hW
  have Hall := (show Hid _ from hall)
  have hIs : (M.at r).isSome = true := by rw [ht0]; rfl
  obtain ⟨v, hv⟩ : ∃ v, v = freeL M a l := ⟨_, rfl⟩
  have Hv : Hid (freeL M a l = v) := hv.symm
  rw [← hv]
  clear hW hall hv ht0 hl
  go_enter Try.func49, Try.ntmps49
  go_wp2_with fail
  refine (none_W HW.out).mono ?_
  rintro e _ ⟨rfl, rfl⟩
  go_wp2_with fail
  refine (side_W HW.out a).mono ?_
  rw [ha]
  rintro e _ ⟨rfl, rfl⟩
  go_wp2_with fail
  refine (Is_W HW.out hr).mono ?_
  rw [hIs]
  rintro e _ ⟨rfl, rfl⟩
  go_wp2_with fail
  refine hn.mono ?_
  rintro e w1 ⟨vl, rfl, hown, hb⟩
  have HB : Hid (Below w.heap.size w w1) := hb
  obtain ⟨pa, c, hvl, hcells⟩ : ∃ pa c, vl = .slice pa l.length c ∧ Hid (∀ (j : Nat) (x : Int), l[j]? = some x → ∃ g, pa = some ⟨g, 0, none⟩ ∧ w1.cell? ⟨g, j, none⟩ = some (.int .i64 x)) := by
    rcases hown.2 with ⟨rfl, h0⟩ | ⟨g, cap, cur, rfl, hbase, hg, h1, h2, h3, h4⟩
    · have : l = [] := by simpa using h0
      subst this
      exact ⟨none, 0, rfl, fun j x hx => by simp at hx⟩
    · refine ⟨_, _, rfl, fun j x hx => ⟨g, rfl, ?_⟩⟩
      rw [cell_blk hg]
      have hj := (List.getElem?_eq_some_iff.1 hx).1
      have e : (cur.toList.take (l.length * 1))[j]? = (l.map (Value.int .i64))[j]? := by rw [h4]
      rw [List.getElem?_take, if_pos (by omega), List.getElem?_map, hx] at e
      simpa using e
  subst hvl
  obtain ⟨n, hnl⟩ : ∃ n, n = l.length := ⟨_, rfl⟩
  have Hn : Hid (n = l.length) := hnl
  have Hnb : Hid ((n : Int) ≤ 1099511627777) := by show _ ≤ _; rw [hnl]; exact hlen.out
  rw [← hnl]
  clear hown hb hn hlen hnl
  go_wp2_with fail
  go_loopw [1, 27] (fun va vi wr => ∃ (x : Int) (k : Nat), va = .int .i64 x ∧ vi = .int .i64 k ∧ k ≤ n ∧ Hid (freeL M x (l.drop k) = v) ∧ Below w1.heap.size w1 wr) (fun _ vi _ => n - (intOf vi).toNat)
  case atStart => exact ⟨a, 0, rfl, rfl, Nat.zero_le _, Hv.out, Below.refl _ _⟩
  case round =>
    obtain ⟨x, k, rfl, rfl, hk, Hx, hb2⟩ := hrel
    have HB2 := (show Hid (Below w1.heap.size w1 wr) from hb2)
    have HWr : Hid (IsW wr p M F) := (HW.out.below HB.out).below hb2
    by_cases hkn : k < n
    · obtain ⟨y, hy⟩ : ∃ y, l[k]? = some y := ⟨_, List.getElem?_eq_getElem (by have := Hn.out; omega)⟩
      obtain ⟨g, rfl, hc0⟩ := hcells.out k y hy
      have hc := cell_below' hb2 hc0
      obtain ⟨t, ht, h15⟩ := Hall.out y (List.mem_of_getElem? hy)
      have hyr := HW.out.ok.at_range ht
      have hyl := HW.out.ok.last
      have hyw : (Lit.int .i64 y).wf = true := WalkArith.wf_i64 (by omega)
      have hdrop : l.drop k = y :: l.drop (k + 1) := by
        rw [List.drop_eq_getElem_cons (by have := Hn.out; omega)]
        congr 1
        have := List.getElem?_eq_getElem (l := l) (i := k) (by have := Hn.out; omega)
        rw [this] at hy
        exact Option.some.inj hy
      have hkz : (k : Int) < (n : Int) := by omega
      have hwk : wrap64 ((k : Int) + 1) = (k : Int) + 1 := by have := Hnb.out; unfold wrap64; omega
      have hk15 : (t.kind == 15) = false := by simpa using h15
      have HX : Hid ((if t.kind = 14 then freeL M x (l.drop (k + 1)) else if M.openB x t.home = true then freeL M t.home (l.drop (k + 1)) else false) = v) := by
        have := Hx.out
        rw [hdrop, freeL, ht] at this
        exact this
      obtain ⟨pa', pc, cg, cc, mg, mc, tb, fb, fn, bl, h⟩ := HWr.out
      have c2 := h.c2
      have hlk := h.look hyw
      rw [ht] at hlk
      simp only [Option.map_some] at hlk
      obtain ⟨k0, k1, -, -, k6, k7, k8, k9⟩ := thc_cell (h.blk y t ht).1
      clear hb2 hc0 hy hdrop hyr hyl h15 ht h
      by_cases h14 : t.kind = 14
      · have hk14 : (t.kind == 14) = true := by simpa using h14
        have HX2 : Hid (freeL M x (l.drop (k + 1)) = v) := by
          have := HX.out
          rw [if_pos h14] at this
          exact this
        clear HX h14
        go_wp2_with fail
        go_round
        case rel =>
          exact ⟨x, k + 1, rfl, by rw [hwk]; rfl, by omega, HX2.out, HB2.out⟩
        case measure => exact meas_step hkn hwk
      · have hk14 : (t.kind == 14) = false := by simpa using h14
        have hOp : ∀ m, Calls Try.prog 78 #[.pointer (some ⟨p, 0, none⟩), .int .i64 x, .int .i64 t.home] (wr.drewN m) fun e w' => e = .returned (.bool (M.openB x t.home)) ∧ w' = wr.drewN m := fun m =>
          (Open_W (HWr.out.below (w' := wr.drewN m) ⟨rfl, rfl, rfl, Nat.le_refl _, fun _ _ => rfl⟩) x t.home).mono (fun _ _ h => ⟨h.1, h.2.symm⟩)
        cases ho : M.openB x t.home with
        | true =>
          simp only [ho] at hOp
          have HX2 : Hid (freeL M t.home (l.drop (k + 1)) = v) := by
            have := HX.out
            rw [if_neg h14, if_pos ho] at this
            exact this
          clear HX h14 ho
          go_wp2_with fail
          go_quiet ((go_at_call 78; exact Calls.quiet_of_same (hOp _)))
          go_wp2_with fail
          go_round
          case rel => exact ⟨t.home, k + 1, rfl, by rw [hwk]; rfl, by omega, HX2.out, HB2.out.trans ⟨rfl, rfl, rfl, Nat.le_refl _, fun _ _ => rfl⟩⟩
          case measure => exact meas_step hkn hwk
        | false =>
          simp only [ho] at hOp
          have HX2 : Hid (v = false) := by
            have := HX.out
            rw [if_neg h14, ho] at this
            exact this.symm
          clear HX h14 ho
          go_wp2_with fail
          go_quiet ((go_at_call 78; exact Calls.quiet_of_same (hOp _)))
          go_wp2_with fail
          go_ret
          have hv := HX2.out
          subst hv
          exact ⟨rfl, HB.out.trans ((HB2.out.trans (⟨rfl, rfl, rfl, Nat.le_refl _, fun _ _ => rfl⟩ : Below w1.heap.size wr (wr.drewN nq))).mono HB.out.size)⟩
    · have hkz : ¬ (k : Int) < (n : Int) := by omega
      have hkn' : k = n := by omega
      have HX2 : Hid (v = true) := by
        have := Hx.out
        rw [hkn', Hn.out, List.drop_length] at this
        exact this.symm
      clear Hx
      go_wp2_with fail
      go_ret
      have hv := HX2.out
      subst hv
      exact ⟨rfl, HB.out.trans (HB2.out.mono HB.out.size)⟩
end Go.Proofs.Ytmefjkggibbhoaa
