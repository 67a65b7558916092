/- Taps: Pass; the taps on a way. -/
import Derived.Test.YtmefjkggibbhoaaGreatTapC
import Derived.Maps.AppendAt
namespace Go.Proofs.YtmefjkggibbhoaaGreat
open Go.RowKit Go.ChangeMaps Go.MapKept

theorem Pass_W {w : World} {p : Nat} {M : WM} {F : Nat → Prop} (hW : IsW w p M F) (hT : TW M) {r : Int} {l : List Int} (hl : WayIs M r l) {t0 : Th} (hr : M.at r = some t0) :
    Calls Tryz.prog 12 #[.pointer (some ⟨p, 0, none⟩), .int .i64 r] w fun e w' => e = .returned (.int .i64 0) ∧ IsW w' p (M.pass l) F ∧ Keeps F w w' := by
  have hmf : ∀ (fn : Fn) (first cap : Array Value) (w : World), (Instr.makeFunc fn first cap).run Tryz.prog w = .ok (.func fn first cap) w := fun _ _ _ _ => rfl
  have HP := (show Hid _ from walkPass_W hW hT hl hr)
  clear hW hT hl hr
  go_enter Tryz.func12, Tryz.ntmps12
  go_wp2_with fail
  refine Calls.mono HP.out ?_
  rintro e w1 ⟨rfl, h1, h2⟩
  have H1 := (show Hid _ from And.intro h1 h2)
  clear h1 h2
  go_wp2_with fail
  go_ret
  exact ⟨rfl, H1.out.1, H1.out.2⟩

/-- A list of references that a call makes grows by one; where it lies then. -/
theorem append_refT {w : World} {ops : Array Oper} {rest : List Oper} {o : Oper} {a : Act} {Q : Exit → Act → World → Prop} (hgd : o.guard = none) (s x : Operand)
    (ho : o.op = .call { callee := .builtin .append, args := #[s, x], argTypes := #[31, 31] }) (base : Nat)
    (v : Value) (l : List Int) (n : Nat) (hs : a.eval s = v) (hown : Hid (w.ownsRow base 35 1 v n (l.map (Value.int .i64)))) (y : Int) (hx : a.eval x = .slice (some ⟨w.heap.size, 0, none⟩) 1 1)
    (hn : Hid ((n : Int) ≤ 1099511627776)) (hbase : Hid (base ≤ w.heap.size))
    (h : ∀ v' w', Hid (w'.ownsRow base 35 1 v' (n + 1) ((l ++ [y]).map (Value.int .i64))) → Hid (w.grownBy w' v.ownBlock) → Hid (v'.ownBlock = v.ownBlock ∨ v'.ownBlock = some (w.heap.size + 1)) → wpList Tryz.prog ops Q rest (a.put o.dst v') w') : wpList Tryz.prog ops Q (o :: rest) a (w.alloc (.cells #[.int .i64 y] 35)) := by
  obtain ⟨i, hi, hz, h1, h2⟩ := info_parts infoRef
  have hn' := hn.out
  have hb2 : (n + 1) * 8 ≤ 1099511627777 * 8 := Nat.mul_le_mul_right _ (by omega)
  refine wpList_append_own_at _ hgd s x 31 ho base 35 i (.int .i64 0) 1 8 Tryz.underlying31 hi hz h1 h2 rfl (by decide) v n _ hs (hown.out.alloc _) ⟨w.heap.size, 0, none⟩ 1 1 [.int .i64 y] hx rfl (cell_one_new _ _ _) (by simp [Value.oneCell']) (by unfold maxLen; omega) (by omega) (by have := hbase.out; simp; omega) ?_
  intro v' w' r1 r2 _ r4
  exact h v' w' (by show World.ownsRow _ _ _ _ _ _ _; simpa using r1) ((World.grownBy_alloc w _ _).trans r2) (by show _ ∨ _; simpa using r4)
/-- The taps among some. -/
def WM.tapsL (M : WM) (l : List Int) : List Int := l.filter fun q => M.kindOf q == 16
/-- While the taps are gathered. -/
def TapsAt (w w1 : World) (base B : Nat) (xs : List Int) (wr : World) : Prop :=
  ∃ v, wr.heap[B]? = some (.cells #[v] 93 (0, 0)) ∧ wr.ownsRow base 35 1 v xs.length (xs.map (Value.int .i64)) ∧ (∀ b, v.ownBlock = some b → w1.heap.size ≤ b) ∧ Below base w wr ∧ w1.heap.size ≤ wr.heap.size ∧ ∀ b, b < w1.heap.size → b ≠ B → wr.heap[b]? = w1.heap[b]?
def TapsPost (w : World) (base B : Nat) (xs : List Int) (w' : World) : Prop :=
  ∃ v, w'.heap[B]? = some (.cells #[v] 93 (0, 0)) ∧ w'.ownsRow base 35 1 v xs.length (xs.map (Value.int .i64)) ∧ Below base w w'
/-- What add leaves. -/
def AddPost (w : World) (base B : Nat) (v : Value) (xs : List Int) (q : Int) (w' : World) : Prop :=
  ∃ v', w'.heap[B]? = some (.cells #[v'] 93 (0, 0)) ∧ w'.ownsRow base 35 1 v' (xs ++ [q]).length ((xs ++ [q]).map (Value.int .i64)) ∧ (v'.ownBlock = v.ownBlock ∨ v'.ownBlock = some (w.heap.size + 1)) ∧ Keeps (fun b => b = B ∨ v.ownBlock = some b) w w'

theorem add_box {w w1 : World} {v : Value} {B : Nat} {o : Obj} (hg : w.grownBy w1 v.ownBlock) (hB : w.heap[B]? = some o) (hne : v.ownBlock ≠ some B) : w1.heap[B]? = some o :=
  (hg.block B (blk_lt hB) (fun e => hne e.symm)).trans hB
theorem box_is {W : World} {B : Nat} {v : Value} {t : TypeId} (h : W.heap[B]? = some (.cells #[v] t (0, 0))) : W.cell? ⟨B, 0, none⟩ = some v ∧ W.frozen? ⟨B, 0, none⟩ = false := by
  constructor <;> simp [World.cell?, World.frozen?, h]
theorem row_succ {w : World} {base : Nat} {e : TypeId} {v : Value} {n : Nat} {xs : List Value} (h : w.ownsRow base e 1 v (n + 1) xs) : ∃ g cap, v = .slice (some ⟨g, 0, none⟩) (n + 1) cap := by
  rcases h.2 with ⟨-, h⟩ | ⟨g, cap, cur, rfl, -⟩
  · omega
  · exact ⟨g, cap, rfl⟩
set_option maxRecDepth 8000 in
theorem add_W (w : World) {B base : Nat} {v : Value} {xs : List Int} (q : Int) (hB : w.heap[B]? = some (.cells #[v] 93 (0, 0))) (hrow : w.ownsRow base 35 1 v xs.length (xs.map (Value.int .i64))) (hne : v.ownBlock ≠ some B) (hbase : base ≤ w.heap.size) (hlen : (xs.length : Int) ≤ 1099511627776) :
    Calls Tryz.prog 37 #[.pointer (some ⟨B, 0, none⟩), .int .i64 q] w fun e w' => e = .returned (.tuple #[]) ∧ Hid (AddPost w base B v xs q w') := by
  have c0 : w.cell? ⟨B, 0, none⟩ = some v := by rw [cell_blk hB]; rfl
  have HB := (show Hid _ from hB)
  have HR := (show Hid (w.ownsRow base 35 1 v xs.length (xs.map (Value.int .i64))) from hrow)
  have Hne := (show Hid (v.ownBlock ≠ some B) from hne)
  have Hba := (show Hid (base ≤ w.heap.size) from hbase)
  have Hlen := (show Hid ((xs.length : Int) ≤ 1099511627776) from hlen)
  clear hB hrow hne hbase hlen
  go_enter Tryz.func37, Tryz.ntmps37
  go_wp2_with (at_builtin; refine append_refT rfl _ _ rfl base v xs xs.length rfl HR q rfl Hlen Hba ?_; intro v' w1 hrow1 hg1 hown1; obtain ⟨g5, cap5, h5⟩ := row_succ hrow1.out; subst h5; have hB1 := add_box hg1.out HB.out Hne.out; obtain ⟨cB, fB⟩ := box_is hB1)
  have hBlt := blk_lt HB.out
  have hk : Keeps (fun b => v.ownBlock = some b) w w1 := Keeps.of_grown hg1.out (fun x hx => hx)
  have HAP : Hid (AddPost w base B v xs q (w1.setCell ⟨B, 0, none⟩ (.slice (some ⟨g5, 0, none⟩) (xs.length + 1) cap5))) := by
    have hs := blk_setCell hB1 0 (.slice (some ⟨g5, 0, none⟩) (xs.length + 1) cap5)
    refine ⟨.slice (some ⟨g5, 0, none⟩) (xs.length + 1) cap5, hs, ?_, hown1.out, hk.trans (Keeps.setCell (S := fun b => b = B) w1 ⟨B, 0, none⟩ _ rfl) (fun _ _ h => .inr h) (fun _ _ h => .inl h)⟩
    have hne' : (Value.slice (some ⟨g5, 0, none⟩) (xs.length + 1) cap5).ownBlock ≠ some B := fun e => by
      rcases hown1.out with h | h
      · exact Hne.out (h.symm.trans e)
      · rw [h] at e
        simp only [Option.some.injEq] at e
        omega
    have hr := hrow1.out
    refine ⟨by simp, ?_⟩
    rcases hr.2 with ⟨h1, h2⟩ | ⟨g, cap, cur, he, h1, h2, h3⟩
    · exact absurd h2 (by omega)
    · cases he
      refine .inr ⟨g5, cap5, cur, by simp, h1, (blk_other h2 ⟨B, 0, none⟩ _ (fun e => hne' (by simp [Value.ownBlock, e]))), by simpa using h3⟩
  clear hBlt hk hB1 hrow1 hg1 hown1 HB HR c0
  go_wp2_with fail
  go_end0
  exact ⟨rfl, HAP⟩

theorem tapsL_snoc (M : WM) (l : List Int) (q : Int) : M.tapsL (l ++ [q]) = if M.kindOf q = 16 then M.tapsL l ++ [q] else M.tapsL l := by
  unfold WM.tapsL
  rw [List.filter_append]
  by_cases h : M.kindOf q = 16 <;> simp [h]
theorem keeps_from {base : Nat} {w w' : World} (h : Below base w w') : Keeps (fun b => base ≤ b) w w' := ⟨h.os, h.tape, h.output, h.size, fun b _ hn => h.block b (by omega)⟩
theorem TapsAt.add {w w1 : World} {base B : Nat} {xs : List Int} {wr w2 : World} {v : Value} {q : Int} (hb : base ≤ B) (hB : B < w1.heap.size) (hv : ∀ b, v.ownBlock = some b → w1.heap.size ≤ b) (h4 : Below base w wr) (h5 : w1.heap.size ≤ wr.heap.size)
    (h6 : ∀ b, b < w1.heap.size → b ≠ B → wr.heap[b]? = w1.heap[b]?) (hbw : base ≤ w.heap.size) (h : AddPost wr base B v xs q w2) : TapsAt w w1 base B (xs ++ [q]) w2 := by
  obtain ⟨v', a1, a2, a3, a4⟩ := h
  refine ⟨v', a1, a2, fun b hb' => ?_, h4.trans (Keeps.below a4 (Nat.le_trans hbw h4.size) (fun x hx => ?_)), Nat.le_trans h5 a4.size, fun b h1 h2 => ?_⟩
  · rcases a3 with e | e
    · exact hv b (e.symm.trans hb')
    · rw [e] at hb'
      simp only [Option.some.injEq] at hb'
      omega
  · rcases hx with rfl | hx
    · exact hb
    · have := hv x hx
      omega
  · refine (a4.block b (by omega) (fun e => ?_)).trans (h6 b h1 h2)
    rcases e with e | e
    · exact h2 e
    · have := hv b e
      omega

set_option maxHeartbeats 4000000 in
set_option maxRecDepth 100000 in
theorem walkTaps_W {w : World} {p : Nat} {M : WM} {F : Nat → Prop} {base B : Nat} (hW : IsW w p M F) (hF : Hid (∀ b, F b → b < base)) (hb : Hid (base ≤ B)) (hB : w.heap[B]? = some (.cells #[.slice none 0 0] 93 (0, 0))) {r : Int} {l : List Int} (hl : WayIs M r l) {t0 : Th} (hr : M.at r = some t0) :
    Calls Tryz.prog 36 #[.pointer (some ⟨p, 0, none⟩), .int .i64 r, .func (.func 37) #[.pointer (some ⟨B, 0, none⟩)] #[]] w fun e w' => e = .returned (.int .i64 0) ∧ Hid (TapsPost w base B (M.tapsL l) w') := by
  have hrw := hW.ok.at_wf hr
  have HS := (show Hid _ from Sides_W hW)
  have hI := Is_W hW hrw
  rw [hr] at hI
  have HI := (show Hid _ from hI)
  have HY := (show Hid _ from Way_W hW hrw hl)
  have hne : ((M.made.length : Int) == 0) = false := by
    have := hW.ok.made
    exact beq_eq_false_iff_ne.2 (by omega)
  have HW := (show Hid (IsW w p M F) from hW)
  have HB := (show Hid _ from hB)
  have HM := (show Hid (∀ q ∈ l, ∃ t, M.at q = some t) from way_mem l r hl)
  have Hlen : Hid ((l.length : Int) ≤ 1099511627777) := by
    obtain ⟨l', h1, h2⟩ := way_ex hW.ok r
    obtain rfl := hl.uniq h1
    have := hW.ok.last
    show _ ≤ _
    omega
  obtain ⟨n, hn⟩ : ∃ n, n = l.length := ⟨_, rfl⟩
  have Hn := (show Hid (n = l.length) from hn)
  rw [← hn] at HY Hlen
  clear hW hB hr hl hI hn
  go_enter Tryz.func36, Tryz.ntmps36
  go_wp2_with fail
  refine Calls.mono HS.out ?_
  rintro e _ ⟨rfl, rfl⟩
  go_wp2_with fail
  refine Calls.mono HI.out ?_
  rintro e _ ⟨rfl, rfl⟩
  go_wp2_with fail
  refine Calls.mono HY.out ?_
  rintro e w1 ⟨v, rfl, hrow, hb1⟩
  obtain ⟨a, cap, rfl, hcells⟩ := way_cells hrow
  have HB1 := (show Hid (Below w.heap.size w w1) from hb1)
  have HC := (show Hid (∀ k, k < n → ∃ g, a = some ⟨g, 0, none⟩ ∧ w.heap.size ≤ g ∧ g < w1.heap.size ∧ w1.cell? ⟨g, k, none⟩ = (l.map (Value.int .i64))[k]?) from hcells)
  have HBB : Hid (B < w1.heap.size ∧ base ≤ w.heap.size) := ⟨Nat.lt_of_lt_of_le (blk_lt HB.out) hb1.size, by have := hb.out; have := blk_lt HB.out; omega⟩
  have HT0 : Hid (TapsAt w w1 base B (M.tapsL (l.take 0)) w1) := ⟨.slice none 0 0, below_blk hb1 HB.out, ⟨rfl, .inl ⟨rfl, rfl⟩⟩, (fun b h => by cases h), hb1.mono HBB.out.2, Nat.le_refl _, fun b _ _ => rfl⟩
  clear hrow hcells hb1 HS HI HY
  go_wp2_with fail
  go_loopw [24] (fun vi wr => ∃ k : Nat, vi = .int .i64 k ∧ k ≤ n ∧ Hid (TapsAt w w1 base B (M.tapsL (l.take k)) wr)) (fun vi _ => n - (intOf vi).toNat)
  case atStart => exact ⟨0, rfl, Nat.zero_le _, HT0⟩
  case round =>
    clear HT0
    obtain ⟨k, rfl, hk, HR⟩ := hrel
    by_cases hkn : k < n
    · have hkz : (k : Int) < (n : Int) := by omega
      have hwk : wrap64 ((k : Int) + 1) = (k : Int) + 1 := by have := Hlen.out; unfold wrap64; omega
      obtain ⟨q, hq⟩ : ∃ q, l[k]? = some q := ⟨_, List.getElem?_eq_getElem (by have := Hn.out; omega)⟩
      have Htk : Hid (l.take (k + 1) = l.take k ++ [q]) := by show _ = _; rw [List.take_add_one, hq]; rfl
      obtain ⟨t, ht⟩ := HM.out q (List.mem_of_getElem? hq)
      obtain ⟨g, rfl, hg0, hg1, hgc⟩ := HC.out k hkn
      obtain ⟨v, hv1, hv2, hv3, hv4, hv5, hv6⟩ := HR.out
      have hgB : g ≠ B := by have := blk_lt HB.out; omega
      have hcell : wr.cell? ⟨g, k, none⟩ = some (.int .i64 q) := by
        rw [World.cell?_of_block (a := ⟨g, k, none⟩) (hv6 g hg1 hgB), hgc, List.getElem?_map, hq]
        rfl
      have hWr : IsW wr p M F := HW.out.keeps (keeps_from hv4) (fun b hb' => by have := hF.out b hb'; omega)
      have hkw := Kind_W hWr (HW.out.ok.at_wf ht)
      have HK := (show Hid _ from hkw)
      have HV := (show Hid _ from And.intro hv1 (And.intro hv2 (And.intro hv3 (And.intro hv4 (And.intro hv5 hv6)))))
      clear hq ht hgc hkw hWr hv1 hv2 hv3 hv4 hv5 hv6 hgB
      by_cases h16 : M.kindOf q = 16
      · have e16 : (M.kindOf q == 16) = true := by simpa using h16
        have Htp : Hid (M.tapsL (l.take (k + 1)) = M.tapsL (l.take k) ++ [q]) := by show _ = _; rw [Htk.out, tapsL_snoc, if_pos h16]
        have haw := add_W wr (B := B) (base := base) (v := v) (xs := M.tapsL (l.take k)) q HV.out.1 HV.out.2.1 (fun e => by have := HV.out.2.2.1 B e; have := HBB.out.1; omega) (by have := HV.out.2.2.2.2.1; have := HBB.out.1; have := hb.out; omega) (by
          have h1 : (M.tapsL (l.take k)).length ≤ (l.take k).length := List.length_filter_le _ _
          have h2 := Hlen.out
          rw [List.length_take] at h1
          omega)
        have HAW := (show Hid _ from haw)
        clear haw h16
        go_wp2_with fail
        refine Calls.mono HK.out ?_
        rintro e _ ⟨rfl, rfl⟩
        go_wp2_with fail
        refine Calls.mono HAW.out ?_
        rintro e w2 ⟨rfl, hA⟩
        have HR2 : Hid (TapsAt w w1 base B (M.tapsL (l.take (k + 1))) w2) := by
          rw [Htp.out]
          exact TapsAt.add hb.out HBB.out.1 HV.out.2.2.1 HV.out.2.2.2.1 HV.out.2.2.2.2.1 HV.out.2.2.2.2.2 HBB.out.2 hA.out
        clear hA HR HAW HK HV
        go_wp2_with fail
        go_roundw
        case rel => exact ⟨k + 1, by rw [hwk]; go_num, by omega, HR2⟩
        case measure => rw [hwk]; exact meas_up hkn
      · have e16 : (M.kindOf q == 16) = false := by simpa using h16
        have HR2 : Hid (TapsAt w w1 base B (M.tapsL (l.take (k + 1))) wr) := by
          rw [Htk.out, tapsL_snoc, if_neg h16]
          exact HR.out
        clear h16 HR HV
        go_wp2_with fail
        refine Calls.mono HK.out ?_
        rintro e _ ⟨rfl, rfl⟩
        go_wp2_with fail
        go_roundw
        case rel => exact ⟨k + 1, by rw [hwk]; go_num, by omega, HR2⟩
        case measure => rw [hwk]; exact meas_up hkn
    · have hkz : ¬ (k : Int) < (n : Int) := by omega
      obtain rfl : k = n := by omega
      have HR2 : Hid (TapsPost w base B (M.tapsL l) wr) := by
        obtain ⟨v, hv1, hv2, hv3, hv4, -⟩ := HR.out
        rw [Hn.out, List.take_length] at hv2
        exact ⟨v, hv1, hv2, hv4⟩
      clear HR
      go_wp2_with fail
      go_ret
      exact ⟨rfl, HR2⟩

set_option maxRecDepth 8000 in
theorem Taps_W {w : World} {p : Nat} {M : WM} {F : Nat → Prop} (hW : IsW w p M F) {r : Int} {l : List Int} (hl : WayIs M r l) {t0 : Th} (hr : M.at r = some t0) :
    Calls Tryz.prog 10 #[.pointer (some ⟨p, 0, none⟩), .int .i64 r] w fun e w' => ∃ v, e = .returned (.tuple #[v, .int .i64 0]) ∧ w'.ownsRow w.heap.size 35 1 v (M.tapsL l).length ((M.tapsL l).map (Value.int .i64)) ∧ Below w.heap.size w w' := by
  have hmf : ∀ (fn : Fn) (first cap : Array Value) (w : World), (Instr.makeFunc fn first cap).run Tryz.prog w = .ok (.func fn first cap) w := fun _ _ _ _ => rfl
  have hb1 : Below w.heap.size w (w.alloc (.cells #[.slice none 0 0] 93)) := (Below.refl _ _).alloc (Nat.le_refl _) _
  have HP := (show Hid _ from walkTaps_W (base := w.heap.size) (B := w.heap.size) (hW.below hb1) hW.lt (Nat.le_refl _) (blk_new _ _) hl hr)
  have HB1 := (show Hid _ from hb1)
  clear hW hl hr hb1
  go_enter Tryz.func10, Tryz.ntmps10
  go_wp2_with fail
  refine Calls.mono HP.out ?_
  rintro e w1 ⟨rfl, h1⟩
  obtain ⟨v, hv1, hv2, hv3⟩ := h1.out
  have cB : w1.cell? ⟨w.heap.size, 0, none⟩ = some v := by rw [cell_blk hv1]; rfl
  have H2 : Hid (w1.ownsRow w.heap.size 35 1 v (M.tapsL l).length ((M.tapsL l).map (Value.int .i64)) ∧ Below w.heap.size w w1) := ⟨hv2, HB1.out.trans hv3⟩
  clear hv1 hv2 hv3 h1
  go_wp2_with fail
  go_ret2
  exact ⟨v, rfl, H2.out.1, H2.out.2⟩
end Go.Proofs.YtmefjkggibbhoaaGreat
