/- The way of a thing, its base. -/
import Derived.Test.YtifmifjbebpomaaGreatDoorWalkB
import Derived.Test.YtifmifjbebpomaaGreatDoorWalkC
namespace Go.Proofs.YtifmifjbebpomaaGreatDoor
open Go.RowKit Go.ChangeMaps Go.MapKept

def wayF (M : WM) : Nat → Int → List Int
  | 0, _ => []
  | f + 1, r => match M.at r with
    | none => []
    | some t => r :: (if wrapsB t.kind = true then wayF M f t.tgt else [])
def WayIs (M : WM) (r : Int) (l : List Int) : Prop := ∃ f0, ∀ f, f0 ≤ f → wayF M f r = l

theorem WayIs.uniq {M : WM} {r : Int} {l l' : List Int} (h : WayIs M r l) (h' : WayIs M r l') : l = l' := by
  obtain ⟨f, h⟩ := h
  obtain ⟨f', h'⟩ := h'
  exact (h (f + f') (by omega)).symm.trans (h' (f + f') (by omega))
theorem WayIs.none {M : WM} {r : Int} {l : List Int} (h : WayIs M r l) (hr : M.at r = none) : l = [] := by
  obtain ⟨f, h⟩ := h
  have := h (f + 1) (by omega)
  simpa [wayF, hr] using this.symm
theorem WayIs.wrap {M : WM} {r : Int} {l : List Int} {t : Th} (h : WayIs M r l) (hr : M.at r = some t) (hk : wrapsB t.kind = true) : ∃ l', l = r :: l' ∧ WayIs M t.tgt l' := by
  obtain ⟨f, h⟩ := h
  have h1 := h (f + 1) (by omega)
  refine ⟨wayF M f t.tgt, by simpa [wayF, hr, hk] using h1.symm, f, fun g hg => ?_⟩
  have h2 := h (g + 1) (by omega)
  rw [← h1] at h2
  simpa [wayF, hr, hk] using h2
theorem WayIs.base {M : WM} {r : Int} {l : List Int} {t : Th} (h : WayIs M r l) (hr : M.at r = some t) (hk : wrapsB t.kind = false) : l = [r] := by
  obtain ⟨f, h⟩ := h
  have h1 := h (f + 1) (by omega)
  simpa [wayF, hr, hk] using h1.symm
theorem WayIs.mk_none {M : WM} {r : Int} (hr : M.at r = .none) : WayIs M r [] := ⟨1, fun f hf => by obtain ⟨g, rfl⟩ : ∃ g, f = g + 1 := ⟨f - 1, by omega⟩; simp [wayF, hr]⟩
theorem WayIs.mk_wrap {M : WM} {r : Int} {l : List Int} {t : Th} (hr : M.at r = some t) (hk : wrapsB t.kind = true) (h : WayIs M t.tgt l) : WayIs M r (r :: l) := by
  obtain ⟨f0, h⟩ := h
  exact ⟨f0 + 1, fun f hf => by obtain ⟨g, rfl⟩ : ∃ g, f = g + 1 := ⟨f - 1, by omega⟩; simp [wayF, hr, hk, h g (by omega)]⟩
theorem WayIs.mk_base {M : WM} {r : Int} {t : Th} (hr : M.at r = some t) (hk : wrapsB t.kind = false) : WayIs M r [r] :=
  ⟨1, fun f hf => by obtain ⟨g, rfl⟩ : ∃ g, f = g + 1 := ⟨f - 1, by omega⟩; simp [wayF, hr, hk]⟩

theorem way_ex {M : WM} (hok : M.ok) (r : Int) : ∃ l, WayIs M r l ∧ (l.length : Int) ≤ M.last + 1 := by
  obtain ⟨rk, hrk0, hrk⟩ := hok.wrap
  have hl := hok.last
  suffices h : ∃ l, WayIs M r l ∧ l.length ≤ rk r + 1 by
    obtain ⟨l, h1, h2⟩ := h
    have := hrk0 r
    exact ⟨l, h1, by omega⟩
  generalize hm : rk r = m
  induction m using Nat.strongRecOn generalizing r with
  | ind m ih =>
    subst hm
    cases hr : M.at r with
    | none => exact ⟨[], WayIs.mk_none hr, by simp⟩
    | some t =>
      cases hk : wrapsB t.kind with
      | true =>
        obtain ⟨l, h1, h2⟩ := ih _ (hrk r t hr hk).2 t.tgt rfl
        have := (hrk r t hr hk).2
        exact ⟨_, WayIs.mk_wrap hr hk h1, by simp; omega⟩
      | false => exact ⟨_, WayIs.mk_base hr hk, by simp⟩


set_option maxRecDepth 20000 in
theorem Way_W {w : World} {p : Nat} {M : WM} {F : Nat → Prop} (hW : IsW w p M F) {r : Int} {l : List Int} (hr : (Lit.int .i64 r).wf = true) (hl : WayIs M r l) :
    Calls Tryz.prog 57 #[.pointer (some ⟨p, 0, none⟩), .int .i64 r] w fun e w' => ∃ v, e = .returned v ∧ w'.ownsRow w.heap.size 24 1 v l.length (l.map (Value.int .i64)) ∧ Below w.heap.size w w' := by
  have Hb : Hid ((l.length : Int) ≤ 1099511627777) := by
    obtain ⟨l', h1, h2⟩ := way_ex hW.ok r
    obtain rfl := hl.uniq h1
    have := hW.ok.last
    show _ ≤ _
    omega
  obtain ⟨rk, -, hrk⟩ := hW.ok.wrap
  obtain ⟨pa, pc, cg, cc, mg, mc, tb, fb, fn, bl, hW⟩ := hW
  have HW := (show Hid (WV w p M F pa pc cg cc mg mc tb fb fn bl) from hW)
  have Hl := (show Hid (WayIs M r l) from hl)
  have Hrk := (show Hid (∀ (r : Int) (t : Th), M.at r = some t → wrapsB t.kind = true → (∃ u, M.at t.tgt = some u) ∧ rk t.tgt < rk r) from hrk)
  clear hW hl hrk
  go_enter Tryz.func57, Tryz.ntmps57
  go_wp2
  go_loopw [1, 5] (fun vr vs wr => ∃ q pre rest, vr = .int .i64 q ∧ (Lit.int .i64 q).wf = true ∧ Hid (WayIs M q rest) ∧ Hid (l = pre ++ rest) ∧ wr.ownsRow w.heap.size 24 1 vs pre.length (pre.map (Value.int .i64)) ∧ Below w.heap.size w wr) (fun vr _ _ => rk (intOf vr))
  case atStart => exact ⟨r, [], l, rfl, hr, Hl.out, rfl, World.ownsRow_nil _ _ _ _, Below.refl _ _⟩
  case round =>
    obtain ⟨q, pre, rest, rfl, hq, Hv, He, hown, hB⟩ := hrel
    have HB := (show Hid (Below w.heap.size w wr) from hB)
    have h := HW.out.below hB
    have hsz := hB.size
    have hn := Is_W ⟨_, _, _, _, _, _, _, _, _, _, h⟩ hq
    clear hB
    have c2 := h.c2
    have hl := h.look hq
    cases ha : M.at q with
    | none =>
      rw [ha] at hn
      clear hl
      go_wp2_with (go_at_call 23; refine hn.mono ?_; rintro e w' ⟨rfl, rfl⟩)
      go_ret
      have e1 : l = pre := by
        have := He.out
        rw [Hv.out.none ha] at this
        simpa using this
      exact ⟨_, rfl, by rw [e1]; exact hown, HB.out⟩
    | some t =>
      rw [ha] at hn
      clear hl c2
      have htgt := (h.ok.wf q t ha).tgt
      have Hp : Hid ((pre.length : Int) ≤ 1099511627777) := by
        show _ ≤ _
        have h1 := Hb.out
        have h2 := He.out
        cases hk : wrapsB t.kind with
        | true =>
          obtain ⟨l', e1, _⟩ := Hv.out.wrap ha hk
          rw [h2, e1] at h1
          simp at h1
          omega
        | false =>
          rw [h2, Hv.out.base ha hk] at h1
          simp at h1
          omega
      clear h
      have hwr := fun W => wraps_W t.kind W
      cases hk : wrapsB t.kind with
      | false =>
        have Hk : Hid (wrapsB t.kind = false) := hk
        rw [hk] at hwr
        clear hk
        go_wp2_with (first
          | (go_at_call 23; refine hn.mono ?_; rintro e w' ⟨rfl, rfl⟩)
          | (at_builtin; refine append_ref rfl _ _ rfl w.heap.size _ pre rfl hown q rfl Hp hsz ?_; intro v' w1 hown' _ hb1; have hB1 : Below w.heap.size w w1 := HB.out.trans hb1; have HB1 := (show Hid (Below w.heap.size w w1) from hB1); have h1 := HW.out.below hB1; have c2 := h1.c2; have hl := h1.look hq; rw [ha] at hl; simp only [Option.map_some] at hl; obtain ⟨k0, -, -, -, k6, -, -, -⟩ := thc_cell (h1.blk q t ha).1; clear h1 hB1 hb1)
          | (go_at_call 90; refine (hwr _).mono ?_; rintro e w' ⟨rfl, rfl⟩))
        go_ret
        have e1 : l = pre ++ [q] := by rw [He.out, Hv.out.base ha Hk.out]
        exact ⟨_, rfl, by rw [e1]; exact hown', HB1.out⟩
      | true =>
        have Hk : Hid (wrapsB t.kind = true) := hk
        rw [hk] at hwr
        clear hk
        go_wp2_with (first
          | (go_at_call 23; refine hn.mono ?_; rintro e w' ⟨rfl, rfl⟩)
          | (at_builtin; refine append_ref rfl _ _ rfl w.heap.size _ pre rfl hown q rfl Hp hsz ?_; intro v' w1 hown' _ hb1; have hB1 : Below w.heap.size w w1 := HB.out.trans hb1; have HB1 := (show Hid (Below w.heap.size w w1) from hB1); have h1 := HW.out.below hB1; have c2 := h1.c2; have hl := h1.look hq; rw [ha] at hl; simp only [Option.map_some] at hl; obtain ⟨k0, -, -, -, k6, -, -, -⟩ := thc_cell (h1.blk q t ha).1; clear h1 hB1 hb1)
          | (go_at_call 90; refine (hwr _).mono ?_; rintro e w' ⟨rfl, rfl⟩))
        go_roundw
        case rel =>
          obtain ⟨l', e1, hl'⟩ := Hv.out.wrap ha Hk.out
          refine ⟨t.tgt, pre ++ [q], l', rfl, htgt, hl', ?_, hown', HB1.out⟩
          show _ = _
          rw [He.out, e1]
          simp
        case measure => exact (Hrk.out q t ha Hk.out).2

theorem Base_W {w : World} {p : Nat} {M : WM} {F : Nat → Prop} (hW : IsW w p M F) {r : Int} {l : List Int} (hr : (Lit.int .i64 r).wf = true) (hl : WayIs M r l) :
    Calls Tryz.prog 30 #[.pointer (some ⟨p, 0, none⟩), .int .i64 r] w fun e w' => e = .returned (.int .i64 (l.getLast?.getD 0)) ∧ Below w.heap.size w w' := by
  have hn := Way_W hW hr hl
  have hlen : Hid ((l.length : Int) ≤ 1099511627777) := by
    obtain ⟨l', h1, h2⟩ := way_ex hW.ok r
    obtain rfl := hl.uniq h1
    have := hW.ok.last
    show _ ≤ _
    omega
  clear hW
  go_enter Tryz.func30, Tryz.ntmps30
  go_wp2_with fail
  refine hn.mono ?_
  rintro e w1 ⟨v, rfl, hown, hb⟩
  rcases hown.2 with ⟨rfl, h0⟩ | ⟨g, cap, cur, rfl, hbase, hg, h1, h2, h3, h4⟩
  · go_wp2_with fail
    go_ret
    have : l = [] := by simpa using h0
    subst this
    exact ⟨rfl, hb⟩
  · cases hlr : l.reverse with
    | nil =>
      have : l = [] := by simpa using hlr
      subst this
      go_wp2_with fail
      go_ret
      exact ⟨rfl, hb⟩
    | cons x l' =>
      obtain rfl : l = l'.reverse ++ [x] := by
        have := congrArg List.reverse hlr
        simpa using this
      have hc : w1.cell? ⟨g, l'.length, none⟩ = some (.int .i64 x) := by
        rw [cell_blk hg]
        have e1 : (List.map (Value.int .i64) (l'.reverse ++ [x]))[l'.length]? = some (.int .i64 x) := by simp
        rw [← h4, List.getElem?_take] at e1
        split at e1
        · simpa using e1
        · cases e1
      have hll : (l'.reverse ++ [x]).length = l'.length + 1 := by simp
      rw [hll] at hlen ⊢
      have Hx : Hid ((l'.reverse ++ [x]).getLast?.getD 0 = x) := by show _ = _; simp
      have hlen' : (l'.length : Int) ≤ 1099511627776 := by have := hlen.out; omega
      have hz : ((l'.length : Int) + 1 == 0) = false := by simp; omega
      clear hown hg h1 h2 h3 h4 hll hlr hn hbase hl
      go_wp2_with fail
      go_ret
      exact ⟨by rw [Hx.out]; rfl, hb⟩
end Go.Proofs.YtifmifjbebpomaaGreatDoor
