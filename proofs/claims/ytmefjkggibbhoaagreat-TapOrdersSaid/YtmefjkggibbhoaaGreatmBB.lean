/- A part of the proof, several texts in one: SameW, OrdW. -/
import Derived.Test.YtmefjkggibbhoaaGreatmAY
import Derived.Test.YtmefjkggibbhoaaGreatmAZ
import Derived.Test.YtmefjkggibbhoaaGreatmBA
/- world.Same of two worlds that are the same: it says yes. -/
namespace Go.Proofs.YtmefjkggibbhoaaGreat
open Go.RowKit Go.ChangeMaps Go.MapKept

theorem setRow_other (W : World) {a b : Nat} (h : b ≠ a) (xs : Array Value) : (W.setRow a xs).heap[b]? = W.heap[b]? := by
  simp [World.setRow, Array.getElem?_modify, Ne.symm h]
theorem boxed_aw (w1 : World) (xs : Array Value) (hs : xs.size = 5) (h1 : xs.all (·.oneCell') = true) :
    ∃ w2, (stA (.pointer (some ⟨w1.heap.size, 0, none⟩)) (.agg xs)).run Tryz.prog ((w1.alloc (.cells #[.slice none 0 0, .slice none 0 0, .slice none 0 0, .int .i64 0, .slice none 0 0] 112)).alloc (.cells #[.slice none 0 0, .slice none 0 0, .slice none 0 0, .int .i64 0, .slice none 0 0] 112)) = .ok .skip w2 ∧
      Below w1.heap.size w1 w2 ∧ w2.heap[w1.heap.size]? = some (.cells xs 112 (0, 0)) ∧ w2.heap[w1.heap.size + 1]? = some (.cells #[.slice none 0 0, .slice none 0 0, .slice none 0 0, .int .i64 0, .slice none 0 0] 112 (0, 0)) :=
  ⟨_, storeA_blk (blk2_old w1 _ _) rfl hs h1, Below.setRow (((Below.refl _ _).alloc (Nat.le_refl _) _).alloc (by simp) _) (Nat.le_refl _) _, heap_setRow_at (blk2_old w1 _ _), (setRow_other _ (by omega) xs).trans (blk2_new w1 _ _)⟩

set_option maxHeartbeats 4000000 in
set_option maxRecDepth 100000 in
theorem Same_W {w : World} {p q : Nat} {M : WM} {F G : Nat → Prop} (hW : IsW w p M F) (hV : IsW w q M G) (light : ∀ r t, M.at r = some t → Lite t) (hsm : M.things.length ≤ 1000000) :
    Calls Tryz.prog 21 #[.pointer (some ⟨p, 0, none⟩), .pointer (some ⟨q, 0, none⟩)] w fun e w' => e = .returned (.bool true) ∧ Below w.heap.size w w' := by
  have HW := (show Hid (IsW w p M F) from hW)
  have HV := (show Hid (IsW w q M G) from hV)
  have HL := (show Hid (∀ r t, M.at r = some t → Lite t) from light)
  clear hW hV light
  go_enter Tryz.func21, Tryz.ntmps21
  go_wp2_with fail
  refine (none_W HW.out).mono ?_
  rintro e _ ⟨rfl, rfl⟩
  go_wp2_with fail
  refine (none_W HV.out).mono ?_
  rintro e _ ⟨rfl, rfl⟩
  go_wp2_with fail
  refine (Tell_W HW.out HL.out hsm).mono ?_
  rintro e w1 ⟨x, rfl, hx, hb1⟩
  have HX1 := (show Hid (Told M (cutsTo M M.cuts.length) x w1) from hx)
  have HV1 := (show Hid (IsW w1 q M G) from HV.out.below hb1)
  have HB1 := (show Hid (Below w.heap.size w w1) from hb1)
  clear hx hb1 HW HV
  go_wp2_with fail
  refine (Tell_W HV1.out HL.out hsm).mono ?_
  rintro e w2 ⟨y, rfl, hy, hb2⟩
  have hB2 := HB1.out.trans (hb2.mono HB1.out.size)
  obtain ⟨pa, ca, pb, cb, pc, cc, pd, cd, rfl, a1, a2, a3, a4⟩ := HX1.out.below hb2
  obtain ⟨qa, da, qb, db, qc, dc, qd, dd, rfl, b1, b2, b3, b4⟩ := hy
  obtain ⟨w3, hs3, hb3, g3, g3'⟩ := boxed_aw w2 #[.slice pa M.parents.length ca, .slice pb (cutsTo M M.cuts.length).length cb, .slice pc M.things.length cc, .int .i64 M.last, .slice pd M.made.length cd] rfl (by simp [go_sem])
  have hs4 := storeA_blk (c' := #[.slice qa M.parents.length da, .slice qb (cutsTo M M.cuts.length).length db, .slice qc M.things.length dc, .int .i64 M.last, .slice qd M.made.length dd]) g3' rfl rfl (by simp [go_sem])
  have hb4 : Below w2.heap.size w2 (w3.setRow (w2.heap.size + 1) #[.slice qa M.parents.length da, .slice qb (cutsTo M M.cuts.length).length db, .slice qc M.things.length dc, .int .i64 M.last, .slice qd M.made.length dd]) := Below.setRow hb3 (by omega) _
  have HG : Hid ((w3.setRow (w2.heap.size + 1) #[.slice qa M.parents.length da, .slice qb (cutsTo M M.cuts.length).length db, .slice qc M.things.length dc, .int .i64 M.last, .slice qd M.made.length dd]).heap[w2.heap.size]? = some (.cells #[.slice pa M.parents.length ca, .slice pb (cutsTo M M.cuts.length).length cb, .slice pc M.things.length cc, .int .i64 M.last, .slice pd M.made.length cd] 112 (0, 0)) ∧ (w3.setRow (w2.heap.size + 1) #[.slice qa M.parents.length da, .slice qb (cutsTo M M.cuts.length).length db, .slice qc M.things.length dc, .int .i64 M.last, .slice qd M.made.length dd]).heap[w2.heap.size + 1]? = some (.cells #[.slice qa M.parents.length da, .slice qb (cutsTo M M.cuts.length).length db, .slice qc M.things.length dc, .int .i64 M.last, .slice qd M.made.length dd] 112 (0, 0))) := ⟨(setRow_other _ (by omega) _).trans g3, heap_setRow_at g3'⟩
  have HB4 : Hid (Below w.heap.size w (w3.setRow (w2.heap.size + 1) #[.slice qa M.parents.length da, .slice qb (cutsTo M M.cuts.length).length db, .slice qc M.things.length dc, .int .i64 M.last, .slice qd M.made.length dd])) := hB2.trans (hb4.mono hB2.size)
  have HT : Hid (IntArg .i64 w2 pa M.parents ∧ IntArg .i64 w2 pb (cutsTo M M.cuts.length) ∧ EntAt w2 pc M.things ∧ IntArg .i64 w2 pd M.made ∧ IntArg .i64 w2 qa M.parents ∧ IntArg .i64 w2 qb (cutsTo M M.cuts.length) ∧ EntAt w2 qc M.things ∧ IntArg .i64 w2 qd M.made) := ⟨a1, a2, a3, a4, b1, b2, b3, b4⟩
  have HK4 : Hid (Below w2.heap.size w2 (w3.setRow (w2.heap.size + 1) #[.slice qa M.parents.length da, .slice qb (cutsTo M M.cuts.length).length db, .slice qc M.things.length dc, .int .i64 M.last, .slice qd M.made.length dd])) := hb4
  have Hok2 := (show Hid M.ok from HV1.out.ok)
  have Hok := (show Hid (M.parents.length ≤ 1000000 ∧ M.made.length ≤ 1000000 ∧ (cutsTo M M.cuts.length).length ≤ 1000000) from by
    have h1 := HV1.out.ok
    have h2 := h1.sides
    have h3 := h1.made
    have h4 := h1.cuts
    have h5 := cutsTo_len M M.cuts.length
    exact ⟨by omega, by omega, by omega⟩)
  clear hb4 hB2 hb2 hb3 g3 g3' a1 a2 a3 a4 b1 b2 b3 b4 HX1 HV1 HB1
  go_upto_region 4 with fail
  clear hs3 hs4
  revert HG HB4 HT HK4
  generalize w3.setRow _ _ = w4
  intro HG HB4 HT HK4
  obtain ⟨nc, hnc⟩ : ∃ nc, nc = (cutsTo M M.cuts.length).length := ⟨_, rfl⟩
  have Hnc := (show Hid (nc = (cutsTo M M.cuts.length).length) from hnc)
  rw [← hnc] at HG ⊢
  clear hnc
  obtain ⟨A, hA⟩ : ∃ A, A = w2.heap.size := ⟨_, rfl⟩
  rw [← hA] at HG ⊢
  clear hA
  have x0 : w4.cell? ⟨A, 0, none⟩ = some (.slice pa M.parents.length ca) := by rw [cell_blk HG.out.1]; rfl
  have y0 : w4.cell? ⟨A + 1, 0, none⟩ = some (.slice qa M.parents.length da) := by rw [cell_blk HG.out.2]; rfl
  go_wp2_with fail
  refine (equalSide_W w4 pa qa _ ca da M.parents (intArg_below HT.out.1 HK4.out) (intArg_below HT.out.2.2.2.2.1 HK4.out) rfl Hok.out.1).mono ?_
  rintro e w5 ⟨rfl, hb⟩
  replace HG : Hid (_ ∧ _) := ⟨below_blk hb HG.out.1, below_blk hb HG.out.2⟩
  replace HB4 := (show Hid (Below w.heap.size w w5) from HB4.out.trans (hb.mono HB4.out.size))
  replace HK4 := (show Hid (Below w2.heap.size w2 w5) from HK4.out.trans (hb.mono HK4.out.size))
  clear hb x0 y0
  have x1 : w5.cell? ⟨A, 1, none⟩ = some (.slice pb nc cb) := by rw [cell_blk HG.out.1]; rfl
  have y1 : w5.cell? ⟨A + 1, 1, none⟩ = some (.slice qb nc db) := by rw [cell_blk HG.out.2]; rfl
  go_wp2_with fail
  refine (equalInt_W w5 pb qb nc cb db (cutsTo M M.cuts.length) (intArg_below HT.out.2.1 HK4.out) (intArg_below HT.out.2.2.2.2.2.1 HK4.out) Hnc.out (by rw [Hnc.out]; exact Hok.out.2.2)).mono ?_
  rintro e w6 ⟨rfl, hb⟩
  replace HG : Hid (_ ∧ _) := ⟨below_blk hb HG.out.1, below_blk hb HG.out.2⟩
  replace HB4 := (show Hid (Below w.heap.size w w6) from HB4.out.trans (hb.mono HB4.out.size))
  replace HK4 := (show Hid (Below w2.heap.size w2 w6) from HK4.out.trans (hb.mono HK4.out.size))
  clear hb x1 y1
  have x3 : w6.cell? ⟨A, 3, none⟩ = some (.int .i64 M.last) := by rw [cell_blk HG.out.1]; rfl
  have y3 : w6.cell? ⟨A + 1, 3, none⟩ = some (.int .i64 M.last) := by rw [cell_blk HG.out.2]; rfl
  have x4 : w6.cell? ⟨A, 4, none⟩ = some (.slice pd M.made.length cd) := by rw [cell_blk HG.out.1]; rfl
  have y4 : w6.cell? ⟨A + 1, 4, none⟩ = some (.slice qd M.made.length dd) := by rw [cell_blk HG.out.2]; rfl
  go_wp2_with fail
  refine (equalInt_W w6 pd qd _ cd dd M.made (intArg_below HT.out.2.2.2.1 HK4.out) (intArg_below HT.out.2.2.2.2.2.2.2 HK4.out) rfl Hok.out.2.1).mono ?_
  rintro e w7 ⟨rfl, hb⟩
  replace HG : Hid (_ ∧ _) := ⟨below_blk hb HG.out.1, below_blk hb HG.out.2⟩
  replace HB4 := (show Hid (Below w.heap.size w w7) from HB4.out.trans (hb.mono HB4.out.size))
  replace HK4 := (show Hid (Below w2.heap.size w2 w7) from HK4.out.trans (hb.mono HK4.out.size))
  clear hb x3 y3 x4 y4
  have x2 : w7.cell? ⟨A, 2, none⟩ = some (.slice pc M.things.length cc) := by rw [cell_blk HG.out.1]; rfl
  have y2 : w7.cell? ⟨A + 1, 2, none⟩ = some (.slice qc M.things.length dc) := by rw [cell_blk HG.out.2]; rfl
  go_wp2_with fail
  refine (eqfEntry_W w7 pc qc _ cc dc M.things (HT.out.2.2.1.below HK4.out) (HT.out.2.2.2.2.2.2.1.below HK4.out) (fun x hx => HL.out x.1 x.2 (Hok2.out.at_of_mem hx)) rfl (by omega)).mono ?_
  rintro e w8 ⟨rfl, hb⟩
  replace HB4 := (show Hid (Below w.heap.size w w8) from HB4.out.trans (hb.mono HB4.out.size))
  clear hb x2 y2
  go_wp2_with fail
  go_ret
  exact ⟨rfl, HB4.out⟩
end Go.Proofs.YtmefjkggibbhoaaGreat
/- TapOrders: the walk. -/
namespace Go.Proofs.YtmefjkggibbhoaaGreat
open Go.RowKit Go.ChangeMaps Go.MapKept

theorem infoU8 : (Tryz.prog.info? 5).map (fun i => (i.zero, i.size, i.bytes)) = some (some (.int .u8 0), 1, 1) := by kernel_rfl
/-- append to nil: all of a list of bytes. -/
theorem append_nilA {w : World} {ops : Array Oper} {rest : List Oper} {o : Oper} {a : Act} {Q : Exit → Act → World → Prop} (hgd : o.guard = none) (s x : Operand)
    (ho : o.op = .call { callee := .builtin .append, args := #[s, x], argTypes := #[22, 22] }) (A : Addr) (c n : Nat) (vs : List Value) (hs : a.eval s = .slice none 0 0) (hn : Hid (n = vs.length)) (hx : a.eval x = .slice (some A) n c) (hc : Hid (∀ (j : Nat) (v : Value), vs[j]? = some v → w.cell? (A.add j) = some v)) (h1 : Hid (∀ v ∈ vs, v.oneCell' = true)) (hl : Hid (vs.length ≤ 1000))
    (h : ∀ v' w', Hid (w'.ownsRow w.heap.size 5 1 v' n vs) → Hid (Below w.heap.size w w') → wpList Tryz.prog ops Q rest (a.put o.dst v') w') : wpList Tryz.prog ops Q (o :: rest) a w := by
  obtain ⟨i, hi, hz, h2, h3⟩ := info_parts infoU8
  have hl := hl.out
  have hn := hn.out
  refine wpList_append_own _ hgd s x 22 ho w.heap.size 5 i (.int .u8 0) 1 1 Tryz.underlying22 hi hz h2 h3 rfl (by decide) (.slice none 0 0) 0 [] hs (World.ownsRow_nil _ _ _ _) A n c vs hx (by omega) hc.out h1.out (by unfold maxLen; omega) (by omega) (Nat.le_refl _) ?_
  intro v' w' r1 r2 _
  exact h v' w' (by show World.ownsRow _ _ _ _ _ _ _; simpa using r1) ⟨r2.os, r2.tape, r2.output, r2.size, fun k hk => r2.block k hk (fun e => by cases e)⟩

/-- Behind all passes: both worlds are the same. -/
theorem OrS.same {w0 w : World} {p q : Nat} {M : WM} {l : List Int} {tl : Int → Int} {g m cap : Nat} {vo : Value} {os ps : List Int} (h : OrS w0 p q M l g m cap vo os (waysOf l m ps) (waysOf l m os) w) (hC : Cw M l tl fun _ => 0) (hM : M.ok) (hlast : M.last ≤ 81) (hl : l.length ≤ 81) (hp : ps.length ≤ 100) (ho : os.length ≤ 100) (hs : ∀ f, sumI f os = sumI f ps) :
    Calls Tryz.prog 21 #[.pointer (some ⟨p, 0, none⟩), .pointer (some ⟨q, 0, none⟩)] w fun e w' => e = .returned (.bool true) ∧ Below w.heap.size w w' := by
  have ha : (waysOf l m ps).length ≤ 1000000 := by
    have h1 := waysOf_len l m ps
    have h5 := Nat.mul_le_mul hp hl
    omega
  have hb : (waysOf l m os).length ≤ 1000000 := by
    have h1 := waysOf_len l m os
    have h5 := Nat.mul_le_mul ho hl
    omega
  obtain ⟨F1, G1, hW1, hW2, -⟩ := h.own
  have heq : M.pass (waysOf l m os) = M.pass (waysOf l m ps) := pass_same hC hM (waysOf_sub l m os) (waysOf_sub l m ps) hb ha (fun r => by rw [hits_ways, hits_ways]; exact hs _)
  rw [heq] at hW2
  have hC' := hC.pass (waysOf l m ps) (waysOf_sub l m ps) (fun n => by show (0 : Int) ≤ 0 ∧ (0 : Int) + _ ≤ _; omega)
  have hsm : (M.pass (waysOf l m ps)).things.length ≤ 1000000 := by
    rw [pass_len]
    have h1 := hM.len_le
    omega
  exact Same_W hW1 hW2 hC'.lite hsm

set_option maxHeartbeats 16000000 in
set_option maxRecDepth 100000 in
theorem orders_W (w : World) (la qa sa : Option Addr) (c n c2 n2 c3 n3 : Nat) (lv ps ss : List Int) (hl : IntArg .u8 w la lv) (hv : ∀ x ∈ lv, 0 ≤ x ∧ x ≤ 255) (hn : n = lv.length) (hp : IntArg .u8 w qa ps) (hpv : ∀ x ∈ ps, 0 ≤ x ∧ x ≤ 255) (hn2 : n2 = ps.length)
    (hs : IntArg .u8 w sa ss) (hsv : ∀ x ∈ ss, 0 ≤ x ∧ x ≤ 255) (hn3 : n3 = ss.length) :
    Calls Tryz.prog 5 #[.agg #[.slice la n c, .slice qa n2 c2], .slice sa n3 c3] w fun e w' => e = .returned (.bool true) ∧ Below w.heap.size w w' := by
  have hmm := @run_makeMap Tryz.prog
  obtain ⟨wa, hwa⟩ : ∃ wa, wa = w.alloc (.cells #[.slice la n c, .slice qa n2 c2] 24) := ⟨_, rfl⟩
  have HX : Hid (BoxAt w wa (.slice la n c) (.slice qa n2 c2)) := by rw [hwa]; exact ⟨(Below.refl _ _).alloc (Nat.le_refl _) _, blk_new w _⟩
  have Hl : Hid (IntArg .u8 wa la lv) := hl.of_below HX.out.1
  have Hp : Hid (IntArg .u8 wa qa ps) := hp.of_below HX.out.1
  have Hs : Hid (IntArg .u8 wa sa ss) := hs.of_below HX.out.1
  have Hv := (show Hid (∀ x ∈ lv, 0 ≤ x ∧ x ≤ 255) from hv)
  have Hpv := (show Hid (∀ x ∈ ps, 0 ≤ x ∧ x ≤ 255) from hpv)
  have Hsv := (show Hid (∀ x ∈ ss, 0 ≤ x ∧ x ≤ 255) from hsv)
  have Hn := (show Hid (n = lv.length) from hn)
  have Hn2 := (show Hid (n2 = ps.length) from hn2)
  have Hn3 := (show Hid (n3 = ss.length) from hn3)
  have hsz : wa.heap.size = w.heap.size + 1 := by rw [hwa]; simp
  have Hsz := (show Hid (wa.heap.size = w.heap.size + 1) from hsz)
  have Hwa := (show Hid (wa = _) from hwa)
  clear hl hp hs hv hpv hsv hn hn2 hn3 hwa hsz
  go_enter Tryz.func5, Tryz.ntmps5
  go_wp2_with fail
  rw [← Hwa.out, ← Hsz.out]
  refine (New_W _ _ 1 [0] (.inr ⟨wa.heap.size, 0, rfl, fun j x hx => ?_⟩)).mono ?_
  · rw [cell_blk (blk_new wa _)]
    match j, hx with
    | 0, hx => simpa using hx
  rintro e w1 hpost
  obtain ⟨p, F, rfl, hW, hF, hb⟩ := (Or.resolve_right hpost (fun h => h.1 tree0)).2
  clear hpost
  have hb1 : Below wa.heap.size wa w1 := ((Below.refl _ _).alloc (Nat.le_refl _) _).trans (hb.mono (by simp))
  have HO : Hid (Own wa w1 p (WM.new [0])) := ⟨F, hW, fun b h => by have := hF b h; simp at this; omega, hb1⟩
  have HX1 : Hid (BoxAt w w1 (.slice la n c) (.slice qa n2 c2)) := HX.out.below hb1
  have cb0 := HX1.out.cell0
  clear hW hF hb hb1
  go_wp2_with fail
  refine (tower_W (OwnS.of HO.out) la c n lv Hl.out Hv Hn).mono ?_
  rintro e w2 ⟨g, m, cap, mb, rfl, l, tl, first, hm, M, hS, hTw, hR, -, -⟩
  obtain ⟨hlen, hle⟩ : 1 ≤ m ∧ m ≤ 81 := by
    have := hTw.ne
    have := hTw.llen
    omega
  have Hm := (show Hid (m = l.length) from hm)
  have HS := (show Hid (OwnS wa w2 p M (TS NoB g m cap mb)) from hS)
  have HC := (show Hid (Cw M l tl fun _ => 0) from hTw.cw)
  have HR := (show Hid (w2.ownsRow wa.heap.size 35 1 (.slice (some ⟨g, 0, none⟩) m cap) m (l.map (Value.int .i64))) from hR)
  have HMok := (show Hid M.ok from hS.choose_spec.1.ok)
  have Hlast := (show Hid (M.last ≤ 81) from by have := hTw.last; show M.last ≤ 81; omega)
  have HB2 := (show Hid (Below wa.heap.size wa w2) from hS.base)
  have cb1 : w2.cell? ⟨w.heap.size, 1, none⟩ = some (.slice qa n2 c2) := (HX.out.below HB2.out).cell1
  clear cb0 HX1 HO hm hS hTw hR
  by_cases hbig : n2 ≤ 100
  rotate_left
  · have hbz : (n2 : Int) > 100 := by omega
    go_wp2_with fail
    refine (lives13_W _).mono ?_
    rintro e w5 ⟨rfl, hb⟩
    have HE : Hid (Below w.heap.size w w5) := by
      have h2 := HB2.out.trans (hb.mono HB2.out.size)
      exact HX.out.1.trans (h2.mono HX.out.1.size)
    clear hb
    go_wp2_with fail
    go_ret
    exact ⟨rfl, HE⟩
  have hbz : ¬ ((n2 : Int) > 100) := by omega
  go_wp2_with fail
  refine (Copy_W HS.out.choose_spec.1 HC.out.lite).mono ?_
  rintro e w3 ⟨q, G, rfl, hWq, hG, hb3⟩
  have HQ := (show Hid (IsW w3 q M G ∧ (∀ b, G b → w2.heap.size ≤ b) ∧ Below w2.heap.size w2 w3) from ⟨hWq, hG, hb3⟩)
  have HB3 := (show Hid (Below wa.heap.size wa w3) from HB2.out.trans (hb3.mono HB2.out.size))
  have cb1' : w3.cell? ⟨w.heap.size, 1, none⟩ = some (.slice qa n2 c2) := (HX.out.below HB3.out).cell1
  clear hWq hG hb3 cb1 hbz
  go_upto_region 8 with fail
  go_cut [11] (fun vo wx => Hid (OrS wa p q M l g m cap vo ps [] [] wx ∧ ∃ a co, vo = .slice a n2 co))
  case first =>
    cases qa with
    | none =>
      have hp0 : ps = [] := by
        rcases Hp.out with h | ⟨_, _, h, -⟩
        · exact h
        · cases h
      have hn0 : n2 = 0 := by rw [Hn2.out, hp0]; rfl
      subst hn0
      have HO4 : Hid (OrS wa p q M l g m cap (.slice none 0 0) ps [] [] w3 ∧ ∃ a co, Value.slice none 0 0 = .slice a 0 co) := by
        refine ⟨OrS.start HS.out HR.out HQ.out.2.2 HQ.out.1 HQ.out.2.1 (Below.refl _ _) ?_, none, 0, rfl⟩
        rw [hp0]
        exact World.ownsRow_nil _ _ _ _
      clear hp0
      go_wp2_with fail
      go_meet
      case rel => exact HO4
    | some A =>
      have Hps : Hid (∀ (j : Nat) (v : Value), (ps.map (Value.int .u8))[j]? = some v → w3.cell? (A.add j) = some v) := fun j v hv => by
        rw [List.getElem?_map] at hv
        obtain ⟨x, hx, rfl⟩ := Option.map_eq_some_iff.1 hv
        rcases Hp.out with h | ⟨b, o, h1, h2, h3⟩
        · rw [h] at hx; simp at hx
        · cases h1
          rw [Addr.add_mid]
          exact (HB3.out.cell (p := ⟨b, o + j, none⟩) h2).trans (h3 j x hx)
      have Hpn : Hid (n2 = (ps.map (Value.int .u8)).length) := by show _ = _; rw [List.length_map]; exact Hn2.out
      have Hp1 : Hid (∀ v ∈ ps.map (Value.int .u8), v.oneCell' = true) := fun v hv => by obtain ⟨x, -, rfl⟩ := List.mem_map.1 hv; rfl
      have Hpl : Hid ((ps.map (Value.int .u8)).length ≤ 1000) := by show _ ≤ _; rw [List.length_map, ← Hn2.out]; omega
      go_wp2_with (at_builtin; refine append_nilA rfl _ _ rfl A c2 n2 (ps.map (Value.int .u8)) rfl Hpn rfl Hps Hp1 Hpl ?_; intro vo w4 hrow hb4; obtain ⟨sa', sn', sc', rfl⟩ : ∃ sa sn sc, vo = .slice sa sn sc := by rcases hrow.out.2 with ⟨e, -⟩ | ⟨g, cap, cur, e, -⟩ <;> exact ⟨_, _, _, e⟩)
      have HO4 : Hid (OrS wa p q M l g m cap (.slice sa' sn' sc') ps [] [] w4 ∧ ∃ a co, Value.slice sa' sn' sc' = .slice a n2 co) := by
        have h1 := hrow.out
        refine ⟨OrS.start HS.out HR.out HQ.out.2.2 HQ.out.1 HQ.out.2.1 hb4.out (by rw [Hn2.out] at h1; exact h1), ?_⟩
        rcases h1.2 with ⟨e, h0⟩ | ⟨g, cap, cur, e, -⟩
        · rw [e, h0]
          exact ⟨_, _, rfl⟩
        · exact ⟨_, _, e⟩
      clear hrow hb4 Hps Hpn Hp1 Hpl
      go_meet
      case rel => exact HO4
  obtain ⟨hO4, ao, co, hvo⟩ := hcut.out
  subst hvo
  have HO4 := (show Hid (OrS wa p q M l g m cap (.slice ao n2 co) ps [] [] wc) from hO4)
  clear hcut hO4 cb1' HQ HS HR HB2 HB3 w3 w2
  go_wp2_with fail
  go_loopw [12] (fun vi wr => ∃ (i : Nat) (os : List Int), vi = .int .i64 i ∧ i ≤ 201 ∧ Hid (os.length = n2) ∧ Hid (∀ f, sumI f os = sumI f ps) ∧ Hid (∀ x ∈ os, 0 ≤ x ∧ x ≤ 255) ∧ Hid (OrS wa p q M l g m cap (.slice ao n2 co) os [] [] wr)) (fun vi _ => 300 - (intOf vi).toNat)
  case atStart => exact ⟨0, ps, rfl, by omega, Hn2.out.symm, fun _ => rfl, Hpv.out, HO4⟩
  case round =>
    clear HO4
    obtain ⟨i, os, rfl, hi, Hol, Hsum, Hou, HO4⟩ := hrel
    by_cases hall : i + 1 < n3 ∧ 0 < n2 ∧ i < 200
    · obtain ⟨h1, h2, h3⟩ := hall
      have h1z : (i : Int) + 1 < (n3 : Int) := by omega
      have h2z : (n2 : Int) > 0 := by omega
      have h3z : (i : Int) < 200 := by omega
      obtain ⟨s1, hs1⟩ : ∃ x, ss[i]? = some x := ⟨_, List.getElem?_eq_getElem (by have := Hn3.out; omega)⟩
      obtain ⟨s2, hs2⟩ : ∃ x, ss[i + 1]? = some x := ⟨_, List.getElem?_eq_getElem (by have := Hn3.out; omega)⟩
      obtain ⟨s10, s11⟩ := Hsv.out s1 (List.mem_of_getElem? hs1)
      obtain ⟨s20, s21⟩ := Hsv.out s2 (List.mem_of_getElem? hs2)
      obtain ⟨bs, ofs, rfl, cs1, cs2⟩ : ∃ bs ofs, sa = some ⟨bs, ofs, none⟩ ∧ wr.cell? ⟨bs, ofs + i, none⟩ = some (.int .u8 s1) ∧ wr.cell? ⟨bs, ofs + (i + 1), none⟩ = some (.int .u8 s2) := by
        rcases Hs.out with h | ⟨b, o, e1, e2, e3⟩
        · rw [h] at hs1; simp at hs1
        · exact ⟨b, o, e1, (HO4.out.b.cell (p := ⟨b, o + i, none⟩) e2).trans (e3 i s1 hs1), (HO4.out.b.cell (p := ⟨b, o + (i + 1), none⟩) e2).trans (e3 (i + 1) s2 hs2)⟩
      have hnz : ((n2 : Int) == 0) = false := by
        have : (n2 : Int) ≠ 0 := by omega
        simpa using this
      have hiz : (i : Int) < (n3 : Int) := by omega
      have hin : i < n3 := by omega
      obtain ⟨k1, hk1, e1⟩ : ∃ k1 : Nat, k1 < n2 ∧ s1 % (n2 : Int) = (k1 : Int) := by
        have h1 := Int.emod_nonneg s1 (show (n2 : Int) ≠ 0 by omega)
        have h2 := Int.emod_lt_of_pos s1 (show (0 : Int) < n2 by omega)
        exact ⟨(s1 % (n2 : Int)).toNat, by omega, by omega⟩
      obtain ⟨k2, hk2, e2⟩ : ∃ k2 : Nat, k2 < n2 ∧ s2 % (n2 : Int) = (k2 : Int) := by
        have h1 := Int.emod_nonneg s2 (show (n2 : Int) ≠ 0 by omega)
        have h2 := Int.emod_lt_of_pos s2 (show (0 : Int) < n2 by omega)
        exact ⟨(s2 % (n2 : Int)).toNat, by omega, by omega⟩
      clear hs1 hs2
      go_wp2_with fail
      go_quiet (fail)
      rw [e1, e2]
      have HO5 := (show Hid _ from HO4.out.below (below_drewN nq))
      clear e1 e2 cs1 cs2 s10 s11 s20 s21 hnz hiz HO4 h1z h3z h2z
      revert HO5
      generalize wr.drewN nq = w5
      intro HO5
      obtain ⟨a, ha⟩ : ∃ x, os[k1]? = some x := ⟨_, List.getElem?_eq_getElem (by have := Hol.out; omega)⟩
      obtain ⟨b, hb⟩ : ∃ x, os[k2]? = some x := ⟨_, List.getElem?_eq_getElem (by have := Hol.out; omega)⟩
      obtain ⟨go, rfl, ca, fa, cb, fb, cc, fc⟩ := HO5.out.two ha hb
      have HO7 : Hid (OrS wa p q M l g m cap (.slice (some ⟨go, 0, none⟩) n2 co) (swapL os k1 k2 a b) [] [] ((w5.setCell ⟨go, k1, none⟩ (.int .u8 b)).setCell ⟨go, k2, none⟩ (.int .u8 a)).drew) := (HO5.out.swap Hol.out).below below_drew
      have Hs7 : Hid (∀ f, sumI f (swapL os k1 k2 a b) = sumI f ps) := fun f => (sumI_swap f ha hb).trans (Hsum.out f)
      have Hu7 : Hid (∀ x ∈ swapL os k1 k2 a b, 0 ≤ x ∧ x ≤ 255) := fun x hx => Hou.out x (swapL_mem ha hb hx)
      have Hl7 : Hid ((swapL os k1 k2 a b).length = n2) := (swapL_len os k1 k2 a b).trans Hol.out
      have k1z : (k1 : Int) < (n2 : Int) := by omega
      have k2z : (k2 : Int) < (n2 : Int) := by omega
      clear HO5 ha hb Hol Hsum Hou
      go_wp2_with fail
      go_region
      clear ca fa cb fb cc fc
      go_wp2_with fail
      go_roundw
      case rel => exact ⟨i + 2, swapL os k1 k2 a b, by go_num, by omega, Hl7, Hs7, Hu7, HO7⟩
      case measure =>
        simp [intOf]
        omega
    · have hneg : (¬ ((i : Int) + 1 < (n3 : Int))) ∨ (((i : Int) + 1 < (n3 : Int)) ∧ ¬ ((n2 : Int) > 0)) ∨ (((i : Int) + 1 < (n3 : Int)) ∧ ((n2 : Int) > 0) ∧ ¬ (i : Int) < 200) := by omega
      clear hall
      by_cases hn0 : n2 = 0
      · have h2z : ¬ ((n2 : Int) > 0) := by omega
        have Hn0 := (show Hid (n2 = 0) from hn0)
        clear hneg hn0
        by_cases h1z : (i : Int) + 1 < (n3 : Int)
        · go_wp2_with fail
          go_loopw [15] (fun vi wx => ∃ k : Nat, vi = .int .i64 k ∧ k ≤ n2 ∧ Hid (OrS wa p q M l g m cap (.slice ao n2 co) os (waysOf l m (ps.take k)) (waysOf l m (os.take k)) wx)) (fun vi _ => n2 - (intOf vi).toNat)
          case atStart => exact ⟨0, rfl, by omega, HO4⟩
          case round =>
            clear HO4
            obtain ⟨k, rfl, hk, HO4⟩ := hrel
            have hn0 := Hn0.out
            have hkz : ¬ (k : Int) < (n2 : Int) := by omega
            obtain rfl : k = n2 := by omega
            have hO := HO4.out
            rw [List.take_of_length_le (by have := Hn2.out; omega), List.take_of_length_le (by have := Hol.out; omega)] at hO
            have hsame := hO.same HC.out HMok.out Hlast.out (by have := Hm.out; omega) (by have := Hn2.out; omega) (by have := Hol.out; omega) Hsum.out
            have HSM := (show Hid _ from hsame)
            have HBr : Hid (Below wa.heap.size wa wr) := hO.b
            clear hO hsame HO4
            go_wp2_with fail
            refine Calls.mono HSM.out ?_
            rintro e w5 ⟨rfl, hb5⟩
            have HB5 : Hid (Below wa.heap.size wa w5) := HBr.out.trans (hb5.mono HBr.out.size)
            clear hb5
            go_wp2_with fail
            refine (lives13_W _).mono ?_
            rintro e w6 ⟨rfl, hb6⟩
            have HE : Hid (Below w.heap.size w w6) := by
              have h2 := HB5.out.trans (hb6.mono HB5.out.size)
              exact HX.out.1.trans (h2.mono HX.out.1.size)
            clear hb6
            go_wp2_with fail
            go_ret
            exact ⟨rfl, HE⟩
        · go_wp2_with fail
          go_loopw [15] (fun vi wx => ∃ k : Nat, vi = .int .i64 k ∧ k ≤ n2 ∧ Hid (OrS wa p q M l g m cap (.slice ao n2 co) os (waysOf l m (ps.take k)) (waysOf l m (os.take k)) wx)) (fun vi _ => n2 - (intOf vi).toNat)
          case atStart => exact ⟨0, rfl, by omega, HO4⟩
          case round =>
            clear HO4
            obtain ⟨k, rfl, hk, HO4⟩ := hrel
            have hn0 := Hn0.out
            have hkz : ¬ (k : Int) < (n2 : Int) := by omega
            obtain rfl : k = n2 := by omega
            have hO := HO4.out
            rw [List.take_of_length_le (by have := Hn2.out; omega), List.take_of_length_le (by have := Hol.out; omega)] at hO
            have hsame := hO.same HC.out HMok.out Hlast.out (by have := Hm.out; omega) (by have := Hn2.out; omega) (by have := Hol.out; omega) Hsum.out
            have HSM := (show Hid _ from hsame)
            have HBr : Hid (Below wa.heap.size wa wr) := hO.b
            clear hO hsame HO4
            go_wp2_with fail
            refine Calls.mono HSM.out ?_
            rintro e w5 ⟨rfl, hb5⟩
            have HB5 : Hid (Below wa.heap.size wa w5) := HBr.out.trans (hb5.mono HBr.out.size)
            clear hb5
            go_wp2_with fail
            refine (lives13_W _).mono ?_
            rintro e w6 ⟨rfl, hb6⟩
            have HE : Hid (Below w.heap.size w w6) := by
              have h2 := HB5.out.trans (hb6.mono HB5.out.size)
              exact HX.out.1.trans (h2.mono HX.out.1.size)
            clear hb6
            go_wp2_with fail
            go_ret
            exact ⟨rfl, HE⟩
      have Hn0 := (show Hid (n2 ≠ 0) from hn0)
      replace hneg : (¬ ((i : Int) + 1 < (n3 : Int))) ∨ (((i : Int) + 1 < (n3 : Int)) ∧ ((n2 : Int) > 0) ∧ ¬ (i : Int) < 200) := by omega
      clear hn0
      rcases hneg with h1z | ⟨h1z, h2z, h3z⟩ <;> go_wp2_with fail
      all_goals
        (try clear h3z)
        (try clear h2z)
        clear h1z
        go_loopw [15] (fun vi wx => ∃ k : Nat, vi = .int .i64 k ∧ k ≤ n2 ∧ Hid (OrS wa p q M l g m cap (.slice ao n2 co) os (waysOf l m (ps.take k)) (waysOf l m (os.take k)) wx)) (fun vi _ => n2 - (intOf vi).toNat)
        case atStart => exact ⟨0, rfl, by omega, HO4⟩
        case round =>
          clear HO4
          obtain ⟨k, rfl, hk, HO4⟩ := hrel
          by_cases hkn : k < n2
          · have hkz : (k : Int) < (n2 : Int) := by omega
            obtain ⟨x1, hx1⟩ : ∃ x, ps[k]? = some x := ⟨_, List.getElem?_eq_getElem (by have := Hn2.out; omega)⟩
            obtain ⟨x2, hx2⟩ : ∃ x, os[k]? = some x := ⟨_, List.getElem?_eq_getElem (by have := Hol.out; omega)⟩
            obtain ⟨x10, x11⟩ := Hpv.out x1 (List.mem_of_getElem? hx1)
            obtain ⟨x20, x21⟩ := Hou.out x2 (List.mem_of_getElem? hx2)
            have cb1 : wr.cell? ⟨w.heap.size, 1, none⟩ = some (.slice qa n2 c2) := (HX.out.below HO4.out.b).cell1
            obtain ⟨bq, oq, rfl, cx1⟩ : ∃ bq oq, qa = some ⟨bq, oq, none⟩ ∧ wr.cell? ⟨bq, oq + k, none⟩ = some (.int .u8 x1) := by
              rcases Hp.out with h | ⟨b, o, e1, e2, e3⟩
              · rw [h] at hx1; simp at hx1
              · exact ⟨b, o, e1, (HO4.out.b.cell (p := ⟨b, o + k, none⟩) e2).trans (e3 k x1 hx1)⟩
            have hml : ((m : Int) == 0) = false := by
              have : (m : Int) ≠ 0 := by omega
              simpa using this
            obtain ⟨k1, hk1, e1⟩ : ∃ k1 : Nat, k1 < m ∧ x1 % (m : Int) = (k1 : Int) := by
              have h1 := Int.emod_nonneg x1 (show (m : Int) ≠ 0 by omega)
              have h2 := Int.emod_lt_of_pos x1 (show (0 : Int) < m by omega)
              exact ⟨(x1 % (m : Int)).toNat, by omega, by omega⟩
            obtain ⟨k2, hk2, e2⟩ : ∃ k2 : Nat, k2 < m ∧ x2 % (m : Int) = (k2 : Int) := by
              have h1 := Int.emod_nonneg x2 (show (m : Int) ≠ 0 by omega)
              have h2 := Int.emod_lt_of_pos x2 (show (0 : Int) < m by omega)
              exact ⟨(x2 % (m : Int)).toNat, by omega, by omega⟩
            have k1z : (k1 : Int) < (m : Int) := by omega
            have k2z : (k2 : Int) < (m : Int) := by omega
            obtain ⟨y1, hy1⟩ : ∃ x, l[k1]? = some x := ⟨_, List.getElem?_eq_getElem (by have := Hm.out; omega)⟩
            obtain ⟨y2, hy2⟩ : ∃ x, l[k2]? = some x := ⟨_, List.getElem?_eq_getElem (by have := Hm.out; omega)⟩
            have cy1 := HO4.out.cell Hm.out hy1
            have Hlm : Hid (l.length ≤ 81) := by have := Hm.out; show _ ≤ _; omega
            have Hla : Hid ((waysOf l m (ps.take k)).length ≤ 1000000 ∧ (waysOf l m (os.take k)).length ≤ 1000000) := by
              have h1 := waysOf_len l m (ps.take k)
              have h2 := waysOf_len l m (os.take k)
              have h3 : (ps.take k).length ≤ 100 := by rw [List.length_take]; omega
              have h4 : (os.take k).length ≤ 100 := by rw [List.length_take]; omega
              have h5 := Nat.mul_le_mul h3 Hlm.out
              have h6 := Nat.mul_le_mul h4 Hlm.out
              exact ⟨by omega, by omega⟩
            have Hy := (show Hid (l[k1]? = some y1 ∧ l[k2]? = some y2) from ⟨hy1, hy2⟩)
            have Hxx := (show Hid (ps[k]? = some x1 ∧ os[k]? = some x2) from ⟨hx1, hx2⟩)
            have He := (show Hid (x1 % (m : Int) = (k1 : Int) ∧ x2 % (m : Int) = (k2 : Int)) from ⟨e1, e2⟩)
            clear hx1 hx2 hy1 hy2
            go_wp2_with fail
            refine (HO4.out.passA HC.out (waysOf_sub l m _) Hla.out.1 He.out.1 Hy.out.1).mono ?_
            rintro e w5 ⟨rfl, hO5⟩
            have HO5 := (show Hid _ from hO5)
            obtain ⟨go, co', hvo, cx2, -⟩ := hO5.at Hxx.out.2
            injection hvo with hvo1 hvo2 hvo3
            have cy2 := hO5.cell Hm.out Hy.out.2
            clear hO5 HO4 cb1 cx1 cy1 hvo2 hvo3
            subst hvo1
            go_wp2_with fail
            refine (HO5.out.passB HC.out (waysOf_sub l m _) Hla.out.2 He.out.2 Hy.out.2).mono ?_
            rintro e w6 ⟨rfl, hO6⟩
            have HO6 : Hid (OrS wa p q M l g m cap (.slice (some ⟨go, 0, none⟩) n2 co) os (waysOf l m (ps.take (k + 1))) (waysOf l m (os.take (k + 1))) w6) := by
              show OrS _ _ _ _ _ _ _ _ _ _ _ _ _
              rw [List.take_add_one, List.take_add_one, Hxx.out.1, Hxx.out.2]
              simp only [Option.toList_some]
              rw [waysOf_snoc, waysOf_snoc]
              exact hO6
            clear hO6 HO5 cx2 cy2
            go_wp2_with fail
            go_roundw
            case rel => exact ⟨k + 1, by go_num, by omega, HO6⟩
            case measure =>
              simp [intOf]
              omega
          · have hkz : ¬ (k : Int) < (n2 : Int) := by omega
            obtain rfl : k = n2 := by omega
            have hO := HO4.out
            rw [List.take_of_length_le (by have := Hn2.out; omega), List.take_of_length_le (by have := Hol.out; omega)] at hO
            have hsame := hO.same HC.out HMok.out Hlast.out (by have := Hm.out; omega) (by have := Hn2.out; omega) (by have := Hol.out; omega) Hsum.out
            have HSM := (show Hid _ from hsame)
            have HBr : Hid (Below wa.heap.size wa wr) := hO.b
            clear hO hsame HO4
            go_wp2_with fail
            refine Calls.mono HSM.out ?_
            rintro e w5 ⟨rfl, hb5⟩
            have HB5 : Hid (Below wa.heap.size wa w5) := HBr.out.trans (hb5.mono HBr.out.size)
            clear hb5
            go_wp2_with fail
            refine (lives13_W _).mono ?_
            rintro e w6 ⟨rfl, hb6⟩
            have HE : Hid (Below w.heap.size w w6) := by
              have h2 := HB5.out.trans (hb6.mono HB5.out.size)
              exact HX.out.1.trans (h2.mono HX.out.1.size)
            clear hb6
            go_wp2_with fail
            go_ret
            exact ⟨rfl, HE⟩
end Go.Proofs.YtmefjkggibbhoaaGreat
