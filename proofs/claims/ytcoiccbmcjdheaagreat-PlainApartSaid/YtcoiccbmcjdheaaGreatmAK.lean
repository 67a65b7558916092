/- A part of the proof, several texts in one: VWalk. -/
import Derived.Test.YtcoiccbmcjdheaaGreatmAI
import Derived.Test.YtcoiccbmcjdheaaGreatmAJ
import Derived.Test.YtcoiccbmcjdheaaGreatmAH
import Derived.ArgAppend
import Derived.Deep.DeepCutAuto
import Derived.Deep.CutBlock
/- value.walk, Refs of any value. -/
namespace Go.Proofs.YtcoiccbmcjdheaaGreat
open Go.RowKit Go.ChangeMaps Go.MapKept

set_option maxRecDepth 8000 in
theorem clip_W (w : World) (pa : Option Addr) (n c : Nat) (hn : n ≤ c) (h0 : pa = none → n = 0 ∧ c = 0) : Calls Tryz.prog 78 #[.slice pa n c] w fun e w' => e = .returned (.slice pa n n) ∧ w = w' := by
  cases pa with
  | none =>
    obtain ⟨rfl, rfl⟩ := h0 rfl
    go_enter Tryz.func78, Tryz.ntmps78
    go_wp2_with fail
    go_ret
    exact ⟨rfl, rfl⟩
  | some a =>
    go_enter Tryz.func78, Tryz.ntmps78
    go_wp2_with fail
    go_ret
    exact ⟨rfl, rfl⟩

theorem row_type {w : World} {base n : Nat} {v : Value} {xs : List Value} (h : w.ownsRow base 28 1 v n xs) {b : Nat} {cs : Array Value} {e : TypeId} {fr : Nat × Nat} (hb : w.heap[b]? = some (.cells cs e fr)) (he : e ≠ 28) : v.ownBlock ≠ some b := by
  intro h1
  rcases h.2 with ⟨rfl, -⟩ | ⟨g, cap, cur, rfl, -, hg, -⟩
  · cases h1
  · simp only [Value.ownBlock, Option.some.injEq] at h1
    subst h1
    rw [hg] at hb
    cases hb
    exact he rfl
theorem below_of_grownNone {A B : World} (h : A.grownBy B none) : Below A.heap.size A B := ⟨h.os, h.tape, h.output, h.size, fun k hk => h.block k hk (by simp)⟩
/-- A reference more in the box. -/
theorem RowBox.push {w w5 : World} {base B : Nat} {xs : List Int} {vv v' : Value} {y : Int} (hv : w.heap[B]? = some (.cells #[vv] 64 (0, 0))) (hrow : w.ownsRow base 28 1 vv xs.length (xs.map (Value.int .i64)))
    (hown : w5.ownsRow base 28 1 v' (xs ++ [y]).length ((xs ++ [y]).map (Value.int .i64))) (hg : w.grownBy w5 vv.ownBlock) (hb : Below base w w5) (hB : base ≤ B) :
    w5.heap[B]? = some (.cells #[vv] 64 (0, 0)) ∧ RowBox (w5.setCell ⟨B, 0, none⟩ v') base B (xs ++ [y]) ∧ Below base w (w5.setCell ⟨B, 0, none⟩ v') ∧ RefFr w (w5.setCell ⟨B, 0, none⟩ v') := by
  have h5 : w5.heap[B]? = some (.cells #[vv] 64 (0, 0)) := (hg.block B (blk_lt hv) (fun e => row_type hrow hv (by decide) e.symm)).trans hv
  refine ⟨h5, ⟨v', heap_setCell_box v' h5, hown.kept (grownBy_setCell' w5 B v') (.inr (row_type hown h5 (by decide)))⟩, hb.setCell (p := ⟨B, 0, none⟩) hB _, ?_, fun b cs e fr h h1 h2 => ?_⟩
  · simpa [World.setCell] using hb.size
  · have hbB : b ≠ B := fun e' => by
      subst e'
      rw [hv] at h
      cases h
      exact h2 rfl
    rw [Below.heap_setCell w5 ⟨B, 0, none⟩ v' b hbB, hg.block b (blk_lt h) (fun e' => row_type hrow h h1 e'.symm)]
    exact h
theorem RowBox.below {w w' : World} {base B : Nat} {xs : List Int} (h : RowBox w base B xs) (hb : Below w.heap.size w w') : RowBox w' base B xs := by
  obtain ⟨v, h1, h2⟩ := h
  refine ⟨v, below_blk hb h1, h2.kept (grownBy_of_below hb) ?_⟩
  cases hv : v.ownBlock with
  | none => exact .inl rfl
  | some b => exact .inr (by simp)

set_option maxHeartbeats 1000000 in
set_option maxRecDepth 8000 in
theorem Refs1_W {w : World} {base B : Nat} {xs : List Int} (v : Val) (raw pl : Value) (hR : RowBox w base B xs) (hB : base ≤ B) (hl : xs.length ≤ 1000000) (hraw : ∃ pa n c, raw = .slice pa n c) :
    Calls Tryz.prog 53 #[pl, .agg (vcs v raw), .pointer (some ⟨B, 0, none⟩)] w fun e w' => e = .returned (.bool true) ∧ RowBox w' base B (if v.kind = 4 then xs ++ [v.r] else xs) ∧ Below base w w' ∧ RefFr w w' := by
  obtain ⟨pa, n, c, rfl⟩ := hraw
  obtain ⟨kind, nn, s, l, r⟩ := v
  simp only [vcs]
  have hlt : B < w.heap.size := by
    obtain ⟨vv, hv, -⟩ := hR
    exact blk_lt hv
  have hb1 : Below w.heap.size w (w.alloc (.cells #[.int .u8 kind, .int .i64 nn, .string s, .slice pa n c, .int .i64 r] 34)) := (Below.refl _ _).alloc (Nat.le_refl _) _
  have HK : Hid (Below w.heap.size w (w.alloc (.cells #[.int .u8 kind, .int .i64 nn, .string s, .slice pa n c, .int .i64 r] 34)) ∧ B < w.heap.size ∧ base ≤ B) := ⟨hb1, hlt, hB⟩
  have HR := (show Hid _ from hR.below hb1)
  have Hn : Hid ((xs.length : Int) ≤ 1099511627777) := by show _ ≤ _; omega
  clear hR hlt hb1 hB hl
  by_cases hk : kind = 4
  · subst hk
    rw [if_pos rfl]
    obtain ⟨vv, hv, hrow⟩ := HR.out
    have HV := (show Hid _ from And.intro hv hrow)
    have d0 : (w.alloc (.cells #[.int .u8 4, .int .i64 nn, .string s, .slice pa n c, .int .i64 r] 34)).cell? ⟨B, 0, none⟩ = some vv := by rw [cell_blk hv]; rfl
    have Hs : Hid (base ≤ (w.alloc (.cells #[.int .u8 4, .int .i64 nn, .string s, .slice pa n c, .int .i64 r] 34)).heap.size) := by
      have := HK.out.1.size
      have := HK.out.2
      show _ ≤ _
      omega
    clear hv hrow HR
    have k4 : (w.alloc (.cells #[.int .u8 4, .int .i64 nn, .string s, .slice pa n c, .int .i64 r] 34)).cell? ⟨w.heap.size, 4, none⟩ = some (.int .i64 r) := by rw [cell_blk (blk_new _ _)]; rfl
    go_enter Tryz.func53, Tryz.ntmps53
    go_upto_region 2 with fail
    revert HK HV d0 Hs k4
    generalize w.alloc _ = wa
    intro HK HV d0 Hs k4
    go_wp2_with (first
      | (at_builtin; refine append_ref rfl _ _ rfl base vv xs rfl HV.out.2 r rfl Hn Hs.out ?_; intro v' w5 hown hg5 hb5
         obtain ⟨h5, h6, h7, h8⟩ := RowBox.push HV.out.1 HV.out.2 hown hg5 hb5 HK.out.2.2
         have HP := (show Hid _ from And.intro h6 (And.intro h7 h8))
         obtain ⟨d5, f5⟩ := box_facts h5
         obtain ⟨g5, cap5, rfl⟩ := ownsRow_succ (k := xs.length) (by simpa using hown)
         clear h5 h6 h7 h8 hown hg5 hb5))
    go_ret
    obtain ⟨h6, h7, h8⟩ := HP.out
    exact ⟨rfl, h6, (HK.out.1.mono (by have := HK.out.2; omega)).trans h7, (RefFr.of_below HK.out.1).trans h8⟩
  · rw [if_neg hk]
    have hk' : (kind == 4) = false := by simpa using hk
    go_enter Tryz.func53, Tryz.ntmps53
    go_wp2_with fail
    go_ret
    exact ⟨rfl, HR.out, HK.out.1.mono (by have := HK.out.2; omega), RefFr.of_below HK.out.1⟩

theorem step_g {P : Program} {Q : Exit → Act → World → Prop} {R : World → World → Prop} {Φ : Value → World → Prop} {o : Oper} {a : Act} {w w' : World} (v : Value) (hrun : (execOp a.eval o).run P w = .ok (.value v) w') (hR : R w w') (hφ : Φ (o.dst.elim undef fun _ => v) w') :
    o.wp P a w (fun a' w' => ∃ v, a' = a.put o.dst v ∧ R w w' ∧ Φ (o.dst.elim undef fun _ => v) w') Q := by
  unfold Oper.wp
  rw [hrun]
  exact ⟨v, rfl, hR, hφ⟩
theorem infoInt' : (Tryz.prog.info? 3).map (fun i => (i.zero, i.size, i.bytes)) = some (some (.int .i64 0), 1, 8) := by kernel_rfl
theorem plAt_of_row {w : World} {base n : Nat} {v : Value} {xs : List Int} (hx : xs.length = n + 1) (h : w.ownsRow base 3 1 v (n + 1) (xs.map (Value.int .i64))) : PlAt w v (n + 1) := by
  obtain ⟨g, cap, rfl⟩ := ownsRow_succ h
  have hl : n + 1 ≤ cap := by
    rcases h.2 with ⟨h0, -⟩ | ⟨g', cap', cur, h0, -, -, h1, -⟩
    · cases h0
    · cases h0; exact h1
  refine ⟨_, cap, rfl, hl, fun h => (by cases h), fun a ha => ?_⟩
  cases ha
  refine ⟨rfl, .inr ?_⟩
  obtain ⟨cur, hg⟩ : ∃ cur, w.heap[g]? = some (.cells cur 3 (0, 0)) := by
    rcases h.2 with ⟨h0, -⟩ | ⟨g', cap', cur, h0, -, hg, -⟩
    · cases h0
    · cases h0; exact ⟨cur, hg⟩
  refine ⟨cur, _, hg, fun j hj => ⟨xs[j], ?_⟩⟩
  have := h.cellAt j (by omega)
  simp only [Nat.zero_add]
  rw [this, List.getElem?_map, List.getElem?_eq_getElem (by omega)]
  rfl
/-- A place one longer: always a new row. -/
theorem append_pl {w : World} {pa : Option Addr} {n b : Nat} {i : Int} (hp : PlAt w (.slice pa n n) n) (hb : w.heap[b]? = some (.cells #[.int .i64 i] 3 (0, 0))) (hn : n ≤ 1000000) :
    ∃ v' w', (Builtin.append_ #[74, 74] 74 #[.slice pa n n, .slice (some ⟨b, 0, none⟩) 1 1]).run Tryz.prog w = .ok v' w' ∧ PlAt w' v' (n + 1) ∧ Below w.heap.size w w' := by
  obtain ⟨ii, hi, hz, h1, h2⟩ := info_parts infoInt'
  have hc : ∀ j u, ([.int .i64 i] : List Value)[j]? = some u → w.cell? ((⟨b, 0, none⟩ : Addr).add j) = some u := fun j u hj => by
    match j, hj with
    | 0, hj => cases hj; rw [Addr.add_lit, cell_blk hb]; rfl
  cases pa with
  | none =>
    obtain ⟨pa', c', e, -, h0, -⟩ := hp
    cases e
    obtain ⟨rfl, -⟩ := h0 rfl
    obtain ⟨v', w', hrun, r1, r2, -⟩ := run_append_own (P := Tryz.prog) w w.heap.size 74 74 3 ii _ 1 8 Tryz.underlying74 hi hz h1 h2 rfl (by decide) (.slice none 0 0) 0 [] (World.ownsRow_nil w _ _ 1) ⟨b, 0, none⟩ 1 1 [.int .i64 i] rfl hc (by simp [Value.oneCell']) (by unfold maxLen; omega) (by omega) (Nat.le_refl _)
    exact ⟨v', w', hrun, plAt_of_row (xs := [i]) rfl r1, below_of_grownNone r2⟩
  | some a =>
    obtain ⟨pa', c', e, -, -, h3⟩ := hp
    cases e
    have ⟨xs, hxl, hxc⟩ : ∃ xs : List Int, xs.length = n ∧ ∀ j x, xs[j]? = some x → w.cell? (a.add j) = some (.int .i64 x) := by
      obtain ⟨hs, h⟩ := h3 a rfl
      obtain ⟨ab, ao, sp⟩ := a
      have hs : sp = none := hs
      subst hs
      rcases h with rfl | ⟨cs, fr, -, h⟩
      · exact ⟨[], rfl, fun j x hj => by simp at hj⟩
      · obtain ⟨q, hq⟩ := Classical.axiomOfChoice (r := fun (j : Fin n) (x : Int) => w.cell? ⟨ab, ao + j, none⟩ = some (.int .i64 x)) (fun j => h j j.2)
        refine ⟨List.ofFn q, by simp, fun j x hj => ?_⟩
        have hjn : j < n := by
          have := (List.getElem?_eq_some_iff.1 hj).1
          simpa using this
        rw [List.getElem?_eq_getElem (by simpa using hjn)] at hj
        simp at hj
        rw [Addr.add_mid, hq ⟨j, hjn⟩, ← hj]
    obtain ⟨v', w', hrun, r1, r2⟩ := run_append_arg_grows (P := Tryz.prog) w 74 74 3 ii _ 1 8 Tryz.underlying74 hi hz h1 h2 rfl (by decide) a n n (xs.map (Value.int .i64)) (by simp [hxl]) (fun j u hj => by
      rw [List.getElem?_map, Option.map_eq_some_iff] at hj
      obtain ⟨x, hx, rfl⟩ := hj
      exact hxc j x hx) ⟨b, 0, none⟩ 1 1 [.int .i64 i] rfl hc (by omega) (by unfold maxLen; omega) (by omega)
    exact ⟨v', w', hrun, plAt_of_row (xs := xs ++ [i]) (by simp [hxl]) (by simpa using r1), below_of_grownNone r2⟩

/-- What walk hands its parts to: the box B. -/
def yV (B : Nat) : Value := .func (.func 53) #[] #[.pointer (some ⟨B, 0, none⟩)]
def WalkC (n : Nat) : Prop := ∀ (v : Val) (raw : Value) (w : World) (F : Nat → Prop) (base B m : Nat) (out : List Int) (pl : Value), depV n v → (∀ b, F b → b < base) → SlAt w F raw v.l → PlAt w pl m → m + n ≤ 100 → base ≤ B → RowBox w base B out → out.length + (refsN n v).length ≤ 100000 →
  Calls Tryz.prog 52 #[.agg (vcs v raw), pl, yV B] w fun e w' => e = .returned (.bool true) ∧ RowBox w' base B (out ++ refsN n v) ∧ Below base w w' ∧ RefFr w w'
/-- In walk's loop. -/
def WkL (w : World) (base B : Nat) (out : List Int) (cs : Array Value) (wr : World) : Prop := RowBox wr base B out ∧ Below base w wr ∧ RefFr w wr ∧ wr.heap[w.heap.size]? = some (.cells cs 34 (0, 0))
/-- What the operations of walk's region come to. -/
def WPhi (x : Array Value) (pa : Option Addr) (m c : Nat) (i : Int) (y : Value) (j : Nat) (v : Value) (w : World) : Prop :=
  match j with
  | 0 => v = .agg x
  | 1 => v = .slice pa m c
  | 2 => v = .slice pa m m
  | 3 => v = .int .i64 i
  | 4 => ∃ b, v = .slice (some ⟨b, 0, none⟩) 1 1 ∧ w.heap[b]? = some (.cells #[.int .i64 i] 3 (0, 0))
  | 5 => PlAt w v (m + 1)
  | 6 => v = y
  | _ => True
theorem WPhi.stab {x : Array Value} {pa : Option Addr} {m c : Nat} {i : Int} {y : Value} : ∀ (j : Nat) (v : Value) (w w' : World), Below w.heap.size w w' → WPhi x pa m c i y j v w → WPhi x pa m c i y j v w' := by
  intro j v w w' hR h
  unfold WPhi at h ⊢
  split at h
  · exact h
  · exact h
  · exact h
  · exact h
  · obtain ⟨b, h1, h2⟩ := h
    exact ⟨b, h1, below_blk hR h2⟩
  · exact h.reffr (RefFr.of_below hR)
  · exact h
  · trivial
theorem execOp_ldVw21 (ρ : Operand → Value) (ty : TypeId) (pos : String) (af : Array Edge) (g : Option (Nat × Bool)) :
    execOp ρ { dst := some 21, op := .load 34 (.tmp 20), type := ty, pos := pos, after := af, guard := g } = ldV (ρ (.tmp 20)) := rfl
theorem execOp_ldVw22 (ρ : Operand → Value) (ty : TypeId) (pos : String) (af : Array Edge) (g : Option (Nat × Bool)) :
    execOp ρ { dst := some 22, op := .load 34 (.tmp 8), type := ty, pos := pos, after := af, guard := g } = ldV (ρ (.tmp 8)) := rfl

attribute [local go_sem ↓] execOp_ldVw21 in
set_option maxHeartbeats 4000000 in
set_option maxRecDepth 20000 in
theorem walk_step (n : Nat) (ih : ∀ k, n = k + 1 → WalkC k) : WalkC n := by
  intro v raw w F base B m out pl hd hFb hS hpl hm hB hR hlen
  have HFb := (show Hid (∀ b, F b → b < base) from hFb)
  clear hFb
  obtain ⟨pa, c, rfl⟩ := hS.form
  obtain ⟨pp, cc, rfl, hmc, hp0, -⟩ := id hpl
  obtain ⟨kind, nn, s, l, r⟩ := v
  have IH := (show Hid _ from ih)
  have HD := (show Hid (depV n ⟨kind, nn, s, l, r⟩) from hd)
  have HS := (show Hid (SlAt w F (.slice pa l.length c) l) from hS)
  have HPl := (show Hid (PlAt w (.slice pp m cc) m) from hpl)
  have Hm := (show Hid (m + n ≤ 100 ∧ base ≤ B ∧ m ≤ cc ∧ (pp = none → m = 0 ∧ cc = 0)) from ⟨hm, hB, hmc, hp0⟩)
  have HR := (show Hid (RowBox w base B out) from hR)
  have Hlen := (show Hid (out.length + (refsN n ⟨kind, nn, s, l, r⟩).length ≤ 100000) from hlen)
  have hlt : B < w.heap.size := by
    obtain ⟨vv, hv, -⟩ := hR
    exact blk_lt hv
  have Hlt := (show Hid (B < w.heap.size) from hlt)
  clear ih hd hS hpl hm hB hR hlen hmc hp0 hlt
  simp only [vcs, yV]
  have hb1 : Below w.heap.size w (w.alloc (.cells #[.int .u8 kind, .int .i64 nn, .string s, .slice pa l.length c, .int .i64 r] 34)) := (Below.refl _ _).alloc (Nat.le_refl _) _
  have HB1 := (show Hid _ from hb1)
  have hg1 := blk_new w (.cells #[.int .u8 kind, .int .i64 nn, .string s, .slice pa l.length c, .int .i64 r] 34)
  have HG1 := (show Hid _ from hg1)
  clear hb1 hg1
  go_enter Tryz.func52, Tryz.ntmps52
  go_wp2_with fail
  refine (Refs1_W ⟨kind, nn, s, l, r⟩ (.slice pa l.length c) (.slice pp m cc) (HR.out.below HB1.out) Hm.out.2.1 (by have := Hlen.out; omega) ⟨_, _, _, rfl⟩).mono ?_
  rintro e w2 ⟨rfl, hbox, hbel, hfr⟩
  have HL : Hid (WkL w base B (out ++ if kind = 4 then [r] else []) #[.int .u8 kind, .int .i64 nn, .string s, .slice pa l.length c, .int .i64 r] w2) := by
    refine ⟨?_, (HB1.out.mono (by have := Hm.out.2.1; have := Hlt.out; omega)).trans hbel, (RefFr.of_below HB1.out).trans hfr, hfr.2 _ _ _ _ HG1.out (by decide) (by decide)⟩
    have h : RowBox w2 base B (if kind = 4 then out ++ [r] else out) := hbox
    split at h
    · rename_i hk
      rw [if_pos hk]
      exact h
    · rename_i hk
      rw [if_neg hk, List.append_nil]
      exact h
  have c3 : w2.cell? ⟨w.heap.size, 3, none⟩ = some (.slice pa l.length c) := by rw [cell_blk HL.out.2.2.2]; rfl
  clear hbox hbel hfr HB1 HG1
  go_wp2_with fail
  go_loopw [17] (fun vi wr => ∃ i : Nat, vi = .int .i64 i ∧ i ≤ l.length ∧ Hid (WkL w base B ((out ++ if kind = 4 then [r] else []) ++ (l.take i).flatMap (refsN (n - 1))) #[.int .u8 kind, .int .i64 nn, .string s, .slice pa l.length c, .int .i64 r] wr)) (fun vi _ => l.length - (intOf vi).toNat)
  case atStart => exact ⟨0, rfl, by omega, by simpa using HL⟩
  case round =>
    clear HL c3
    obtain ⟨i, rfl, hi, HL⟩ := hrel
    by_cases hil : i < l.length
    · obtain ⟨k, rfl⟩ : ∃ k, n = k + 1 := by
        cases n with
        | zero =>
          have h0 : l = [] := HD.out
          rw [h0] at hil
          simp at hil
        | succ k => exact ⟨k, rfl⟩
      obtain ⟨x, hx⟩ : ∃ x, l[i]? = some x := ⟨_, List.getElem?_eq_getElem hil⟩
      obtain ⟨b, o, c', raw, hpe, hrg, -, -, hSx⟩ := (HS.out.base HFb.out HL.out.2.1).range hx
      cases hpe
      have hl512 : l.length ≤ 512 := HD.out.1
      obtain ⟨xk, xn, xs, xl, xr⟩ := x
      obtain ⟨pa2, c2, rfl⟩ := hSx.form
      have hld0 := loadV_mid hrg rfl
      have hld : (ldV (.pointer (some ⟨b, o + i * 5, none⟩))).run Tryz.prog wr = .ok (.value (.agg #[.int .u8 xk, .int .i64 xn, .string xs, .slice pa2 xl.length c2, .int .i64 xr])) wr := hld0
      have hiz : (i : Int) < (l.length : Int) := by omega
      have hdx := HD.out.2 ⟨xk, xn, xs, xl, xr⟩ (List.mem_of_getElem? hx)
      have HX := (show Hid (l[i]? = some ⟨xk, xn, xs, xl, xr⟩) from hx)
      have HSX := (show Hid (SlAt wr F (.slice pa2 xl.length c2) xl) from hSx)
      have HDX := (show Hid (depV k ⟨xk, xn, xs, xl, xr⟩) from hdx)
      have Htk : Hid ((l.take (i + 1)).flatMap (refsN k) = (l.take i).flatMap (refsN k) ++ refsN k ⟨xk, xn, xs, xl, xr⟩) := by
        show _ = _
        rw [List.take_add_one, hx]
        simp
      have Hle : Hid (((out ++ if kind = 4 then [r] else []) ++ (l.take i).flatMap (refsN k)).length + (refsN k ⟨xk, xn, xs, xl, xr⟩).length ≤ 100000) := by
        have h1 := Hlen.out
        have h2 : refsN (k + 1) ⟨kind, nn, s, l, r⟩ = (if kind = 4 then [r] else []) ++ l.flatMap (refsN k) := rfl
        rw [h2] at h1
        have h3 : l.flatMap (refsN k) = (l.take (i + 1)).flatMap (refsN k) ++ (l.drop (i + 1)).flatMap (refsN k) := by
          rw [← List.flatMap_append, List.take_append_drop]
        rw [h3, Htk.out] at h1
        show _ ≤ _
        simp only [List.length_append] at h1 ⊢
        omega
      clear hld0 hx hrg hSx hdx
      go_upto_region 6 with fail
      have HB8 : Hid (Below wr.heap.size wr (wr.alloc (.cells #[.int .u8 xk, .int .i64 xn, .string xs, .slice pa2 xl.length c2, .int .i64 xr] 34))) := (Below.refl _ _).alloc (Nat.le_refl _) _
      have HG8 : Hid ((wr.alloc (.cells #[.int .u8 xk, .int .i64 xn, .string xs, .slice pa2 xl.length c2, .int .i64 xr] 34)).heap[wr.heap.size]? = some (.cells #[.int .u8 xk, .int .i64 xn, .string xs, .slice pa2 xl.length c2, .int .i64 xr] 34 (0, 0))) := blk_new _ _
      clear hld
      revert HB8 HG8
      generalize wr.alloc _ = wa
      intro HB8 HG8
      have HPa : Hid (PlAt wa (.slice pp m cc) m) := HPl.out.reffr (HL.out.2.2.1.trans (RefFr.of_below HB8.out))
      refine wp_region_growK 7 (by kernel_rfl) rfl (by kernel_rfl) (by kernel_rfl) (fun a b => Below a.heap.size a b) (WPhi #[.int .u8 xk, .int .i64 xn, .string xs, .slice pa2 xl.length c2, .int .i64 xr] pp m cc i (.func (.func 53) #[] #[.pointer (some ⟨B, 0, none⟩)])) (fun w' => Below wa.heap.size wa w') (fun j v w w' => WPhi.stab j v w w') below_drew (fun a b h hR => h.trans (hR.mono h.size)) ?_ ?_ ?_
      · intro j q g b hq hgd
        have hj : j < 7 := (List.getElem?_eq_some_iff.1 hq).1
        match j, hj with
        | 0, _ => cases hq; cases hgd
        | 1, _ => cases hq; cases hgd
        | 2, _ => cases hq; cases hgd
        | 3, _ => cases hq; cases hgd
        | 4, _ => cases hq; cases hgd
        | 5, _ => cases hq; cases hgd
        | 6, _ => cases hq; cases hgd
      · intro j q a w7 hq hC hG
        have hj : j < 7 := (List.getElem?_eq_some_iff.1 hq).1
        match j, hj with
        | 0, _ =>
          cases hq
          have h8 : a.tmps.getD 8 undef = .pointer (some ⟨wr.heap.size, 0, none⟩) := hG.fr 8 (by simp)
          refine step_g (.agg #[.int .u8 xk, .int .i64 xn, .string xs, .slice pa2 xl.length c2, .int .i64 xr]) ?_ (Below.refl _ _) rfl
          rw [execOp_ldVw22]
          show (ldV (a.tmps.getD 8 undef)).run _ _ = _
          rw [h8]
          exact loadV_blk (below_blk hC HG8.out) rfl
        | 1, _ =>
          cases hq
          have h1 : a.tmps.getD 1 undef = .slice pp m cc := hG.fr 1 (by simp)
          exact step_g (.slice pp m cc) (by rw [← h1]; rfl) (Below.refl _ _) rfl
        | 2, _ =>
          cases hq
          have h23 : a.tmps.getD 23 undef = .slice pp m cc := hG.dep ⟨1, .data⟩ (by simp) rfl _ rfl
          unfold Oper.wp
          simp [go_sem, callFunc, Act.eval, Tryz.func78, h23]
          refine (clip_W w7 pp m cc Hm.out.2.2.1 Hm.out.2.2.2).mono ?_
          rintro e _ ⟨rfl, rfl⟩
          exact ⟨_, rfl, Below.refl _ _, rfl⟩
        | 3, _ =>
          cases hq
          have h7 : a.tmps.getD 7 undef = .int .i64 i := hG.fr 7 (by simp)
          exact step_g (.int .i64 i) (by rw [← h7]; rfl) (Below.refl _ _) rfl
        | 4, _ =>
          cases hq
          have h25 : a.tmps.getD 25 undef = .int .i64 i := hG.dep ⟨3, .data⟩ (by simp) rfl _ rfl
          have h25' : a.tmps[25]?.getD undef = .int .i64 i := by rw [← h25]; simp [Array.getD_eq_getD_getElem?]
          unfold Oper.wp
          simp [execOp, go_sem, Act.eval, h25']
          exact ⟨_, rfl, (Below.refl _ _).alloc (Nat.le_refl _) _, ⟨w7.heap.size, rfl, blk_new _ _⟩⟩
        | 5, _ =>
          cases hq
          have h24 : a.tmps.getD 24 undef = .slice pp m m := hG.dep ⟨2, .data⟩ (by simp) rfl _ rfl
          obtain ⟨b', h26, hb'⟩ := hG.dep ⟨4, .data⟩ (by simp) rfl _ rfl
          have h26 : a.tmps.getD 26 undef = .slice (some ⟨b', 0, none⟩) 1 1 := h26
          have hpl : PlAt w7 (.slice pp m m) m := by
            obtain ⟨pa', c', e, -, h0, h3⟩ := HPa.out.reffr (RefFr.of_below hC)
            cases e
            exact ⟨_, _, rfl, Nat.le_refl _, fun h => ⟨(h0 h).1, (h0 h).1⟩, h3⟩
          obtain ⟨v', w8, hrun, hp8, hb8⟩ := append_pl hpl hb' (by have := Hm.out.1; omega)
          refine step_g v' ?_ hb8 hp8
          simp [execOp, resolve, invoke, builtin, Act.eval, h24, h26, hrun, Result.andThen]
        | 6, _ =>
          cases hq
          have h2 : a.tmps.getD 2 undef = .func (.func 53) #[] #[.pointer (some ⟨B, 0, none⟩)] := hG.fr 2 (by simp)
          exact step_g (.func (.func 53) #[] #[.pointer (some ⟨B, 0, none⟩)]) (by rw [← h2]; rfl) (Below.refl _ _) rfl
      · intro a w7 hC hdf hsz hfr hphi
        have h22 : a.tmps.getD 22 undef = .agg #[.int .u8 xk, .int .i64 xn, .string xs, .slice pa2 xl.length c2, .int .i64 xr] := hphi 0 _ rfl
        have h23 : a.tmps.getD 23 undef = .slice pp m cc := hphi 1 _ rfl
        have h24 : a.tmps.getD 24 undef = .slice pp m m := hphi 2 _ rfl
        have h25 : a.tmps.getD 25 undef = .int .i64 i := hphi 3 _ rfl
        obtain ⟨b', h26, -⟩ := hphi 4 _ rfl
        have h26 : a.tmps.getD 26 undef = .slice (some ⟨b', 0, none⟩) 1 1 := h26
        have h28 : a.tmps.getD 28 undef = .func (.func 53) #[] #[.pointer (some ⟨B, 0, none⟩)] := hphi 6 _ rfl
        obtain ⟨pl', h27⟩ : ∃ v, a.tmps.getD 27 undef = v := ⟨_, rfl⟩
        have hpl' : PlAt w7 pl' (m + 1) := by
          have : PlAt w7 (a.tmps.getD 27 undef) (m + 1) := hphi 5 _ rfl
          rwa [h27] at this
        have ha := act_of hdf hsz hfr
        simp only [List.take_succ_cons, List.take_zero, List.filterMap_cons, List.filterMap_nil, List.foldl_cons, List.foldl_nil, List.setIfInBounds_toArray, List.set_cons_zero, List.set_cons_succ, h22, h23, h24, h25, h26, h27, h28] at ha
        clear hdf hsz hfr hphi h22 h23 h24 h25 h26 h27 h28
        subst ha
        have hb7 : Below wr.heap.size wr w7 := HB8.out.trans (hC.mono HB8.out.size)
        refine ⟨rfl, ?_⟩
        unfold Oper.wp
        simp [go_sem, callFunc, Act.eval, Tryz.func52]
        refine (IH.out k rfl ⟨xk, xn, xs, xl, xr⟩ (.slice pa2 xl.length c2) w7 F base B (m + 1) ((out ++ if kind = 4 then [r] else []) ++ (l.take i).flatMap (refsN k)) pl' HDX.out HFb.out (HSX.out.on hb7) hpl' (by have := Hm.out.1; omega) Hm.out.2.1 (HL.out.1.below hb7) Hle.out).mono ?_
        rintro e w9 ⟨rfl, hbox, hbel, hfr9⟩
        have HL' : Hid (WkL w base B ((out ++ if kind = 4 then [r] else []) ++ (l.take (i + 1)).flatMap (refsN k)) #[.int .u8 kind, .int .i64 nn, .string s, .slice (some ⟨b, o, none⟩) l.length c, .int .i64 r] w9) := by
          obtain ⟨h1, h2, h3, h4⟩ := HL.out
          have hb7' : Below base wr w7 := hb7.mono (by
            obtain ⟨vv, hv, -⟩ := h1
            have := blk_lt hv
            have := Hm.out.2.1
            omega)
          refine ⟨?_, h2.trans (hb7'.trans hbel), h3.trans ((RefFr.of_below hb7).trans hfr9), hfr9.2 _ _ _ _ (below_blk hb7 h4) (by decide) (by decide)⟩
          rw [Htk.out, ← List.append_assoc]
          exact hbox
        refine ⟨rfl, ?_⟩
        unfold Oper.wp
        simp [execOp, go_sem, Act.eval]
        clear hbox hbel hfr9 hb7 h26 hpl' hC HL HX HSX HDX Htk Hle HB8 HG8 HPa
        refine ‹∀ (a : Act) (w : World), Code.wp Tryz.prog _ _ a w → _› _ _ ?_
        go_wp2_with fail
        go_roundw
        case rel => exact ⟨i + 1, by go_num, by omega, HL'⟩
        case measure =>
          simp [intOf]
          omega
    · have hiz : ¬ (i : Int) < (l.length : Int) := by omega
      obtain rfl : i = l.length := by omega
      have HE : Hid (RowBox wr base B (out ++ refsN n ⟨kind, nn, s, l, r⟩) ∧ Below base w wr ∧ RefFr w wr) := by
        obtain ⟨h1, h2, h3, -⟩ := HL.out
        refine ⟨?_, h2, h3⟩
        rw [List.take_length] at h1
        cases n with
        | zero =>
          have h0 : l = [] := HD.out
          subst h0
          simpa [refsN] using h1
        | succ k => simpa [refsN] using h1
      clear HL
      go_wp2_with fail
      go_ret
      exact ⟨rfl, HE.out⟩
theorem walk_W (n : Nat) : WalkC n := by
  induction n with
  | zero => exact walk_step 0 (fun k h => by cases h)
  | succ n ih => exact walk_step (n + 1) (fun k h => by cases h; exact ih)

/-- The references of a list in memory of the call's own. -/
def RefsAt (w w' : World) (v : Value) (xs : List Int) : Prop := w'.ownsRow w.heap.size 28 1 v xs.length (xs.map (Value.int .i64))
set_option maxHeartbeats 1000000 in
set_option maxRecDepth 8000 in
theorem Refs_G {w : World} {F : Nat → Prop} (v : Val) (raw : Value) (hS : SlAt w F raw v.l) : Calls Tryz.prog 28 #[.agg (vcs v raw)] w fun e w' => ∃ u, e = .returned u ∧ RefsAt w w' u (refsV v) ∧ Below w.heap.size w w' := by
  obtain ⟨pa, c, rfl⟩ := hS.form
  obtain ⟨kind, nn, s, l, r⟩ := v
  simp only [vcs]
  have HS := (show Hid (SlAt w F (.slice pa l.length c) l) from hS)
  clear hS
  have hb2 : Below w.heap.size w ((w.alloc (.cells #[.int .u8 kind, .int .i64 nn, .string s, .slice pa l.length c, .int .i64 r] 34)).alloc (.cells #[.slice none 0 0] 64)) := ((Below.refl _ _).alloc (Nat.le_refl _) _).alloc (by simp) _
  have hg2 := blk2_new w (.cells #[.int .u8 kind, .int .i64 nn, .string s, .slice pa l.length c, .int .i64 r] 34) (.cells #[.slice none 0 0] 64)
  have hs2 : ((w.alloc (.cells #[.int .u8 kind, .int .i64 nn, .string s, .slice pa l.length c, .int .i64 r] 34)).alloc (.cells #[.slice none 0 0] 64)).heap.size = w.heap.size + 2 := by simp
  have HB2 := (show Hid _ from And.intro hb2 (And.intro hg2 hs2))
  clear hb2 hg2 hs2
  go_enter Tryz.func28, Tryz.ntmps28
  go_wp2_with fail
  refine (vMay_G (v := ⟨kind, nn, s, l, r⟩) (raw := .slice pa l.length c) (HS.out.on HB2.out.1)).mono ?_
  rintro e w3 ⟨rfl, hb3⟩
  have hg3 := below_blk hb3 HB2.out.2.1
  have hv3 := below_blk hb3 (blk2_old w (.cells #[.int .u8 kind, .int .i64 nn, .string s, .slice pa l.length c, .int .i64 r] 34) (.cells #[.slice none 0 0] 64))
  have HB3 := (show Hid (Below w.heap.size w w3 ∧ w3.heap[w.heap.size + 1]? = some (.cells #[.slice none 0 0] 64 (0, 0)) ∧ w3.heap[w.heap.size]? = some (.cells #[.int .u8 kind, .int .i64 nn, .string s, .slice pa l.length c, .int .i64 r] 34 (0, 0))) from ⟨HB2.out.1.trans (hb3.mono HB2.out.1.size), hg3, hv3⟩)
  obtain ⟨⟨k0, k1, k2, k3, k4⟩, -⟩ := cells5 hv3
  have d0 : w3.cell? ⟨w.heap.size + 1, 0, none⟩ = some (.slice none 0 0) := by rw [cell_blk hg3]; rfl
  clear hb3 HB2 hg3 hv3
  cases hmv : mayV ⟨kind, nn, s, l, r⟩ with
  | false =>
    have HE : Hid (RefsAt w w3 (.slice none 0 0) (refsV ⟨kind, nn, s, l, r⟩)) := by
      have : refsV ⟨kind, nn, s, l, r⟩ = [] := by unfold refsV; rw [hmv]; rfl
      rw [this]
      exact World.ownsRow_nil _ _ _ _
    clear HS hmv
    go_wp2_with fail
    go_ret
    exact ⟨_, rfl, HE.out, HB3.out.1⟩
  | true =>
    have Hmv := (show Hid (mayV ⟨kind, nn, s, l, r⟩ = true) from hmv)
    have hmf : ∀ (fn : Fn) (first cap : Array Value) (w : World), (Instr.makeFunc fn first cap).run Tryz.prog w = .ok (.func fn first cap) w := fun _ _ _ _ => rfl
    clear hmv d0
    go_wp2_with fail
    have hrow : RowBox w3 w.heap.size (w.heap.size + 1) [] := ⟨_, HB3.out.2.1, World.ownsRow_nil _ _ _ _⟩
    have hle : (refsN 16 ⟨kind, nn, s, l, r⟩).length ≤ 512 := by
      have := refsV_le ⟨kind, nn, s, l, r⟩
      unfold refsV at this
      rwa [Hmv.out] at this
    refine (walk_W 16 ⟨kind, nn, s, l, r⟩ (.slice pa l.length c) w3 (fun b => F b ∧ b < w.heap.size) w.heap.size (w.heap.size + 1) 0 [] (.slice none 0 0) (depV_may Hmv.out) (fun _ h => h.2) (HS.out.lt.on HB3.out.1) ⟨none, 0, rfl, Nat.le_refl _, fun _ => ⟨rfl, rfl⟩, fun a h => by cases h⟩ (by omega) (Nat.le_succ _) hrow (by simp; omega)).mono ?_
    rintro e w4 ⟨rfl, hbox, hbel, -⟩
    obtain ⟨vv, hv, hrow4⟩ := hbox
    have d0 : w4.cell? ⟨w.heap.size + 1, 0, none⟩ = some vv := by rw [cell_blk hv]; rfl
    have HE : Hid (RefsAt w w4 vv (refsV ⟨kind, nn, s, l, r⟩)) := by
      have : refsV ⟨kind, nn, s, l, r⟩ = [] ++ refsN 16 ⟨kind, nn, s, l, r⟩ := by unfold refsV; rw [Hmv.out]; rfl
      rw [this]
      exact hrow4
    have HB4 := (show Hid (Below w.heap.size w w4) from HB3.out.1.trans hbel)
    clear hrow hle hbel hv hrow4 HB3 HS Hmv k0 k1 k2 k3 k4 hmf
    go_wp2_with fail
    go_ret
    exact ⟨_, rfl, HE.out, HB4.out⟩
end Go.Proofs.YtcoiccbmcjdheaaGreat
