/- A part of the proof, several texts in one: VOf, Bare. -/
import Derived.Test.YtcoiccbmcjdheaaGreatmAG
import Derived.Test.YtcoiccbmcjdheaaGreatmAH
import Derived.Test.YtcoiccbmcjdheaaGreatmAB
import Derived.StillTailTactics
import Derived.BigRegion
/- value.Of of any values. -/
namespace Go.Proofs.YtcoiccbmcjdheaaGreat
open Go.RowKit Go.ChangeMaps Go.MapKept

/-- The list of some values; what Of says to them. -/
def listV (l : List Val) : Val := ⟨3, 0, ⟨#[]⟩, l, 0⟩
def ofE (l : List Val) : Int := if l.all mayV then (if mayV (listV l) then 0 else 4) else 2

set_option maxRecDepth 8000 in
theorem vall1_W {w : World} {F : Nat → Prop} (v : Val) (raw : Value) (hS : SlAt w F raw v.l) : Calls Tryz.prog 68 #[.agg (vcs v raw)] w fun e w' => e = .returned (.bool (!mayV v)) ∧ Below w.heap.size w w' := by
  obtain ⟨pa, c, rfl⟩ := hS.form
  obtain ⟨kind, nn, s, l, r⟩ := v
  have hb1 : Below w.heap.size w (w.alloc (.cells #[.int .u8 kind, .int .i64 nn, .string s, .slice pa l.length c, .int .i64 r] 34)) := (Below.refl _ _).alloc (Nat.le_refl _) _
  have hm := vMay_G (v := ⟨kind, nn, s, l, r⟩) (raw := .slice pa l.length c) (hS.on hb1)
  have HM := (show Hid _ from hm)
  have HB1 := (show Hid _ from hb1)
  clear hm hS hb1
  simp only [vcs]
  cases hmv : mayV ⟨kind, nn, s, l, r⟩ with
  | false =>
    rw [hmv] at HM
    clear hmv
    go_enter Tryz.func68, Tryz.ntmps68
    go_wp2_with fail
    refine Calls.mono HM.out ?_
    rintro e w2 ⟨rfl, hb⟩
    have HB := (show Hid (Below w.heap.size w w2) from HB1.out.trans (hb.mono HB1.out.size))
    clear hb
    go_wp2_with fail
    go_ret
    exact ⟨rfl, HB.out⟩
  | true =>
    rw [hmv] at HM
    clear hmv
    go_enter Tryz.func68, Tryz.ntmps68
    go_wp2_with fail
    refine Calls.mono HM.out ?_
    rintro e w2 ⟨rfl, hb⟩
    have HB := (show Hid (Below w.heap.size w w2) from HB1.out.trans (hb.mono HB1.out.size))
    clear hb
    go_wp2_with fail
    go_ret
    exact ⟨rfl, HB.out⟩

theorem execOp_ldVi15 (ρ : Operand → Value) (ty : TypeId) (pos : String) (af : Array Edge) (g : Option (Nat × Bool)) :
    execOp ρ { dst := some 15, op := .load 34 (.tmp 14), type := ty, pos := pos, after := af, guard := g } = ldV (ρ (.tmp 14)) := rfl
attribute [local go_sem ↓] execOp_ldVi15 in
set_option maxHeartbeats 2000000 in
set_option maxRecDepth 8000 in
theorem containsVal_W {w : World} {F : Nat → Prop} (l : List Val) (s : Value) (hS : SlAt w F s l) (hmax : (l.length : Int) ≤ 1099511627776) : Calls Tryz.prog 67 #[s, .func (.func 68) #[] #[]] w fun e w' => e = .returned (.bool (!l.all mayV)) ∧ Below w.heap.size w w' := by
  obtain ⟨pa, c, rfl⟩ := hS.form
  have HS := (show Hid (SlAt w F (.slice pa l.length c) l) from hS)
  have Hmax := (show Hid ((l.length : Int) ≤ 1099511627776) from hmax)
  clear hS hmax
  have hi : Calls Tryz.prog 90 #[.slice pa l.length c, .func (.func 68) #[] #[]] w fun e w' => (∃ i : Int, e = .returned (.int .i64 i) ∧ (decide (i ≥ 0) = !l.all mayV)) ∧ Below w.heap.size w w' := by
    go_enter Tryz.func90, Tryz.ntmps90
    go_wp2_with fail
    go_loopw [8] (fun vi wr => ∃ k : Nat, vi = .int .i64 k ∧ k ≤ l.length ∧ Hid (Below w.heap.size w wr ∧ ∀ x ∈ l.take k, mayV x = true)) (fun vi _ => l.length - (intOf vi).toNat)
    case atStart => exact ⟨0, rfl, Nat.zero_le _, Below.refl _ _, fun x hx => by simp at hx⟩
    case round =>
      obtain ⟨k, rfl, hk, HI⟩ := hrel
      by_cases hkl : k < l.length
      · have hkz : (k : Int) < (l.length : Int) := by omega
        obtain ⟨x, hx⟩ : ∃ x, l[k]? = some x := ⟨_, List.getElem?_eq_getElem hkl⟩
        obtain ⟨b, o, c', raw, hpe, hrg, -, -, hSx⟩ := (HS.out.on HI.out.1).range hx
        cases hpe
        obtain ⟨xk, xn, xs, xl, xr⟩ := x
        obtain ⟨pa2, c2, rfl⟩ := hSx.form
        have hld0 := loadV_mid hrg rfl
        have hld : (ldV (.pointer (some ⟨b, o + k * 5, none⟩))).run Tryz.prog wr = .ok (.value (.agg #[.int .u8 xk, .int .i64 xn, .string xs, .slice pa2 xl.length c2, .int .i64 xr])) wr := hld0
        have HC := (show Hid _ from vall1_W ⟨xk, xn, xs, xl, xr⟩ (.slice pa2 xl.length c2) hSx)
        have Htk : Hid (l.take (k + 1) = l.take k ++ [⟨xk, xn, xs, xl, xr⟩]) := by show _ = _; rw [List.take_add_one, hx]; rfl
        have Hmem : Hid ((⟨xk, xn, xs, xl, xr⟩ : Val) ∈ l) := List.mem_of_getElem? hx
        have hwk : wrap64 ((k : Int) + 1) = (k : Int) + 1 := by have := Hmax.out; unfold wrap64; omega
        clear hld0 hx hrg hSx
        cases hmv : mayV ⟨xk, xn, xs, xl, xr⟩ with
        | true =>
          have Hmv := (show Hid (mayV ⟨xk, xn, xs, xl, xr⟩ = true) from hmv)
          rw [hmv] at HC
          clear hmv
          go_wp2_with fail
          refine Calls.mono HC.out ?_
          rintro e w2 ⟨rfl, hb⟩
          have HI' : Hid (Below w.heap.size w w2 ∧ ∀ x ∈ l.take (k + 1), mayV x = true) := by
            refine ⟨HI.out.1.trans (hb.mono HI.out.1.size), fun x hx => ?_⟩
            rw [Htk.out] at hx
            rcases List.mem_append.1 hx with hx | hx
            · exact HI.out.2 x hx
            · simp at hx
              subst hx
              exact Hmv.out
          clear hb HC hld
          go_wp2_with fail
          go_roundw
          case rel => exact ⟨k + 1, by go_num, by omega, HI'⟩
          case measure => rw [hwk]; simp [intOf]; omega
        | false =>
          have Hmv := (show Hid (mayV ⟨xk, xn, xs, xl, xr⟩ = false) from hmv)
          rw [hmv] at HC
          clear hmv
          go_wp2_with fail
          refine Calls.mono HC.out ?_
          rintro e w2 ⟨rfl, hb⟩
          have HB := (show Hid (Below w.heap.size w w2) from HI.out.1.trans (hb.mono HI.out.1.size))
          clear hb HC hld
          go_wp2_with fail
          go_ret
          refine ⟨⟨_, rfl, ?_⟩, HB.out⟩
          have h1 : l.all mayV = false := by
            rw [List.all_eq_false]
            exact ⟨_, Hmem.out, by simp [Hmv.out]⟩
          rw [h1]
          simp
      · have hkz : ¬ (k : Int) < (l.length : Int) := by omega
        obtain rfl : k = l.length := by omega
        go_wp2_with fail
        go_ret
        refine ⟨⟨-1, rfl, ?_⟩, HI.out.1⟩
        have h1 : l.all mayV = true := by
          rw [List.all_eq_true]
          have := HI.out.2
          rwa [List.take_length] at this
        rw [h1]
        rfl
  have HI := (show Hid _ from hi)
  clear hi
  go_enter Tryz.func67, Tryz.ntmps67
  go_wp2_with fail
  refine Calls.mono HI.out ?_
  rintro e w2 ⟨⟨i, rfl, hi⟩, hb⟩
  by_cases h0 : i ≥ 0
  · rw [decide_eq_true h0] at hi
    have Hi := (show Hid _ from hi)
    have HB := (show Hid _ from hb)
    clear hi hb
    go_wp2_with fail
    go_ret
    exact ⟨by rw [← Hi.out]; rfl, HB.out⟩
  · rw [decide_eq_false h0] at hi
    have Hi := (show Hid _ from hi)
    have HB := (show Hid _ from hb)
    clear hi hb
    go_wp2_with fail
    go_ret
    exact ⟨by rw [← Hi.out]; show Ending.returned (.bool (decide (0 ≤ i))) = _; rw [decide_eq_false (by omega)], HB.out⟩
set_option maxRecDepth 8000 in
theorem vall_G {w : World} {F : Nat → Prop} (l : List Val) (s : Value) (hS : SlAt w F s l) (hmax : (l.length : Int) ≤ 1099511627776) : Calls Tryz.prog 43 #[s] w fun e w' => e = .returned (.bool (l.all mayV)) ∧ Below w.heap.size w w' := by
  have HC := (show Hid _ from containsVal_W l s hS hmax)
  obtain ⟨pa, c, rfl⟩ := hS.form
  clear hS hmax
  cases hb : l.all mayV with
  | true =>
    rw [hb] at HC
    clear hb
    go_enter Tryz.func43, Tryz.ntmps43
    go_wp2_with fail
    refine Calls.mono HC.out ?_
    rintro e w2 ⟨rfl, hb⟩
    go_wp2_with fail
    go_ret
    exact ⟨rfl, hb⟩
  | false =>
    rw [hb] at HC
    clear hb
    go_enter Tryz.func43, Tryz.ntmps43
    go_wp2_with fail
    refine Calls.mono HC.out ?_
    rintro e w2 ⟨rfl, hb⟩
    go_wp2_with fail
    go_ret
    exact ⟨rfl, hb⟩

/-- What Of answers. -/
def OfPost (w : World) (l : List Val) (e : Ending) (w' : World) : Prop :=
  Below w.heap.size w w' ∧ ((ofE l = 0 ∧ ∃ raw', e = .returned (.tuple #[.agg (vcs (listV l) raw'), .int .i64 0]) ∧ SlT w' (fun b => w.heap.size ≤ b) raw' l) ∨ (ofE l ≠ 0 ∧ e = .returned (.tuple #[.agg zV, .int .i64 (ofE l)])))
theorem execOp_stVo16 (ρ : Operand → Value) (ty : TypeId) (pos : String) (af : Array Edge) (g : Option (Nat × Bool)) :
    execOp ρ { dst := none, op := .store 34 (.tmp 2) (.tmp 16), type := ty, pos := pos, after := af, guard := g } = stV (ρ (.tmp 2)) (ρ (.tmp 16)) := rfl
theorem execOp_stVo8 (ρ : Operand → Value) (ty : TypeId) (pos : String) (af : Array Edge) (g : Option (Nat × Bool)) :
    execOp ρ { dst := none, op := .store 34 (.tmp 2) (.tmp 8), type := ty, pos := pos, after := af, guard := g } = stV (ρ (.tmp 2)) (ρ (.tmp 8)) := rfl
theorem execOp_stVo14 (ρ : Operand → Value) (ty : TypeId) (pos : String) (af : Array Edge) (g : Option (Nat × Bool)) :
    execOp ρ { dst := none, op := .store 34 (.tmp 2) (.tmp 14), type := ty, pos := pos, after := af, guard := g } = stV (ρ (.tmp 2)) (ρ (.tmp 14)) := rfl
theorem results_Of (w : World) (b : Nat) (v : Value) (n : Int) (ts : Array Value) {x0 x1 x2 x3 x4 : Value} (h : w.heap[b]? = some (.cells #[x0, x1, x2, x3, x4] 34 (0, 0))) (h2 : ts[2]? = some (.pointer (some ⟨b, 0, none⟩))) (h3 : ts[3]? = some (.int .i64 n)) (hv : v = .agg #[x0, x1, x2, x3, x4]) :
    (results Tryz.f21 ts).run Tryz.prog w = .ok (.tuple #[v, .int .i64 n]) w := by
  obtain ⟨⟨c0, c1, c2, c3, c4⟩, -⟩ := cells5 h
  simp [results, Tryz.results21, go_sem, c0, c1, c2, c3, c4, h2, h3, hv]
attribute [local go_sem ↓] execOp_stVo16 execOp_stVo8 execOp_stVo14 in
set_option maxHeartbeats 2000000 in
set_option maxRecDepth 8000 in
theorem Of_G {w : World} {F : Nat → Prop} (l : List Val) (s : Value) (hS : SlAt w F s l) (hmax : (l.length : Int) ≤ 1099511627776) : Calls Tryz.prog 21 #[s] w (OfPost w l) := by
  obtain ⟨pa, c, rfl⟩ := hS.form
  have HS := (show Hid (SlAt w F (.slice pa l.length c) l) from hS)
  have hb1 : Below w.heap.size w (w.alloc (.cells zV 34)) := (Below.refl _ _).alloc (Nat.le_refl _) _
  have HA := (show Hid _ from vall_G l _ (hS.on hb1) hmax)
  have HB1 := (show Hid (Below w.heap.size w (w.alloc (.cells zV 34)) ∧ (w.alloc (.cells zV 34)).heap[w.heap.size]? = some (.cells zV 34 (0, 0))) from ⟨hb1, blk_new _ _⟩)
  clear hS hb1 hmax
  simp only [zV] at HA HB1
  cases ha : l.all mayV with
  | false =>
    rw [ha] at HA
    have HE : Hid (ofE l = 2) := by show _ = _; unfold ofE; rw [ha]; rfl
    clear ha
    go_enter Tryz.func21, Tryz.ntmps21
    go_wp2_with fail
    refine Calls.mono HA.out ?_
    rintro e w2 ⟨rfl, hb⟩
    have hg := below_blk hb HB1.out.2
    have HB := (show Hid (Below w.heap.size w w2) from HB1.out.1.trans (hb.mono HB1.out.1.size))
    have hst := storeV_blk (c' := #[.int .u8 0, .int .i64 0, .string ⟨#[]⟩, .slice none 0 0, .int .i64 0]) hg rfl rfl (by simp [go_sem])
    have Hg := (show Hid _ from heap_setRow_at (c' := #[.int .u8 0, .int .i64 0, .string ⟨#[]⟩, .slice none 0 0, .int .i64 0]) hg)
    clear hb hg
    go_wp2_with fail
    refine bodyPost_ret (results_Of _ _ _ _ _ Hg.out rfl rfl rfl) rfl ⟨Below.setRow HB.out (Nat.le_refl _) _, .inr ⟨by rw [HE.out]; decide, by rw [HE.out]; rfl⟩⟩
  | true =>
    have Ha := (show Hid (l.all mayV = true) from ha)
    rw [ha] at HA
    clear ha
    go_enter Tryz.func21, Tryz.ntmps21
    go_wp2_with fail
    refine Calls.mono HA.out ?_
    rintro e w2 ⟨rfl, hb⟩
    have hg := below_blk hb HB1.out.2
    have HB := (show Hid (Below w.heap.size w w2) from HB1.out.1.trans (hb.mono HB1.out.1.size))
    have Hg := (show Hid _ from hg)
    clear hb hg HB1
    go_wp2_with fail
    have hb3 : Below w2.heap.size w2 (w2.alloc (.cells #[.int .u8 3, .int .i64 0, .string ⟨#[]⟩, .slice pa l.length c, .int .i64 0] 34)) := (Below.refl _ _).alloc (Nat.le_refl _) _
    have hg3 := blk_new w2 (.cells #[.int .u8 3, .int .i64 0, .string ⟨#[]⟩, .slice pa l.length c, .int .i64 0] 34)
    have hm := vMay_G (v := listV l) (raw := .slice pa l.length c) ((HS.out.on HB.out).on hb3)
    have HG := (show Hid _ from below_blk hb3 Hg.out)
    have HB3 := (show Hid _ from HB.out.trans (hb3.mono HB.out.size))
    have HG3 := (show Hid _ from hg3)
    cases hmv : mayV (listV l) with
    | false =>
      rw [hmv] at hm
      have HE : Hid (ofE l = 4) := by show _ = _; unfold ofE; rw [Ha.out, hmv]; rfl
      clear hmv hb3 hg3 Hg
      refine hm.mono ?_
      rintro e w4 ⟨rfl, hb⟩
      have hg := below_blk hb HG.out
      have HB4 := (show Hid (Below w.heap.size w w4) from HB3.out.trans (hb.mono HB3.out.size))
      have hst := storeV_blk (c' := #[.int .u8 0, .int .i64 0, .string ⟨#[]⟩, .slice none 0 0, .int .i64 0]) hg rfl rfl (by simp [go_sem])
      have Hg := (show Hid _ from heap_setRow_at (c' := #[.int .u8 0, .int .i64 0, .string ⟨#[]⟩, .slice none 0 0, .int .i64 0]) hg)
      clear hb hg hm HG HB3 HG3
      go_wp2_with fail
      refine bodyPost_ret (results_Of _ _ _ _ _ Hg.out rfl rfl rfl) rfl ⟨Below.setRow HB4.out (Nat.le_refl _) _, .inr ⟨by rw [HE.out]; decide, by rw [HE.out]; rfl⟩⟩
    | true =>
      rw [hmv] at hm
      have HE : Hid (ofE l = 0 ∧ mayV (listV l) = true) := by
        refine ⟨?_, hmv⟩
        unfold ofE
        rw [Ha.out, hmv]
        rfl
      clear hmv hb3 hg3 Hg
      refine hm.mono ?_
      rintro e w4 ⟨rfl, hb⟩
      have HB4 := (show Hid (Below w.heap.size w w4) from HB3.out.trans (hb.mono HB3.out.size))
      obtain ⟨⟨k0, k1, k2, k3, k4⟩, -⟩ := cells5 (below_blk hb HG3.out)
      have HG4 := (show Hid _ from below_blk hb HG.out)
      clear hb hm HG HB3 HG3
      go_wp2_with fail
      refine (own_W 16 (listV l) (.slice pa l.length c) w4 F (depV_may HE.out.2) (HS.out.on HB4.out)).mono ?_
      rintro e w5 ⟨raw', rfl, hb5, hs5, -⟩
      obtain ⟨pr, cr, hform⟩ := hs5.form
      obtain rfl : raw' = .slice pr l.length cr := hform
      have hg := below_blk hb5 HG4.out
      have hst : (stV (.pointer (some ⟨w.heap.size, 0, none⟩)) (.agg (vcs (listV l) (.slice pr l.length cr)))).run Tryz.prog w5 = _ := storeV_blk (c' := #[.int .u8 3, .int .i64 0, .string ⟨#[]⟩, .slice pr l.length cr, .int .i64 0]) hg rfl rfl (by simp [go_sem])
      have Hg := (show Hid _ from heap_setRow_at (c' := #[.int .u8 3, .int .i64 0, .string ⟨#[]⟩, .slice pr l.length cr, .int .i64 0]) hg)
      have HB5 := (show Hid (Below w.heap.size w w5) from HB4.out.trans (hb5.mono HB4.out.size))
      have hw4 : w.heap.size < w4.heap.size := blk_lt HG4.out
      have HS5 : Hid (SlT (w5.setRow w.heap.size #[.int .u8 3, .int .i64 0, .string ⟨#[]⟩, .slice pr l.length cr, .int .i64 0]) (fun b => w.heap.size ≤ b) (.slice pr l.length cr) l) := by
        refine SlT.of_blocks hs5 (Lists.of fun b hb => heap_setRow_other _ _ _ _ (by have : w4.heap.size ≤ b := hb; omega)) (fun b hb => by have : w4.heap.size ≤ b := hb; show w.heap.size ≤ b; omega)
      clear hg hb5 hs5 HG4 k0 k1 k2 k3 k4 hw4
      go_wp2_with fail
      refine bodyPost_ret (results_Of _ _ _ _ _ Hg.out rfl rfl rfl) rfl ⟨Below.setRow HB5.out (Nat.le_refl _) _, .inl ⟨HE.out.1, _, rfl, HS5.out⟩⟩
end Go.Proofs.YtcoiccbmcjdheaaGreat
/- bare: a What with just the fields that its kind names. One theorem a kind; printed by gen_bare.py. -/
namespace Go.Proofs.YtcoiccbmcjdheaaGreat
open Go.RowKit Go.ChangeMaps Go.MapKept

set_option maxRecDepth 8000 in
theorem bare_0 (w : World) (h vn vr n l tg bi vk s : Int) (vs : ByteArray) (fu : Bool) (a1 a2 a3 a4 : Option Addr) (n1 c1 n2 c2 n3 c3 n4 c4 : Nat) :
    Calls Tryz.prog 91 #[.agg #[.int .u8 0, .int .i64 h, .int .u8 vk, .int .i64 vn, .string vs, .slice a1 n1 c1, .int .i64 vr, .slice a2 n2 c2, .int .i64 n, .int .i64 l, .int .i64 tg, .int .i64 bi, .int .u8 s, .bool fu, .slice a3 n3 c3, .slice a4 n4 c4]] w fun e w' => e = .returned (.agg #[.int .u8 0, .int .i64 h, .int .u8 0, .int .i64 0, .string ⟨#[]⟩, .slice none 0 0, .int .i64 0, .slice none 0 0, .int .i64 0, .int .i64 0, .int .i64 0, .int .i64 0, .int .u8 0, .bool false, .slice none 0 0, .slice none 0 0]) ∧ Below w.heap.size w w' := by
  go_enter Tryz.func91, Tryz.ntmps91
  go_wp2
  refine bodyPost_ret (results_What rfl _ _ _ _ _ rfl (blk_at1 _ _ _ _ rfl) rfl) rfl ⟨rfl, by go_grown⟩

set_option maxRecDepth 8000 in
theorem bare_1 (w : World) (h vn vr n l tg bi vk s : Int) (vs : ByteArray) (fu : Bool) (a1 a2 a3 a4 : Option Addr) (n1 c1 n2 c2 n3 c3 n4 c4 : Nat) :
    Calls Tryz.prog 91 #[.agg #[.int .u8 1, .int .i64 h, .int .u8 vk, .int .i64 vn, .string vs, .slice a1 n1 c1, .int .i64 vr, .slice a2 n2 c2, .int .i64 n, .int .i64 l, .int .i64 tg, .int .i64 bi, .int .u8 s, .bool fu, .slice a3 n3 c3, .slice a4 n4 c4]] w fun e w' => e = .returned (.agg #[.int .u8 1, .int .i64 h, .int .u8 vk, .int .i64 vn, .string vs, .slice a1 n1 c1, .int .i64 vr, .slice none 0 0, .int .i64 0, .int .i64 0, .int .i64 0, .int .i64 0, .int .u8 0, .bool false, .slice none 0 0, .slice none 0 0]) ∧ Below w.heap.size w w' := by
  go_enter Tryz.func91, Tryz.ntmps91
  go_wp2
  refine bodyPost_ret (results_What rfl _ _ _ _ _ rfl (blk_at1 _ _ _ _ rfl) rfl) rfl ⟨rfl, by go_grown⟩

set_option maxRecDepth 8000 in
theorem bare_2 (w : World) (h vn vr n l tg bi vk s : Int) (vs : ByteArray) (fu : Bool) (a1 a2 a3 a4 : Option Addr) (n1 c1 n2 c2 n3 c3 n4 c4 : Nat) :
    Calls Tryz.prog 91 #[.agg #[.int .u8 2, .int .i64 h, .int .u8 vk, .int .i64 vn, .string vs, .slice a1 n1 c1, .int .i64 vr, .slice a2 n2 c2, .int .i64 n, .int .i64 l, .int .i64 tg, .int .i64 bi, .int .u8 s, .bool fu, .slice a3 n3 c3, .slice a4 n4 c4]] w fun e w' => e = .returned (.agg #[.int .u8 2, .int .i64 h, .int .u8 0, .int .i64 0, .string ⟨#[]⟩, .slice none 0 0, .int .i64 0, .slice a2 n2 c2, .int .i64 0, .int .i64 0, .int .i64 0, .int .i64 0, .int .u8 0, .bool false, .slice none 0 0, .slice none 0 0]) ∧ Below w.heap.size w w' := by
  go_enter Tryz.func91, Tryz.ntmps91
  go_wp2
  refine bodyPost_ret (results_What rfl _ _ _ _ _ rfl (blk_at1 _ _ _ _ rfl) rfl) rfl ⟨rfl, by go_grown⟩

set_option maxRecDepth 8000 in
theorem bare_3 (w : World) (h vn vr n l tg bi vk s : Int) (vs : ByteArray) (fu : Bool) (a1 a2 a3 a4 : Option Addr) (n1 c1 n2 c2 n3 c3 n4 c4 : Nat) :
    Calls Tryz.prog 91 #[.agg #[.int .u8 3, .int .i64 h, .int .u8 vk, .int .i64 vn, .string vs, .slice a1 n1 c1, .int .i64 vr, .slice a2 n2 c2, .int .i64 n, .int .i64 l, .int .i64 tg, .int .i64 bi, .int .u8 s, .bool fu, .slice a3 n3 c3, .slice a4 n4 c4]] w fun e w' => e = .returned (.agg #[.int .u8 3, .int .i64 h, .int .u8 0, .int .i64 0, .string ⟨#[]⟩, .slice none 0 0, .int .i64 0, .slice none 0 0, .int .i64 n, .int .i64 0, .int .i64 0, .int .i64 0, .int .u8 0, .bool false, .slice none 0 0, .slice none 0 0]) ∧ Below w.heap.size w w' := by
  go_enter Tryz.func91, Tryz.ntmps91
  go_wp2
  refine bodyPost_ret (results_What rfl _ _ _ _ _ rfl (blk_at1 _ _ _ _ rfl) rfl) rfl ⟨rfl, by go_grown⟩

set_option maxRecDepth 8000 in
theorem bare_4 (w : World) (h vn vr n l tg bi vk s : Int) (vs : ByteArray) (fu : Bool) (a1 a2 a3 a4 : Option Addr) (n1 c1 n2 c2 n3 c3 n4 c4 : Nat) :
    Calls Tryz.prog 91 #[.agg #[.int .u8 4, .int .i64 h, .int .u8 vk, .int .i64 vn, .string vs, .slice a1 n1 c1, .int .i64 vr, .slice a2 n2 c2, .int .i64 n, .int .i64 l, .int .i64 tg, .int .i64 bi, .int .u8 s, .bool fu, .slice a3 n3 c3, .slice a4 n4 c4]] w fun e w' => e = .returned (.agg #[.int .u8 4, .int .i64 h, .int .u8 0, .int .i64 0, .string ⟨#[]⟩, .slice none 0 0, .int .i64 0, .slice a2 n2 c2, .int .i64 0, .int .i64 0, .int .i64 0, .int .i64 0, .int .u8 0, .bool false, .slice none 0 0, .slice none 0 0]) ∧ Below w.heap.size w w' := by
  go_enter Tryz.func91, Tryz.ntmps91
  go_wp2
  refine bodyPost_ret (results_What rfl _ _ _ _ _ rfl (blk_at1 _ _ _ _ rfl) rfl) rfl ⟨rfl, by go_grown⟩

set_option maxRecDepth 8000 in
theorem bare_5 (w : World) (h vn vr n l tg bi vk s : Int) (vs : ByteArray) (fu : Bool) (a1 a2 a3 a4 : Option Addr) (n1 c1 n2 c2 n3 c3 n4 c4 : Nat) :
    Calls Tryz.prog 91 #[.agg #[.int .u8 5, .int .i64 h, .int .u8 vk, .int .i64 vn, .string vs, .slice a1 n1 c1, .int .i64 vr, .slice a2 n2 c2, .int .i64 n, .int .i64 l, .int .i64 tg, .int .i64 bi, .int .u8 s, .bool fu, .slice a3 n3 c3, .slice a4 n4 c4]] w fun e w' => e = .returned (.agg #[.int .u8 5, .int .i64 h, .int .u8 0, .int .i64 0, .string ⟨#[]⟩, .slice none 0 0, .int .i64 0, .slice none 0 0, .int .i64 0, .int .i64 0, .int .i64 0, .int .i64 0, .int .u8 0, .bool false, .slice none 0 0, .slice none 0 0]) ∧ Below w.heap.size w w' := by
  go_enter Tryz.func91, Tryz.ntmps91
  go_wp2
  refine bodyPost_ret (results_What rfl _ _ _ _ _ rfl (blk_at1 _ _ _ _ rfl) rfl) rfl ⟨rfl, by go_grown⟩

set_option maxRecDepth 8000 in
theorem bare_6 (w : World) (h vn vr n l tg bi vk s : Int) (vs : ByteArray) (fu : Bool) (a1 a2 a3 a4 : Option Addr) (n1 c1 n2 c2 n3 c3 n4 c4 : Nat) :
    Calls Tryz.prog 91 #[.agg #[.int .u8 6, .int .i64 h, .int .u8 vk, .int .i64 vn, .string vs, .slice a1 n1 c1, .int .i64 vr, .slice a2 n2 c2, .int .i64 n, .int .i64 l, .int .i64 tg, .int .i64 bi, .int .u8 s, .bool fu, .slice a3 n3 c3, .slice a4 n4 c4]] w fun e w' => e = .returned (.agg #[.int .u8 6, .int .i64 h, .int .u8 0, .int .i64 0, .string ⟨#[]⟩, .slice none 0 0, .int .i64 0, .slice none 0 0, .int .i64 0, .int .i64 0, .int .i64 tg, .int .i64 0, .int .u8 0, .bool false, .slice none 0 0, .slice none 0 0]) ∧ Below w.heap.size w w' := by
  go_enter Tryz.func91, Tryz.ntmps91
  go_wp2
  refine bodyPost_ret (results_What rfl _ _ _ _ _ rfl (blk_at1 _ _ _ _ rfl) rfl) rfl ⟨rfl, by go_grown⟩

set_option maxRecDepth 8000 in
theorem bare_7 (w : World) (h vn vr n l tg bi vk s : Int) (vs : ByteArray) (fu : Bool) (a1 a2 a3 a4 : Option Addr) (n1 c1 n2 c2 n3 c3 n4 c4 : Nat) :
    Calls Tryz.prog 91 #[.agg #[.int .u8 7, .int .i64 h, .int .u8 vk, .int .i64 vn, .string vs, .slice a1 n1 c1, .int .i64 vr, .slice a2 n2 c2, .int .i64 n, .int .i64 l, .int .i64 tg, .int .i64 bi, .int .u8 s, .bool fu, .slice a3 n3 c3, .slice a4 n4 c4]] w fun e w' => e = .returned (.agg #[.int .u8 7, .int .i64 h, .int .u8 vk, .int .i64 vn, .string vs, .slice a1 n1 c1, .int .i64 vr, .slice none 0 0, .int .i64 0, .int .i64 0, .int .i64 tg, .int .i64 0, .int .u8 0, .bool false, .slice none 0 0, .slice none 0 0]) ∧ Below w.heap.size w w' := by
  go_enter Tryz.func91, Tryz.ntmps91
  go_wp2
  go_region
  all_goals go_wp2
  all_goals refine bodyPost_ret (results_What rfl _ _ _ _ _ rfl (blk_at1d _ _ _ _ rfl) rfl) rfl ⟨rfl, by go_grown⟩

set_option maxRecDepth 8000 in
theorem bare_8 (w : World) (h vn vr n l tg bi vk s : Int) (vs : ByteArray) (fu : Bool) (a1 a2 a3 a4 : Option Addr) (n1 c1 n2 c2 n3 c3 n4 c4 : Nat) :
    Calls Tryz.prog 91 #[.agg #[.int .u8 8, .int .i64 h, .int .u8 vk, .int .i64 vn, .string vs, .slice a1 n1 c1, .int .i64 vr, .slice a2 n2 c2, .int .i64 n, .int .i64 l, .int .i64 tg, .int .i64 bi, .int .u8 s, .bool fu, .slice a3 n3 c3, .slice a4 n4 c4]] w fun e w' => e = .returned (.agg #[.int .u8 8, .int .i64 h, .int .u8 0, .int .i64 0, .string ⟨#[]⟩, .slice none 0 0, .int .i64 0, .slice none 0 0, .int .i64 n, .int .i64 l, .int .i64 0, .int .i64 0, .int .u8 0, .bool false, .slice none 0 0, .slice none 0 0]) ∧ Below w.heap.size w w' := by
  go_enter Tryz.func91, Tryz.ntmps91
  go_wp2
  go_region
  all_goals go_wp2
  all_goals refine bodyPost_ret (results_What rfl _ _ _ _ _ rfl (blk_at1d _ _ _ _ rfl) rfl) rfl ⟨rfl, by go_grown⟩

set_option maxRecDepth 8000 in
theorem bare_9 (w : World) (h vn vr n l tg bi vk s : Int) (vs : ByteArray) (fu : Bool) (a1 a2 a3 a4 : Option Addr) (n1 c1 n2 c2 n3 c3 n4 c4 : Nat) :
    Calls Tryz.prog 91 #[.agg #[.int .u8 9, .int .i64 h, .int .u8 vk, .int .i64 vn, .string vs, .slice a1 n1 c1, .int .i64 vr, .slice a2 n2 c2, .int .i64 n, .int .i64 l, .int .i64 tg, .int .i64 bi, .int .u8 s, .bool fu, .slice a3 n3 c3, .slice a4 n4 c4]] w fun e w' => e = .returned (.agg #[.int .u8 9, .int .i64 h, .int .u8 0, .int .i64 0, .string ⟨#[]⟩, .slice none 0 0, .int .i64 0, .slice none 0 0, .int .i64 n, .int .i64 0, .int .i64 tg, .int .i64 0, .int .u8 0, .bool false, .slice none 0 0, .slice none 0 0]) ∧ Below w.heap.size w w' := by
  go_enter Tryz.func91, Tryz.ntmps91
  go_wp2
  go_region
  all_goals go_wp2
  all_goals refine bodyPost_ret (results_What rfl _ _ _ _ _ rfl (blk_at1d _ _ _ _ rfl) rfl) rfl ⟨rfl, by go_grown⟩

set_option maxRecDepth 8000 in
theorem bare_10 (w : World) (h vn vr n l tg bi vk s : Int) (vs : ByteArray) (fu : Bool) (a1 a2 a3 a4 : Option Addr) (n1 c1 n2 c2 n3 c3 n4 c4 : Nat) :
    Calls Tryz.prog 91 #[.agg #[.int .u8 10, .int .i64 h, .int .u8 vk, .int .i64 vn, .string vs, .slice a1 n1 c1, .int .i64 vr, .slice a2 n2 c2, .int .i64 n, .int .i64 l, .int .i64 tg, .int .i64 bi, .int .u8 s, .bool fu, .slice a3 n3 c3, .slice a4 n4 c4]] w fun e w' => e = .returned (.agg #[.int .u8 10, .int .i64 h, .int .u8 vk, .int .i64 vn, .string vs, .slice a1 n1 c1, .int .i64 vr, .slice none 0 0, .int .i64 0, .int .i64 0, .int .i64 0, .int .i64 0, .int .u8 0, .bool fu, .slice none 0 0, .slice none 0 0]) ∧ Below w.heap.size w w' := by
  go_enter Tryz.func91, Tryz.ntmps91
  go_wp2
  go_region
  all_goals go_wp2
  all_goals refine bodyPost_ret (results_What rfl _ _ _ _ _ rfl (blk_at1d _ _ _ _ rfl) rfl) rfl ⟨rfl, by go_grown⟩

set_option maxRecDepth 8000 in
theorem bare_11 (w : World) (h vn vr n l tg bi vk s : Int) (vs : ByteArray) (fu : Bool) (a1 a2 a3 a4 : Option Addr) (n1 c1 n2 c2 n3 c3 n4 c4 : Nat) :
    Calls Tryz.prog 91 #[.agg #[.int .u8 11, .int .i64 h, .int .u8 vk, .int .i64 vn, .string vs, .slice a1 n1 c1, .int .i64 vr, .slice a2 n2 c2, .int .i64 n, .int .i64 l, .int .i64 tg, .int .i64 bi, .int .u8 s, .bool fu, .slice a3 n3 c3, .slice a4 n4 c4]] w fun e w' => e = .returned (.agg #[.int .u8 11, .int .i64 h, .int .u8 0, .int .i64 0, .string ⟨#[]⟩, .slice none 0 0, .int .i64 0, .slice none 0 0, .int .i64 0, .int .i64 0, .int .i64 tg, .int .i64 0, .int .u8 0, .bool false, .slice none 0 0, .slice none 0 0]) ∧ Below w.heap.size w w' := by
  go_enter Tryz.func91, Tryz.ntmps91
  go_wp2
  refine bodyPost_ret (results_What rfl _ _ _ _ _ rfl (blk_at1 _ _ _ _ rfl) rfl) rfl ⟨rfl, by go_grown⟩

set_option maxRecDepth 8000 in
theorem bare_12 (w : World) (h vn vr n l tg bi vk s : Int) (vs : ByteArray) (fu : Bool) (a1 a2 a3 a4 : Option Addr) (n1 c1 n2 c2 n3 c3 n4 c4 : Nat) :
    Calls Tryz.prog 91 #[.agg #[.int .u8 12, .int .i64 h, .int .u8 vk, .int .i64 vn, .string vs, .slice a1 n1 c1, .int .i64 vr, .slice a2 n2 c2, .int .i64 n, .int .i64 l, .int .i64 tg, .int .i64 bi, .int .u8 s, .bool fu, .slice a3 n3 c3, .slice a4 n4 c4]] w fun e w' => e = .returned (.agg #[.int .u8 12, .int .i64 h, .int .u8 0, .int .i64 0, .string ⟨#[]⟩, .slice none 0 0, .int .i64 0, .slice none 0 0, .int .i64 0, .int .i64 0, .int .i64 0, .int .i64 0, .int .u8 0, .bool false, .slice a3 n3 c3, .slice a4 n4 c4]) ∧ Below w.heap.size w w' := by
  go_enter Tryz.func91, Tryz.ntmps91
  go_wp2
  go_region
  all_goals go_wp2
  all_goals refine bodyPost_ret (results_What rfl _ _ _ _ _ rfl (blk_at1d _ _ _ _ rfl) rfl) rfl ⟨rfl, by go_grown⟩

set_option maxRecDepth 8000 in
theorem bare_13 (w : World) (h vn vr n l tg bi vk s : Int) (vs : ByteArray) (fu : Bool) (a1 a2 a3 a4 : Option Addr) (n1 c1 n2 c2 n3 c3 n4 c4 : Nat) :
    Calls Tryz.prog 91 #[.agg #[.int .u8 13, .int .i64 h, .int .u8 vk, .int .i64 vn, .string vs, .slice a1 n1 c1, .int .i64 vr, .slice a2 n2 c2, .int .i64 n, .int .i64 l, .int .i64 tg, .int .i64 bi, .int .u8 s, .bool fu, .slice a3 n3 c3, .slice a4 n4 c4]] w fun e w' => e = .returned (.agg #[.int .u8 13, .int .i64 h, .int .u8 0, .int .i64 0, .string ⟨#[]⟩, .slice none 0 0, .int .i64 0, .slice none 0 0, .int .i64 0, .int .i64 0, .int .i64 tg, .int .i64 0, .int .u8 0, .bool fu, .slice none 0 0, .slice none 0 0]) ∧ Below w.heap.size w w' := by
  go_enter Tryz.func91, Tryz.ntmps91
  go_wp2
  go_region
  all_goals go_wp2
  all_goals refine bodyPost_ret (results_What rfl _ _ _ _ _ rfl (blk_at1d _ _ _ _ rfl) rfl) rfl ⟨rfl, by go_grown⟩

set_option maxRecDepth 8000 in
theorem bare_14 (w : World) (h vn vr n l tg bi vk s : Int) (vs : ByteArray) (fu : Bool) (a1 a2 a3 a4 : Option Addr) (n1 c1 n2 c2 n3 c3 n4 c4 : Nat) :
    Calls Tryz.prog 91 #[.agg #[.int .u8 14, .int .i64 h, .int .u8 vk, .int .i64 vn, .string vs, .slice a1 n1 c1, .int .i64 vr, .slice a2 n2 c2, .int .i64 n, .int .i64 l, .int .i64 tg, .int .i64 bi, .int .u8 s, .bool fu, .slice a3 n3 c3, .slice a4 n4 c4]] w fun e w' => e = .returned (.agg #[.int .u8 14, .int .i64 0, .int .u8 0, .int .i64 0, .string ⟨#[]⟩, .slice none 0 0, .int .i64 0, .slice none 0 0, .int .i64 0, .int .i64 0, .int .i64 tg, .int .i64 0, .int .u8 s, .bool false, .slice none 0 0, .slice none 0 0]) ∧ Below w.heap.size w w' := by
  go_enter Tryz.func91, Tryz.ntmps91
  go_wp2
  refine bodyPost_ret (results_What rfl _ _ _ _ _ rfl (blk_at1 _ _ _ _ rfl) rfl) rfl ⟨rfl, by go_grown⟩

set_option maxRecDepth 8000 in
theorem bare_15 (w : World) (h vn vr n l tg bi vk s : Int) (vs : ByteArray) (fu : Bool) (a1 a2 a3 a4 : Option Addr) (n1 c1 n2 c2 n3 c3 n4 c4 : Nat) :
    Calls Tryz.prog 91 #[.agg #[.int .u8 15, .int .i64 h, .int .u8 vk, .int .i64 vn, .string vs, .slice a1 n1 c1, .int .i64 vr, .slice a2 n2 c2, .int .i64 n, .int .i64 l, .int .i64 tg, .int .i64 bi, .int .u8 s, .bool fu, .slice a3 n3 c3, .slice a4 n4 c4]] w fun e w' => e = .returned (.agg #[.int .u8 15, .int .i64 h, .int .u8 0, .int .i64 0, .string ⟨#[]⟩, .slice none 0 0, .int .i64 0, .slice none 0 0, .int .i64 0, .int .i64 0, .int .i64 tg, .int .i64 bi, .int .u8 0, .bool false, .slice none 0 0, .slice none 0 0]) ∧ Below w.heap.size w w' := by
  go_enter Tryz.func91, Tryz.ntmps91
  go_wp2
  go_region
  all_goals go_wp2
  all_goals refine bodyPost_ret (results_What rfl _ _ _ _ _ rfl (blk_at1d _ _ _ _ rfl) rfl) rfl ⟨rfl, by go_grown⟩

set_option maxRecDepth 8000 in
theorem bare_16 (w : World) (h vn vr n l tg bi vk s : Int) (vs : ByteArray) (fu : Bool) (a1 a2 a3 a4 : Option Addr) (n1 c1 n2 c2 n3 c3 n4 c4 : Nat) :
    Calls Tryz.prog 91 #[.agg #[.int .u8 16, .int .i64 h, .int .u8 vk, .int .i64 vn, .string vs, .slice a1 n1 c1, .int .i64 vr, .slice a2 n2 c2, .int .i64 n, .int .i64 l, .int .i64 tg, .int .i64 bi, .int .u8 s, .bool fu, .slice a3 n3 c3, .slice a4 n4 c4]] w fun e w' => e = .returned (.agg #[.int .u8 16, .int .i64 h, .int .u8 0, .int .i64 0, .string ⟨#[]⟩, .slice none 0 0, .int .i64 0, .slice none 0 0, .int .i64 0, .int .i64 0, .int .i64 tg, .int .i64 bi, .int .u8 0, .bool false, .slice none 0 0, .slice none 0 0]) ∧ Below w.heap.size w w' := by
  go_enter Tryz.func91, Tryz.ntmps91
  go_wp2
  go_region
  all_goals go_wp2
  all_goals refine bodyPost_ret (results_What rfl _ _ _ _ _ rfl (blk_at1d _ _ _ _ rfl) rfl) rfl ⟨rfl, by go_grown⟩

end Go.Proofs.YtcoiccbmcjdheaaGreat
