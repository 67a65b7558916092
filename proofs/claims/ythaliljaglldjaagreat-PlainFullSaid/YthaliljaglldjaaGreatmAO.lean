/- A part of the proof, several texts in one: VOf, R7G, R7M. -/
import Derived.Test.YthaliljaglldjaaGreatmAE
import Derived.Test.YthaliljaglldjaaGreatmAL
import Derived.Test.YthaliljaglldjaaGreatmAN
import Derived.Test.YthaliljaglldjaaGreatmAB
import Derived.Deep.QuietTactic
import Derived.BigQuiet
import Derived.Deep.DeepCutAuto
import Derived.Test.YthaliljaglldjaaGreatmAM
/- value.Of of any values. -/
namespace Go.Proofs.YthaliljaglldjaaGreat
open Go.RowKit Go.ChangeMaps Go.MapKept
def listV (l : List Val) : Val := ⟨3, 0, ⟨#[]⟩, l, 0⟩
def ofE (l : List Val) : Int := if l.all mayV then (if mayV (listV l) then 0 else 4) else 2
set_option maxRecDepth 8000 in
theorem vall1_W {w : World} {F : Nat → Prop} (v : Val) (raw : Value) (hS : SlAt w F raw v.l) : Calls Tryz.prog 261 #[.agg (vcs v raw)] w fun e w' => e = .returned (.bool (!mayV v)) ∧ Below w.heap.size w w' := by
  obtain ⟨pa, c, rfl⟩ := hS.form
  obtain ⟨kind, nn, s, l, r⟩ := v
  have hb1 : Below w.heap.size w (w.alloc (.cells #[.int .u8 kind, .int .i64 nn, .string s, .slice pa l.length c, .int .i64 r] 27)) := (Below.refl _ _).alloc (Nat.le_refl _) _
  have hm := vMay_G (v := ⟨kind, nn, s, l, r⟩) (raw := .slice pa l.length c) (hS.on hb1)
  have HM := (show Hid _ from hm)
  have HB1 := (show Hid _ from hb1)
  clear hm hS hb1
  simp only [vcs]
  cases hmv : mayV ⟨kind, nn, s, l, r⟩ with
  | false =>
    rw [hmv] at HM
    clear hmv
    go_enter Tryz.func261, Tryz.ntmps261
    go_wp2_with fail
    refine Calls.mono HM.out ?_
    rintro e w2 ⟨rfl, hb⟩
    have HB := (show Hid (Below w.heap.size w w2) from HB1.out.trans (hb.mono HB1.out.size))
    clear hb
    go_wp2_with fail
    go_ret
    exact ⟨rfl, HB.out⟩
  | true =>
    rw [hmv] at HM
    clear hmv
    go_enter Tryz.func261, Tryz.ntmps261
    go_wp2_with fail
    refine Calls.mono HM.out ?_
    rintro e w2 ⟨rfl, hb⟩
    have HB := (show Hid (Below w.heap.size w w2) from HB1.out.trans (hb.mono HB1.out.size))
    clear hb
    go_wp2_with fail
    go_ret
    exact ⟨rfl, HB.out⟩
theorem execOp_ldVi15 (ρ : Operand → Value) (ty : TypeId) (pos : String) (af : Array Edge) (g : Option (Nat × Bool)) :
    execOp ρ { dst := some 15, op := .load 27 (.tmp 14), type := ty, pos := pos, after := af, guard := g } = ldV (ρ (.tmp 14)) := rfl
attribute [local go_sem ↓] execOp_ldVi15 in
set_option maxHeartbeats 2000000 in
set_option maxRecDepth 8000 in
theorem containsVal_W {w : World} {F : Nat → Prop} (l : List Val) (s : Value) (hS : SlAt w F s l) (hmax : (l.length : Int) ≤ 1099511627776) : Calls Tryz.prog 260 #[s, .func (.func 261) #[] #[]] w fun e w' => e = .returned (.bool (!l.all mayV)) ∧ Below w.heap.size w w' := by
  obtain ⟨pa, c, rfl⟩ := hS.form
  have HS := (show Hid (SlAt w F (.slice pa l.length c) l) from hS)
  have Hmax := (show Hid ((l.length : Int) ≤ 1099511627776) from hmax)
  clear hS hmax
  have hi : Calls Tryz.prog 291 #[.slice pa l.length c, .func (.func 261) #[] #[]] w fun e w' => (∃ i : Int, e = .returned (.int .i64 i) ∧ (decide (i ≥ 0) = !l.all mayV)) ∧ Below w.heap.size w w' := by
    go_enter Tryz.func291, Tryz.ntmps291
    go_wp2_with fail
    go_loopw [8] (fun vi wr => ∃ k : Nat, vi = .int .i64 k ∧ k ≤ l.length ∧ Hid (Below w.heap.size w wr ∧ ∀ x ∈ l.take k, mayV x = true)) (fun vi _ => l.length - (intOf vi).toNat)
    case atStart => exact ⟨0, rfl, Nat.zero_le _, Below.refl _ _, fun x hx => by simp at hx⟩
    case round =>
      obtain ⟨k, rfl, hk, HI⟩ := hrel
      by_cases hkl : k < l.length
      · have hkz : (k : Int) < (l.length : Int) := by omega
        obtain ⟨x, hx⟩ : ∃ x, l[k]? = some x := ⟨_, List.getElem?_eq_getElem hkl⟩
        obtain ⟨b, o, c', raw, hpe, hrg, -, -, hSx⟩ := (HS.out.on HI.out.1).range hx
        cases hpe
        obtain ⟨xk, xn, xs, xl, xr⟩ := x
        obtain ⟨pa2, c2, rfl⟩ := hSx.form
        have hld0 := loadV_mid hrg rfl
        have hld : (ldV (.pointer (some ⟨b, o + k * 5, none⟩))).run Tryz.prog wr = .ok (.value (.agg #[.int .u8 xk, .int .i64 xn, .string xs, .slice pa2 xl.length c2, .int .i64 xr])) wr := hld0
        have HC := (show Hid _ from vall1_W ⟨xk, xn, xs, xl, xr⟩ (.slice pa2 xl.length c2) hSx)
        have Htk : Hid (l.take (k + 1) = l.take k ++ [⟨xk, xn, xs, xl, xr⟩]) := by show _ = _; rw [List.take_add_one, hx]; rfl
        have Hmem : Hid ((⟨xk, xn, xs, xl, xr⟩ : Val) ∈ l) := List.mem_of_getElem? hx
        have hwk : wrap64 ((k : Int) + 1) = (k : Int) + 1 := by have := Hmax.out; unfold wrap64; omega
        clear hld0 hx hrg hSx
        cases hmv : mayV ⟨xk, xn, xs, xl, xr⟩ with
        | true =>
          have Hmv := (show Hid (mayV ⟨xk, xn, xs, xl, xr⟩ = true) from hmv)
          rw [hmv] at HC
          clear hmv
          go_wp2_with fail
          refine Calls.mono HC.out ?_
          rintro e w2 ⟨rfl, hb⟩
          have HI' : Hid (Below w.heap.size w w2 ∧ ∀ x ∈ l.take (k + 1), mayV x = true) := by
            refine ⟨HI.out.1.trans (hb.mono HI.out.1.size), fun x hx => ?_⟩
            rw [Htk.out] at hx
            rcases List.mem_append.1 hx with hx | hx
            · exact HI.out.2 x hx
            · simp at hx
              subst hx
              exact Hmv.out
          clear hb HC hld
          go_wp2_with fail
          go_roundw
          case rel => exact ⟨k + 1, by go_num, by omega, HI'⟩
          case measure => rw [hwk]; simp [intOf]; omega
        | false =>
          have Hmv := (show Hid (mayV ⟨xk, xn, xs, xl, xr⟩ = false) from hmv)
          rw [hmv] at HC
          clear hmv
          go_wp2_with fail
          refine Calls.mono HC.out ?_
          rintro e w2 ⟨rfl, hb⟩
          have HB := (show Hid (Below w.heap.size w w2) from HI.out.1.trans (hb.mono HI.out.1.size))
          clear hb HC hld
          go_wp2_with fail
          go_ret
          refine ⟨⟨_, rfl, ?_⟩, HB.out⟩
          have h1 : l.all mayV = false := by
            rw [List.all_eq_false]
            exact ⟨_, Hmem.out, by simp [Hmv.out]⟩
          rw [h1]
          simp
      · have hkz : ¬ (k : Int) < (l.length : Int) := by omega
        obtain rfl : k = l.length := by omega
        go_wp2_with fail
        go_ret
        refine ⟨⟨-1, rfl, ?_⟩, HI.out.1⟩
        have h1 : l.all mayV = true := by
          rw [List.all_eq_true]
          have := HI.out.2
          rwa [List.take_length] at this
        rw [h1]
        rfl
  have HI := (show Hid _ from hi)
  clear hi
  go_enter Tryz.func260, Tryz.ntmps260
  go_wp2_with fail
  refine Calls.mono HI.out ?_
  rintro e w2 ⟨⟨i, rfl, hi⟩, hb⟩
  by_cases h0 : i ≥ 0
  · rw [decide_eq_true h0] at hi
    have Hi := (show Hid _ from hi)
    have HB := (show Hid _ from hb)
    clear hi hb
    go_wp2_with fail
    go_ret
    exact ⟨by rw [← Hi.out]; rfl, HB.out⟩
  · rw [decide_eq_false h0] at hi
    have Hi := (show Hid _ from hi)
    have HB := (show Hid _ from hb)
    clear hi hb
    go_wp2_with fail
    go_ret
    exact ⟨by rw [← Hi.out]; show Ending.returned (.bool (decide (0 ≤ i))) = _; rw [decide_eq_false (by omega)], HB.out⟩
set_option maxRecDepth 8000 in
theorem vall_G {w : World} {F : Nat → Prop} (l : List Val) (s : Value) (hS : SlAt w F s l) (hmax : (l.length : Int) ≤ 1099511627776) : Calls Tryz.prog 227 #[s] w fun e w' => e = .returned (.bool (l.all mayV)) ∧ Below w.heap.size w w' := by
  have HC := (show Hid _ from containsVal_W l s hS hmax)
  obtain ⟨pa, c, rfl⟩ := hS.form
  clear hS hmax
  cases hb : l.all mayV with
  | true =>
    rw [hb] at HC
    clear hb
    go_enter Tryz.func227, Tryz.ntmps227
    go_wp2_with fail
    refine Calls.mono HC.out ?_
    rintro e w2 ⟨rfl, hb⟩
    go_wp2_with fail
    go_ret
    exact ⟨rfl, hb⟩
  | false =>
    rw [hb] at HC
    clear hb
    go_enter Tryz.func227, Tryz.ntmps227
    go_wp2_with fail
    refine Calls.mono HC.out ?_
    rintro e w2 ⟨rfl, hb⟩
    go_wp2_with fail
    go_ret
    exact ⟨rfl, hb⟩
def OfPost (w : World) (l : List Val) (e : Ending) (w' : World) : Prop :=
  Below w.heap.size w w' ∧ ((ofE l = 0 ∧ ∃ raw', e = .returned (.tuple #[.agg (vcs (listV l) raw'), .int .i64 0]) ∧ SlT w' (fun b => w.heap.size ≤ b) raw' l) ∨ (ofE l ≠ 0 ∧ e = .returned (.tuple #[.agg zV, .int .i64 (ofE l)])))
theorem execOp_stVo16 (ρ : Operand → Value) (ty : TypeId) (pos : String) (af : Array Edge) (g : Option (Nat × Bool)) :
    execOp ρ { dst := none, op := .store 27 (.tmp 2) (.tmp 16), type := ty, pos := pos, after := af, guard := g } = stV (ρ (.tmp 2)) (ρ (.tmp 16)) := rfl
theorem execOp_stVo8 (ρ : Operand → Value) (ty : TypeId) (pos : String) (af : Array Edge) (g : Option (Nat × Bool)) :
    execOp ρ { dst := none, op := .store 27 (.tmp 2) (.tmp 8), type := ty, pos := pos, after := af, guard := g } = stV (ρ (.tmp 2)) (ρ (.tmp 8)) := rfl
theorem execOp_stVo14 (ρ : Operand → Value) (ty : TypeId) (pos : String) (af : Array Edge) (g : Option (Nat × Bool)) :
    execOp ρ { dst := none, op := .store 27 (.tmp 2) (.tmp 14), type := ty, pos := pos, after := af, guard := g } = stV (ρ (.tmp 2)) (ρ (.tmp 14)) := rfl
theorem results_Of (w : World) (b : Nat) (v : Value) (n : Int) (ts : Array Value) {x0 x1 x2 x3 x4 : Value} (h : w.heap[b]? = some (.cells #[x0, x1, x2, x3, x4] 27 (0, 0))) (h2 : ts[2]? = some (.pointer (some ⟨b, 0, none⟩))) (h3 : ts[3]? = some (.int .i64 n)) (hv : v = .agg #[x0, x1, x2, x3, x4]) :
    (results Tryz.f162 ts).run Tryz.prog w = .ok (.tuple #[v, .int .i64 n]) w := by
  obtain ⟨⟨c0, c1, c2, c3, c4⟩, -⟩ := cells5 h
  simp [results, Tryz.results162, go_sem, c0, c1, c2, c3, c4, h2, h3, hv]
attribute [local go_sem ↓] execOp_stVo16 execOp_stVo8 execOp_stVo14 in
set_option maxHeartbeats 2000000 in
set_option maxRecDepth 8000 in
theorem Of_G {w : World} {F : Nat → Prop} (l : List Val) (s : Value) (hS : SlAt w F s l) (hmax : (l.length : Int) ≤ 1099511627776) : Calls Tryz.prog 162 #[s] w (OfPost w l) := by
  obtain ⟨pa, c, rfl⟩ := hS.form
  have HS := (show Hid (SlAt w F (.slice pa l.length c) l) from hS)
  have hb1 : Below w.heap.size w (w.alloc (.cells zV 27)) := (Below.refl _ _).alloc (Nat.le_refl _) _
  have HA := (show Hid _ from vall_G l _ (hS.on hb1) hmax)
  have HB1 := (show Hid (Below w.heap.size w (w.alloc (.cells zV 27)) ∧ (w.alloc (.cells zV 27)).heap[w.heap.size]? = some (.cells zV 27 (0, 0))) from ⟨hb1, blk_new _ _⟩)
  clear hS hb1 hmax
  simp only [zV] at HA HB1
  cases ha : l.all mayV with
  | false =>
    rw [ha] at HA
    have HE : Hid (ofE l = 2) := by show _ = _; unfold ofE; rw [ha]; rfl
    clear ha
    go_enter Tryz.func162, Tryz.ntmps162
    go_wp2_with fail
    refine Calls.mono HA.out ?_
    rintro e w2 ⟨rfl, hb⟩
    have hg := below_blk hb HB1.out.2
    have HB := (show Hid (Below w.heap.size w w2) from HB1.out.1.trans (hb.mono HB1.out.1.size))
    have hst := storeV_blk (c' := #[.int .u8 0, .int .i64 0, .string ⟨#[]⟩, .slice none 0 0, .int .i64 0]) hg rfl rfl (by simp [go_sem])
    have Hg := (show Hid _ from heap_setRow_at (c' := #[.int .u8 0, .int .i64 0, .string ⟨#[]⟩, .slice none 0 0, .int .i64 0]) hg)
    clear hb hg
    go_wp2_with fail
    refine bodyPost_ret (results_Of _ _ _ _ _ Hg.out rfl rfl rfl) rfl ⟨Below.setRow HB.out (Nat.le_refl _) _, .inr ⟨by rw [HE.out]; decide, by rw [HE.out]; rfl⟩⟩
  | true =>
    have Ha := (show Hid (l.all mayV = true) from ha)
    rw [ha] at HA
    clear ha
    go_enter Tryz.func162, Tryz.ntmps162
    go_wp2_with fail
    refine Calls.mono HA.out ?_
    rintro e w2 ⟨rfl, hb⟩
    have hg := below_blk hb HB1.out.2
    have HB := (show Hid (Below w.heap.size w w2) from HB1.out.1.trans (hb.mono HB1.out.1.size))
    have Hg := (show Hid _ from hg)
    clear hb hg HB1
    go_wp2_with fail
    have hb3 : Below w2.heap.size w2 (w2.alloc (.cells #[.int .u8 3, .int .i64 0, .string ⟨#[]⟩, .slice pa l.length c, .int .i64 0] 27)) := (Below.refl _ _).alloc (Nat.le_refl _) _
    have hg3 := blk_new w2 (.cells #[.int .u8 3, .int .i64 0, .string ⟨#[]⟩, .slice pa l.length c, .int .i64 0] 27)
    have hm := vMay_G (v := listV l) (raw := .slice pa l.length c) ((HS.out.on HB.out).on hb3)
    have HG := (show Hid _ from below_blk hb3 Hg.out)
    have HB3 := (show Hid _ from HB.out.trans (hb3.mono HB.out.size))
    have HG3 := (show Hid _ from hg3)
    cases hmv : mayV (listV l) with
    | false =>
      rw [hmv] at hm
      have HE : Hid (ofE l = 4) := by show _ = _; unfold ofE; rw [Ha.out, hmv]; rfl
      clear hmv hb3 hg3 Hg
      refine hm.mono ?_
      rintro e w4 ⟨rfl, hb⟩
      have hg := below_blk hb HG.out
      have HB4 := (show Hid (Below w.heap.size w w4) from HB3.out.trans (hb.mono HB3.out.size))
      have hst := storeV_blk (c' := #[.int .u8 0, .int .i64 0, .string ⟨#[]⟩, .slice none 0 0, .int .i64 0]) hg rfl rfl (by simp [go_sem])
      have Hg := (show Hid _ from heap_setRow_at (c' := #[.int .u8 0, .int .i64 0, .string ⟨#[]⟩, .slice none 0 0, .int .i64 0]) hg)
      clear hb hg hm HG HB3 HG3
      go_wp2_with fail
      refine bodyPost_ret (results_Of _ _ _ _ _ Hg.out rfl rfl rfl) rfl ⟨Below.setRow HB4.out (Nat.le_refl _) _, .inr ⟨by rw [HE.out]; decide, by rw [HE.out]; rfl⟩⟩
    | true =>
      rw [hmv] at hm
      have HE : Hid (ofE l = 0 ∧ mayV (listV l) = true) := by
        refine ⟨?_, hmv⟩
        unfold ofE
        rw [Ha.out, hmv]
        rfl
      clear hmv hb3 hg3 Hg
      refine hm.mono ?_
      rintro e w4 ⟨rfl, hb⟩
      have HB4 := (show Hid (Below w.heap.size w w4) from HB3.out.trans (hb.mono HB3.out.size))
      obtain ⟨⟨k0, k1, k2, k3, k4⟩, -⟩ := cells5 (below_blk hb HG3.out)
      have HG4 := (show Hid _ from below_blk hb HG.out)
      clear hb hm HG HB3 HG3
      go_wp2_with fail
      refine (own_W 16 (listV l) (.slice pa l.length c) w4 F (depV_may HE.out.2) (HS.out.on HB4.out)).mono ?_
      rintro e w5 ⟨raw', rfl, hb5, hs5, -⟩
      obtain ⟨pr, cr, hform⟩ := hs5.form
      obtain rfl : raw' = .slice pr l.length cr := hform
      have hg := below_blk hb5 HG4.out
      have hst : (stV (.pointer (some ⟨w.heap.size, 0, none⟩)) (.agg (vcs (listV l) (.slice pr l.length cr)))).run Tryz.prog w5 = _ := storeV_blk (c' := #[.int .u8 3, .int .i64 0, .string ⟨#[]⟩, .slice pr l.length cr, .int .i64 0]) hg rfl rfl (by simp [go_sem])
      have Hg := (show Hid _ from heap_setRow_at (c' := #[.int .u8 3, .int .i64 0, .string ⟨#[]⟩, .slice pr l.length cr, .int .i64 0]) hg)
      have HB5 := (show Hid (Below w.heap.size w w5) from HB4.out.trans (hb5.mono HB4.out.size))
      have hw4 : w.heap.size < w4.heap.size := blk_lt HG4.out
      have HS5 : Hid (SlT (w5.setRow w.heap.size #[.int .u8 3, .int .i64 0, .string ⟨#[]⟩, .slice pr l.length cr, .int .i64 0]) (fun b => w.heap.size ≤ b) (.slice pr l.length cr) l) := by
        refine SlT.of_blocks hs5 (Lists.of fun b hb => heap_setRow_other _ _ _ _ (by have : w4.heap.size ≤ b := hb; omega)) (fun b hb => by have : w4.heap.size ≤ b := hb; show w.heap.size ≤ b; omega)
      clear hg hb5 hs5 HG4 k0 k1 k2 k3 k4 hw4
      go_wp2_with fail
      refine bodyPost_ret (results_Of _ _ _ _ _ Hg.out rfl rfl rfl) rfl ⟨Below.setRow HB5.out (Nat.le_refl _) _, .inl ⟨HE.out.1, _, rfl, HS5.out⟩⟩
end Go.Proofs.YthaliljaglldjaaGreat
/- posternref07.form at any thing without code and names. -/
namespace Go.Proofs.YthaliljaglldjaaGreat
open Go.RowKit Go.ChangeMaps Go.MapKept
theorem nil_wf : (⟨0, 0, ⟨#[]⟩, [], 0⟩ : Val).wf := .mk _ _ _ _ _ ⟨by decide, by decide⟩ (by simp [maxLen]) (fun x hx => by cases hx) ⟨rfl, rfl⟩
theorem may4_nil (w : World) : Calls Tryz.prog 174 #[.agg #[.int .u8 0, .int .i64 0, .string ⟨#[]⟩, .slice none 0 0, .int .i64 0]] w fun e w' => e = .returned (.bool true) ∧ Below w.heap.size w w' := by
  have h := may4_W (w := w) (F := fun _ => False) (v := ⟨0, 0, ⟨#[]⟩, [], 0⟩) (raw := .slice none 0 0) nil_wf (SlAt.nil _ _ _ _)
  rw [(by rfl : mayV ⟨0, 0, ⟨#[]⟩, [], 0⟩ = true)] at h
  exact h
theorem same4_nil (w : World) : Calls Tryz.prog 178 #[.agg #[.int .u8 0, .int .i64 0, .string ⟨#[]⟩, .slice none 0 0, .int .i64 0], .agg #[.int .u8 0, .int .i64 0, .string ⟨#[]⟩, .slice none 0 0, .int .i64 0]] w fun e w' => e = .returned (.bool true) ∧ Below w.heap.size w w' := by
  refine (same4_G ⟨0, 0, ⟨#[]⟩, [], 0⟩ nil_wf ⟨0, 0, ⟨#[]⟩, [], 0⟩ (.slice none 0 0) (.slice none 0 0) w (fun _ => False) (fun _ => False) (SlAt.nil _ _ _ _) (SlAt.nil _ _ _ _)).mono ?_
  rintro e w' ⟨B, rfl, hB, hb⟩
  rw [hB.2 rfl]
  exact ⟨rfl, hb⟩
set_option maxRecDepth 8000 in
theorem list7_W (w : World) (p : Option Addr) (n c : Nat) : Calls Tryz.prog 175 #[.slice p n c] w fun e w' => e = .returned (.agg #[.int .u8 3, .int .i64 0, .string ⟨#[]⟩, .slice p n c, .int .i64 0]) ∧ Below w.heap.size w w' := by
  go_enter Tryz.func175, Tryz.ntmps175
  go_wp2_with fail
  go_returns
  exact ⟨rfl, by go_grown⟩
theorem two_what (w : World) (A B : Array Value) : ∀ wx, wx = (w.alloc (.cells A 46)).alloc (.cells B 46) ∨ wx = ((w.alloc (.cells A 46)).alloc (.cells B 46)).drew → Below w.heap.size w wx ∧ wx.heap[w.heap.size]? = some (.cells A 46 (0, 0)) ∧ wx.heap[w.heap.size + 1]? = some (.cells B 46 (0, 0)) := by
  intro wx e
  have key := And.intro (((Below.refl _ w).alloc (Nat.le_refl _) (.cells A 46)).alloc (by simp) (.cells B 46)) (And.intro (blk2_old w (.cells A 46) (.cells B 46)) (blk2_new w (.cells A 46) (.cells B 46)))
  rcases e with e | e
  · subst e
    exact key
  · subst e
    exact ⟨key.1.trans (below_drew.mono key.1.size), key.2⟩
def f7 (t : Th) : Th where
  kind := t.kind
  home := if t.kind = 14 then 0 else t.home
  v := if t.kind = 1 ∨ t.kind = 7 ∨ t.kind = 10 then t.v else ⟨0, 0, ⟨#[]⟩, [], 0⟩
  vl := if t.kind = 1 ∨ t.kind = 7 ∨ t.kind = 10 then t.vl else .slice none 0 0
  vs := []
  vals := .slice none 0 0
  n := if t.kind = 3 ∨ t.kind = 8 ∨ t.kind = 9 then t.n else 0
  lost := if t.kind = 8 then t.lost else 0
  tgt := if t.kind = 6 ∨ t.kind = 7 ∨ t.kind = 9 ∨ t.kind = 11 ∨ 13 ≤ t.kind then t.tgt else 0
  bi := if 15 ≤ t.kind then t.bi else 0
  set := if t.kind = 14 then t.set else 0
  full := if t.kind = 10 ∨ t.kind = 13 then t.full else false
  code := .slice none 0 0
  names := .slice none 0 0
end Go.Proofs.YthaliljaglldjaaGreat
/- posternref07's Make at the kinds that nothing else turns by. -/
namespace Go.Proofs.YthaliljaglldjaaGreat
open Go.RowKit Go.ChangeMaps Go.MapKept
theorem ownsRow_int {w : World} {n : Nat} {v : Value} {xs : List Int} {base : Nat} {e : TypeId} (h : w.ownsRow base e 1 v n (xs.map (Value.int .i64))) {j : Nat} {x : Int} (hx : xs[j]? = some x) :
    ∃ g c, v = .slice (some ⟨g, 0, none⟩) n c ∧ w.cell? ⟨g, j, none⟩ = some (.int .i64 x) ∧ w.frozen? ⟨g, j, none⟩ = false ∧ g < w.heap.size := by
  obtain ⟨h1, ⟨rfl, h0⟩ | ⟨g, cap, cur, rfl, hg, hb, hc, hm, hcs, ht⟩⟩ := h
  · subst h0
    simp at h1
    subst h1
    simp at hx
  · refine ⟨g, cap, rfl, ?_, frozen_blk hb j, blk_lt hb⟩
    rw [cell_blk hb, ← Array.getElem?_toList]
    have h2 : (xs.map (Value.int .i64))[j]? = some (.int .i64 x) := by rw [List.getElem?_map, hx]; rfl
    rw [← ht, List.getElem?_take] at h2
    split at h2
    · exact h2
    · cases h2
theorem ownsRow_set {w : World} {n c g : Nat} {xs : List Value} {base : Nat} {e : TypeId} (h : w.ownsRow base e 1 (.slice (some ⟨g, 0, none⟩) n c) n xs) (j : Nat) (y : Value) :
    (w.setCell ⟨g, j, none⟩ y).ownsRow base e 1 (.slice (some ⟨g, 0, none⟩) n c) n (xs.set j y) := by
  obtain ⟨h1, ⟨h2, -⟩ | ⟨g', cap, cur, h2, hg, hb, hc, hm, hcs, ht⟩⟩ := h
  · cases h2
  · cases h2
    refine ⟨by simpa using h1, .inr ⟨g, c, cur.setIfInBounds j y, rfl, hg, blk_setCell hb j y, hc, hm, by simpa using hcs, ?_⟩⟩
    rw [Array.toList_setIfInBounds, List.take_set, ht]
theorem RVw.count {w : World} {q : Nat} {M : WM} {G : Nat → Prop} {sP sC sT sM : Value} (h : RVw w q M G sP sC sT sM) {g c : Nat} (hs : sM = .slice (some ⟨g, 0, none⟩) M.made.length c) (j : Nat) (y : Int) :
    RVw (w.setCell ⟨g, j, none⟩ (.int .i64 y)) q { M with made := M.made.set j y } G sP sC sT sM ∧ Keeps G w (w.setCell ⟨g, j, none⟩ (.int .i64 y)) := by
  have hG : G g := h.own g (.inr (.inr (.inr (.inr (by rw [hs]; rfl)))))
  have hk := Keeps.setCell (S := fun b => b = g) w ⟨g, j, none⟩ (.int .i64 y) rfl
  have hown : sM.ownBlock = some g := by rw [hs]; rfl
  have hqg : q ≠ g := fun e => h.apq.2.2.2 (by rw [hown, e])
  refine ⟨?_, hk.mono fun b _ e => by subst e; exact hG⟩
  exact {
    blk := hk.none h.blk hqg
    rp := ownsRow_keeps h.rp hk fun b hb e => (h.app b hb).2.2 (by rw [hown, e])
    rc := ownsRow_keeps h.rc hk fun b hb e => (h.apc b hb).2 (by rw [hown, e])
    rt := ownsRow_keeps h.rt hk fun b hb e => h.apt b hb (by rw [hown, e])
    rm := by
      have hr := h.rm
      subst hs
      have := ownsRow_set hr j (.int .i64 y)
      rw [← List.map_set] at this
      simpa using this
    own := h.own
    lt := fun b hb => by simpa [World.setCell] using h.lt b hb
    deep := fun r t ht => ((h.deep r t ht).keeps hk fun b hb _ e => hb.2.2.2.2.2 (by rw [hown, e])).mono fun b hb => hb.1
    apq := h.apq
    app := h.app
    apc := h.apc
    apt := h.apt }
def MakeR (w : World) (q : Nat) (N : WM) (G : Nat → Prop) (t : Th) (aE : Int) (e : Ending) (w' : World) : Prop :=
  (aE ≠ 0 ∧ e = .returned (.tuple #[.int .i64 0, .int .i64 aE]) ∧ Below w.heap.size w w') ∨
  (aE = 0 ∧ ¬ N.made.getD t.home.toNat 0 < 512 ∧ e = .returned (.tuple #[.int .i64 0, .int .i64 8]) ∧ Below w.heap.size w w') ∨
  (aE = 0 ∧ N.made.getD t.home.toNat 0 < 512 ∧ e = .returned (.tuple #[.int .i64 (N.last + 1), .int .i64 0]) ∧ ∃ vl' vals' G', IsR w' q (N.add { t with vl := vl', vals := vals' }) G' ∧ Keeps G w w' ∧ (∀ b, G' b → G b ∨ w.heap.size ≤ b) ∧ (t.v.l = [] → vl' = .slice none 0 0) ∧ (t.vs = [] → vals' = .slice none 0 0))
set_option maxHeartbeats 8000000 in
set_option maxRecDepth 20000 in
theorem make7_W {w : World} {q : Nat} {N : WM} {G F : Nat → Prop} (hR : IsR w q N G) (hl : N.things.length ≤ 100000) (hla : 0 ≤ N.last ∧ N.last ≤ 1099511627776) (hmade : ∀ (i : Nat) (x : Int), N.made[i]? = some x → 0 ≤ x ∧ x ≤ 512)
    (t : Th) (h1 : SlAt w F t.vl t.v.l) (h2 : SlAt w F t.vals t.vs) (hc : t.code = .slice none 0 0) (hn : t.names = .slice none 0 0) (hd : depV 16 t.v) (hds : ∀ x ∈ t.vs, depV 16 x) (hvl : t.vs.length ≤ 1000) (hF : ∀ b, F b → ¬ G b)
    (hhome : 0 ≤ t.home ∧ t.home < N.made.length) (hk : 0 ≤ t.kind ∧ t.kind ≤ 255) (hk13 : t.kind ≠ 13 ∧ t.kind ≠ 14 ∧ t.kind ≠ 15) (aE : Int)
    (hform : ∀ w', Below w.heap.size w w' → Calls Tryz.prog 81 #[.agg (thc t), .int .i64 N.made.length] w' fun e w'' => e = .returned (.bool true) ∧ Below w'.heap.size w' w'')
    (hask : ∀ w', Below w.heap.size w w' → Calls Tryz.prog 82 #[.pointer (some ⟨q, 0, none⟩), .int .i64 0, .agg (thc t)] w' fun e w'' => e = .returned (.int .i64 aE) ∧ Below w'.heap.size w' w'') :
    Calls Tryz.prog 15 #[.pointer (some ⟨q, 0, none⟩), .agg (thc t)] w (MakeR w q N G t aE) := by
  have hwk : IntKind.i64.wrap t.kind = t.kind := by simp [IntKind.wrap, IntKind.signed, IntKind.bits]; omega
  obtain ⟨hk13, hk14, hk15⟩ := hk13
  have k13 : (t.kind == 13) = false := by simpa using hk13
  have k14 : (t.kind == 14) = false := by simpa using hk14
  have k15 : (t.kind == 15) = false := by simpa using hk15
  obtain ⟨pv, cv, hv⟩ := h1.form
  obtain ⟨ps, cs, hvals⟩ := h2.form
  obtain ⟨j, hj⟩ : ∃ j : Nat, t.home = j := ⟨t.home.toNat, by omega⟩
  have hjn : j < N.made.length := by omega
  obtain ⟨m, hm⟩ : ∃ m, N.made[j]? = some m := ⟨_, List.getElem?_eq_getElem hjn⟩
  have hm512 := hmade j m hm
  have hgd : N.made.getD t.home.toNat 0 = m := by rw [hj]; simp [List.getD_eq_getElem?_getD, hm]
  have HADD : Hid (∀ (w' : World), Keeps G w w' → IsR w' q { N with made := N.made.set j (m + 1) } G → Calls Tryz.prog 83 #[.pointer (some ⟨q, 0, none⟩), .agg (thc t)] w' (AddR w' q { N with made := N.made.set j (m + 1) } G t)) := fun w' hk' hR' =>
    add7_W hR' hl hla t (h1.lt.keeps hk' fun b e h => hF b h.1 e) (h2.lt.keeps hk' fun b e h => hF b h.1 e) hc hn hd hds hvl (fun b h => hF b h.1)
  obtain ⟨sP, sC, sT, sM, hV⟩ := hR
  obtain ⟨g, cM, hsM, hcm, hfm, hgl⟩ := ownsRow_int hV.rm hm
  have hone : (thc t).all (·.oneCell') = true := by
    simp only [thc, hc, hn, hv, hvals]
    simp [go_sem]
  obtain ⟨ln, hln⟩ : ∃ ln, ln = N.made.length := ⟨_, rfl⟩
  rw [← hln] at hsM
  have HV := (show Hid (RVw w q N G sP sC sT sM) from hV)
  have HFM := (show Hid _ from hform)
  have HAK := (show Hid _ from hask)
  have HI : Hid (N.made.getD t.home.toNat 0 = m ∧ t.home = j ∧ 0 ≤ m ∧ m ≤ 512 ∧ j < ln ∧ ln = N.made.length) := ⟨hgd, hj, hm512.1, hm512.2, by omega, hln⟩
  have hwm : wrap64 (m + 1) = m + 1 := by unfold wrap64; omega
  have DS : Hid (∀ w', Below w.heap.size w w' → w'.heap[w.heap.size]? = some (.cells (thc t) 46 (0, 0)) → w'.cell? ⟨q, 4, none⟩ = some sM ∧ w'.cell? ⟨w.heap.size, 0, none⟩ = some (.int .u8 t.kind) ∧ w'.cell? ⟨w.heap.size, 1, none⟩ = some (.int .i64 j) ∧
      (ldW (.pointer (some ⟨w.heap.size, 0, none⟩))).run Tryz.prog w' = .ok (.value (.agg (thc t))) w' ∧ w'.cell? ⟨g, j, none⟩ = some (.int .i64 m) ∧ w'.frozen? ⟨g, j, none⟩ = false) := fun w' hb hx => by
    have hq := below_blk hb hV.blk
    have hb' : w'.heap[g]? = w.heap[g]? := hb.block g hgl
    refine ⟨by rw [cell_blk hq]; rfl, by rw [cell_blk hx]; rfl, by rw [cell_blk hx, ← hj]; rfl, loadWhat_blk hx rfl, ?_, ?_⟩
    · exact (World.cell?_of_block (a := ⟨g, j, none⟩) hb').trans hcm
    · exact (World.frozen?_of_block (a := ⟨g, j, none⟩) hb').trans hfm
  clear hV hform hask hgd hj hm512 hln h1 h2 hc hn hd hds hvl hF hl hla hmade hhome hk hm hjn hcm hfm hgl hv hvals hone
  go_enter Tryz.func15, Tryz.ntmps15
  go_upto_region 1 with fail
  have H0 : Hid (Below w.heap.size w (w.alloc (.cells (thc t) 46)) ∧ (w.alloc (.cells (thc t) 46)).heap[w.heap.size]? = some (.cells (thc t) 46 (0, 0))) := ⟨(Below.refl _ w).alloc (Nat.le_refl _) _, blk_new _ _⟩
  revert H0
  generalize w.alloc _ = w0
  intro H0
  have ds : Hid (∀ w', Below w0.heap.size w0 w' → w'.cell? ⟨q, 4, none⟩ = some (.slice (some ⟨g, 0, none⟩) ln cM) ∧ w'.cell? ⟨w.heap.size, 0, none⟩ = some (.int .u8 t.kind) ∧ (ldW (.pointer (some ⟨w.heap.size, 0, none⟩))).run Tryz.prog w' = .ok (.value (.agg (thc t))) w' ∧ Below w.heap.size w w') := fun w' hb => by
    have hb' := H0.out.1.trans (hb.mono H0.out.1.size)
    obtain ⟨q1, q2, q3, q4, -⟩ := DS.out w' hb' (below_blk hb H0.out.2)
    rw [hsM] at q1
    exact ⟨q1, q2, q4, hb'⟩
  have Hf : Hid (∀ w', Below w.heap.size w w' → Calls Tryz.prog 81 #[.agg (thc t), .int .i64 ln] w' fun e w'' => e = .returned (.bool true) ∧ Below w'.heap.size w' w'') := by rw [HI.out.2.2.2.2.2]; exact HFM.out
  have k0 := (ds.out w0 (Below.refl _ _)).2.1
  go_upto_region 2 with fail
  clear k0
  refine region_class (C := fun w' => Below w0.heap.size w0 w') (by kernel_rfl) (by kernel_rfl) below_drew ?_
  repeat (first
    | go_big_quiet_step (fail)
    | quiet_step (fail)
    | (refine wpQuiet_step (fun K hK => ?_); go_simp; first
        | (refine hK _ ?_; clear hK K)
        | (apply Exists.intro
           refine ⟨fun w' hC => ?_, hK _ ?_⟩
           · obtain ⟨q1, q2, q3, q4⟩ := ds.out w' hC
             first
               | exact rfl
               | (go_simp; exact rfl)
               | (go_simp; exact ⟨rfl, rfl⟩)
               | exact (Hf.out w' q4).mono fun e w'' ⟨he, hb⟩ => ⟨he, hC.trans (hb.mono hC.size)⟩
           clear hK K)))
  refine wpQuiet_nil ?_
  intro w5 hC5
  have H5 : Hid (Below w.heap.size w w5 ∧ w5.heap[w.heap.size]? = some (.cells (thc t) 46 (0, 0))) := ⟨(ds.out w5 hC5).2.2.2, below_blk hC5 H0.out.2⟩
  have l5 := (ds.out w5 hC5).2.2.1
  clear hC5 ds Hf H0
  go_wp2_with fail
  refine Calls.mono (HAK.out w5 H5.out.1) ?_
  rintro e w6 ⟨rfl, hb6⟩
  have H6 : Hid (Below w.heap.size w w6 ∧ w6.heap[w.heap.size]? = some (.cells (thc t) 46 (0, 0))) := ⟨H5.out.1.trans (hb6.mono H5.out.1.size), below_blk hb6 H5.out.2⟩
  clear hb6 H5 l5 HAK HFM
  by_cases ha : aE = 0
  rotate_left
  · have HR : Hid (MakeR w q N G t aE (.returned (.tuple #[.int .i64 0, .int .i64 aE])) w6) := .inl ⟨ha, rfl, H6.out.1⟩
    have hab : (aE == 0) = false := by simpa using ha
    go_wp2_with fail
    go_returns
    exact HR.out
  subst ha
  obtain ⟨c4, -, c1, l6, cm, fm⟩ := DS.out w6 H6.out.1 H6.out.2
  rw [hsM] at c4
  have hj0 : (0 : Int) ≤ (j : Int) := by omega
  have hjl : (j : Int) < (ln : Int) := by have := HI.out.2.2.2.2.1; omega
  have hjl' : j < ln := HI.out.2.2.2.2.1
  by_cases hm5 : m ≥ 512
  · have HR : Hid (∀ wx, wx = w6.drew ∨ wx = w6 → MakeR w q N G t 0 (.returned (.tuple #[.int .i64 0, .int .i64 8])) wx) := fun wx e => .inr (.inl ⟨rfl, by rw [HI.out.1]; omega, rfl, by
      rcases e with rfl | rfl
      · exact H6.out.1.trans (below_drew.mono H6.out.1.size)
      · exact H6.out.1⟩)
    go_upto_region 7 with fail
    go_region
    all_goals
      go_wp2_with fail
      go_returns
      exact HR.out _ (.inl rfl)
  have HM5 : Hid (m < 512) := by show _ < _; omega
  have hm5' : ¬ m ≥ 512 := hm5
  have HC : Hid (∀ wx, wx = (w6.drew.setCell ⟨g, j, none⟩ (.int .i64 (m + 1))).drew →
      wx.heap[w.heap.size]? = some (.cells (thc t) 46 (0, 0)) ∧ Keeps G w wx ∧ IsR wx q { N with made := N.made.set j (m + 1) } G ∧ w.heap.size ≤ wx.heap.size) := fun wx e => by
    have hv6 := (HV.out.below H6.out.1).below below_drew
    have hs := hsM
    rw [HI.out.2.2.2.2.2] at hs
    obtain ⟨h1, h2⟩ := hv6.count hs j (m + 1)
    have hgw : g < w.heap.size := HV.out.lt g (HV.out.own g (.inr (.inr (.inr (.inr (by rw [hsM]; rfl))))))
    have hx : (w6.drew.setCell ⟨g, j, none⟩ (.int .i64 (m + 1))).heap[w.heap.size]? = some (.cells (thc t) 46 (0, 0)) := blk_other (w := w6.drew) H6.out.2 _ _ (by show w.heap.size ≠ g; omega)
    have hk := (Keeps.of_below (S := G) H6.out.1).drew.trans h2 (fun _ _ h => h) (fun _ _ h => h)
    have hi : IsR (w6.drew.setCell ⟨g, j, none⟩ (.int .i64 (m + 1))) q { N with made := N.made.set j (m + 1) } G := ⟨sP, sC, sT, sM, h1⟩
    subst e
    exact ⟨hx, hk.drew, hi.below below_drew, hk.size⟩
  have d4 : w6.drew.cell? ⟨q, 4, none⟩ = _ := c4
  have d1 : w6.drew.cell? ⟨w.heap.size, 1, none⟩ = _ := c1
  have dm : w6.drew.cell? ⟨g, j, none⟩ = _ := cm
  have dfm : w6.drew.frozen? ⟨g, j, none⟩ = _ := fm
  clear hm5
  go_upto_region 7 with fail
  go_region
  all_goals (go_upto_region 9 with fail)
  clear d4 d1 dm dfm c4 c1 cm fm l6
  have c4 : w6.drew.cell? ⟨q, 4, none⟩ = some (.slice (some ⟨g, 0, none⟩) ln cM) := by
    have := (DS.out w6 H6.out.1 H6.out.2).1
    rw [hsM] at this
    exact this
  have c1 : w6.drew.cell? ⟨w.heap.size, 1, none⟩ = some (.int .i64 j) := (DS.out w6 H6.out.1 H6.out.2).2.2.1
  have cm : w6.drew.cell? ⟨g, j, none⟩ = some (.int .i64 m) := (DS.out w6 H6.out.1 H6.out.2).2.2.2.2.1
  have fm : w6.drew.frozen? ⟨g, j, none⟩ = false := (DS.out w6 H6.out.1 H6.out.2).2.2.2.2.2
  generalize hwd : w6.drew = wd at *
  go_region
  all_goals (go_upto_region 10 with fail)
  obtain ⟨wx, hwx⟩ : ∃ wx, wx = (wd.setCell ⟨g, j, none⟩ (.int .i64 (m + 1))).drew := ⟨_, rfl⟩
  have HX : Hid (wx.heap[w.heap.size]? = some (.cells (thc t) 46 (0, 0)) ∧ Keeps G w wx ∧ IsR wx q { N with made := N.made.set j (m + 1) } G ∧ w.heap.size ≤ wx.heap.size) := HC.out wx hwx
  rw [← hwx]
  have l9 := loadWhat_blk HX.out.1 rfl
  clear hwx hwd c4 c1 cm fm HC DS
  go_wp2_with fail
  refine Calls.mono (HADD.out wx HX.out.2.1 HX.out.2.2.1) ?_
  rintro e w9 ⟨vl', vals', G', rfl, hr9, hk9, hg9, n1, n2⟩
  have HR : Hid (MakeR w q N G t 0 (.returned (.tuple #[.int .i64 (N.last + 1), .int .i64 0])) w9) := by
    refine .inr (.inr ⟨rfl, by rw [HI.out.1]; exact HM5.out, rfl, vl', vals', G', ?_, HX.out.2.1.trans hk9 (fun _ _ h => h) (fun _ _ h => h), fun b hb => (hg9 b hb).imp id fun h => Nat.le_trans HX.out.2.2.2 h, n1, n2⟩)
    have e : (N.add { t with vl := vl', vals := vals' }) = { N with made := N.made.set j (m + 1), things := N.things ++ [(N.last + 1, { t with vl := vl', vals := vals' })], last := N.last + 1 } := by
      unfold WM.add
      rw [if_neg hk14]
      show WM.mk _ _ _ _ (N.made.set t.home.toNat (N.made.getD t.home.toNat 0 + 1)) = _
      rw [HI.out.1, HI.out.2.1]
      rfl
    rw [e]
    exact hr9
  clear hr9 hk9 hg9 n1 n2 HX HADD l9
  go_wp2_with fail
  go_returns
  exact HR.out
end Go.Proofs.YthaliljaglldjaaGreat
