/- A part of the proof, several texts in one: R8P, Fu10, NoS, R7S. -/
import Derived.Test.YthaliljaglldjaaGreatmBF
import Derived.Test.YthaliljaglldjaaGreatmBG
import Derived.Test.YthaliljaglldjaaGreatmAB
import Derived.Test.YthaliljaglldjaaGreatmAE
import Derived.Deep.QuietTactic
import Derived.BigQuiet
import Derived.Test.YthaliljaglldjaaGreatmAQ
import Derived.Test.YthaliljaglldjaaGreatmAG
/- posternref08.Make of a promise, and its keeper. -/
namespace Go.Proofs.YthaliljaglldjaaGreat
open Go.RowKit Go.ChangeMaps Go.MapKept
abbrev prT0 (h : Int) : Th := lt 10 h 0 0 0 0 0 0 0 false
abbrev kpT0 (h tg : Int) : Th := lt 11 h 0 0 0 0 tg 0 0 false
abbrev nilQ : Val := ⟨0, 0, ⟨#[]⟩, [], 0⟩
theorem nilQ_may : mayV nilQ = true := (refsV0 0 0 (.inl ⟨rfl, rfl⟩)).2
theorem nilQ_refs : refsV nilQ = [] := (refsV0 0 0 (.inl ⟨rfl, rfl⟩)).1
theorem nilQ_known (N : WM) : knownB N nilQ = true := by unfold knownB; rw [nilQ_refs]; rfl
theorem nilQ_refsN : refsN 16 nilQ = [] := by rw [← refsV_of nilQ_may]; exact nilQ_refs
def Prom8 (w : World) (q : Nat) (N : WM) (G : Nat → Prop) (h : Int) (e : Ending) (w' : World) : Prop :=
  (mayE N h nilQ ≠ 0 ∧ e = .returned (.tuple #[.int .i64 0, .int .i64 (mayE N h nilQ)]) ∧ Below w.heap.size w w') ∨
  (mayE N h nilQ = 0 ∧ ¬ N.made.getD h.toNat 0 + 2 ≤ 512 ∧ e = .returned (.tuple #[.int .i64 0, .int .i64 8]) ∧ Below w.heap.size w w') ∨
  (mayE N h nilQ = 0 ∧ N.made.getD h.toNat 0 + 2 ≤ 512 ∧ e = .returned (.tuple #[.int .i64 (N.last + 1), .int .i64 0]) ∧ ∃ G', IsR w' q ((N.add (prT0 h)).add (kpT0 h (N.last + 1))) G' ∧ Keeps G w w' ∧ ∀ b, G' b → G b ∨ w.heap.size ≤ b)
theorem prom8_no {w w' : World} {q : Nat} {N : WM} {G : Nat → Prop} {h x : Int} (hx : mayE N h nilQ = x) (h0 : x ≠ 0) (hb : Below w.heap.size w w') : Prom8 w q N G h (.returned (.tuple #[.int .i64 0, .int .i64 x])) w' := .inl ⟨by rw [hx]; exact h0, by rw [hx], hb⟩
theorem keeper_make {w : World} {q : Nat} {N : WM} {G : Nat → Prop} {h : Int} (hR : IsR w q (N.add (prT0 h)) G) (hN : RGood N) (hlen : N.things.length + 1 ≤ 100000) (hlast : N.last + 1 ≤ 1099511627776) (hh : 0 ≤ h ∧ h < N.made.length) (hroom : N.made.getD h.toNat 0 + 2 ≤ 512)
    (hat : (N.add (prT0 h)).at (N.last + 1) = some (prT0 h)) (hno : ∀ x ∈ (N.add (prT0 h)).things, x.1 ≠ 0 ∧ (x.2.kind = 11 → x.2.tgt ≠ N.last + 1)) :
    Calls Tryz.prog 15 #[.pointer (some ⟨q, 0, none⟩), .agg (thc (kpT0 h (N.last + 1)))] w (MakeR w q (N.add (prT0 h)) G (kpT0 h (N.last + 1)) 0) := by
  have hml : (N.add (prT0 h)).made.length = N.made.length := by show (if (10 : Int) = 14 then N.made else N.made.set h.toNat (N.made.getD h.toNat 0 + 1)).length = _; rw [if_neg (by decide), List.length_set]
  have hok : ROk (N.add (prT0 h)) := ⟨by show (N.things ++ [_]).length ≤ _; rw [List.length_append]; exact hlen, fun x hx => by
    rcases List.mem_append.1 (show x ∈ N.things ++ [(N.last + 1, prT0 h)] from hx) with hx | hx
    · exact hN.ok.cell x hx
    · rw [List.mem_singleton.1 hx]
      exact ⟨by rw [thc_lt]; simp [go_sem], by show (1 : Int) ≤ 10; decide, by show (10 : Int) ≤ 255; decide⟩⟩
  have hmd : ∀ (i : Nat) (x : Int), (N.add (prT0 h)).made[i]? = some x → 0 ≤ x ∧ x ≤ 512 := fun i x hx => by
    have hx' : (N.made.set h.toNat (N.made.getD h.toNat 0 + 1))[i]? = some x := by rw [← hx]; show _ = (if (10 : Int) = 14 then N.made else N.made.set h.toNat (N.made.getD h.toNat 0 + 1))[i]?; rw [if_neg (by decide)]
    rw [List.getElem?_set] at hx'
    split at hx'
    · split at hx'
      · injection hx' with hx'
        have : 0 ≤ N.made.getD h.toNat 0 := by
          rw [List.getD_eq_getElem?_getD]
          cases hg : N.made[h.toNat]? with
          | none => exact Int.le_refl _
          | some y => exact (hN.mades _ y hg).1
        omega
      · cases hx'
    · exact hN.mades i x hx'
  refine make7_W (F := fun _ => False) hR hok.len ⟨by have := hN.last; show 0 ≤ N.last + 1; omega, hlast⟩ hmd (kpT0 h (N.last + 1)) (SlAt.nil _ _ _ _) (SlAt.nil _ _ _ _) rfl rfl (depV_may nilQ_may) (fun x hx => by cases hx) (Nat.zero_le _) (fun b hb => hb.elim) (by rw [hml]; exact hh) (by show (0 : Int) ≤ 11 ∧ (11 : Int) ≤ 255; decide) (by show (11 : Int) ≠ 13 ∧ (11 : Int) ≠ 14 ∧ (11 : Int) ≠ 15; decide) 0 (fun w' hb => ?_) (fun w' hb => ?_)
  · rw [thc_lt]
    exact form7_11 w' _ h (by rw [hml]; exact hh) _
  · obtain ⟨q0, hq0⟩ := may_take nilQ_may
    exact asked7_11 (hR.below hb) hok (kpT0 h (N.last + 1)) 0 rfl hat ⟨rfl, rfl⟩ hno [] (Nat.zero_le _) (fun w2 hb2 => by
      have := refs7_one (w := w2) (F := fun _ => False) (kpT0 h (N.last + 1)) (SlAt.nil _ _ _ _) rfl rfl (by decide) hq0
      rw [nilQ_refsN] at this
      exact this) (fun x hx => by cases hx)
set_option maxHeartbeats 8000000 in
set_option maxRecDepth 20000 in
theorem prom8_W {w : World} {q : Nat} {N : WM} {G : Nat → Prop} (hR : IsR w q N G) (hN : RGood N) (hlen : N.things.length + 1 ≤ 100000) (hlast : N.last + 2 ≤ 1099511627776) {h : Int}
    (hat : (N.add (prT0 h)).at (N.last + 1) = some (prT0 h)) (hno : ∀ x ∈ (N.add (prT0 h)).things, x.1 ≠ 0 ∧ (x.2.kind = 11 → x.2.tgt ≠ N.last + 1)) :
    Calls Tryz.prog 87 #[.pointer (some ⟨q, 0, none⟩), .int .u8 10, .int .i64 h, .agg #[.int .u8 0, .int .i64 0, .string ⟨#[]⟩, .slice none 0 0, .int .i64 0]] w (Prom8 w q N G h) := by
  have HMy : Hid (∀ w', Below w.heap.size w w' → Calls Tryz.prog 182 #[.agg #[.int .u8 0, .int .i64 0, .string ⟨#[]⟩, .slice none 0 0, .int .i64 0]] w' fun e w'' => e = .returned (.bool true) ∧ Below w'.heap.size w' w'') := fun w' hb => by
    have := rMay_any (w := w') (F := fun _ => False) (v := nilQ) (raw := .slice none 0 0) (SlAt.nil _ _ _ _) nil_wf
    rw [nilQ_may] at this
    exact this
  have HNm : Hid (∀ w', Below w.heap.size w w' → Calls Tryz.prog 183 #[.pointer (some ⟨q, 0, none⟩), .agg #[.int .u8 0, .int .i64 0, .string ⟨#[]⟩, .slice none 0 0, .int .i64 0]] w' fun e w'' => e = .returned (.bool true) ∧ Below w'.heap.size w' w'') := fun w' hb => by
    have := names8_W (F := fun _ => False) (hR.below hb) hN.ok nilQ (.slice none 0 0) (SlAt.nil _ _ _ _) nilQ_may
    rw [nilQ_known] at this
    exact this
  have HMk : Hid (0 ≤ h ∧ h < N.made.length → ∀ w', Below w.heap.size w w' → Calls Tryz.prog 15 #[.pointer (some ⟨q, 0, none⟩), .agg (thc (prT0 h))] w' (MakeR w' q N G (prT0 h) 0)) := fun hh w' hb =>
    rmake_0 (F := fun _ => False) (hR.below hb) hN (.inr (.inr (.inr (.inr rfl)))) hh nilQ (.slice none 0 0) (SlAt.nil _ _ _ _) (fun b hb => hb.elim) nilQ_may (nilQ_known N) fun w2 hb2 => form7_10 w2 _ h hh
  have HKp : Hid (0 ≤ h ∧ h < N.made.length → N.made.getD h.toNat 0 + 2 ≤ 512 → ∀ w' G', IsR w' q (N.add (prT0 h)) G' → Calls Tryz.prog 15 #[.pointer (some ⟨q, 0, none⟩), .agg (thc (kpT0 h (N.last + 1)))] w' (MakeR w' q (N.add (prT0 h)) G' (kpT0 h (N.last + 1)) 0)) := fun hh hr w' G' hR' =>
    keeper_make hR' hN hlen (by omega) hh hr hat hno
  have HE : Hid (∀ x, mayE N h nilQ = x ↔ (if 0 ≤ h ∧ h < N.made.length then 0 else 2) = x) := fun x => by unfold mayE; rw [nilQ_may, nilQ_known]; rfl
  have HMs := (show Hid (∀ (i : Nat) (x : Int), N.made[i]? = some x → 0 ≤ x ∧ x ≤ 512) from hN.mades)
  have HML : Hid ((N.add (prT0 h)).made.getD h.toNat 0 = N.made.getD h.toNat 0 + 1 ∨ ¬ h.toNat < N.made.length) := by
    by_cases hh : h.toNat < N.made.length
    · left
      show (if (10 : Int) = 14 then N.made else N.made.set h.toNat (N.made.getD h.toNat 0 + 1)).getD h.toNat 0 = _
      rw [if_neg (by decide)]
      simp [List.getD_eq_getElem?_getD, hh]
    · exact .inr hh
  obtain ⟨sP, sC, sT, sM, hV⟩ := hR
  have HV := (show Hid (RVw w q N G sP sC sT sM) from hV)
  obtain ⟨pM, cM, hsM⟩ : ∃ p c, sM = .slice p N.made.length c := by
    obtain ⟨h1, ⟨h2, h0⟩ | ⟨g', cap, cur, h2, -⟩⟩ := hV.rm
    · exact ⟨none, 0, by rw [h2, h0]⟩
    · exact ⟨_, _, h2⟩
  subst hsM
  have HM : Hid (∀ w', Below w.heap.size w w' → w'.cell? ⟨q, 4, none⟩ = some (.slice pM N.made.length cM)) := fun w' hb => by rw [cell_blk (below_blk hb HV.out.blk)]; rfl
  have H0 : Hid (Below w.heap.size w (w.alloc (.cells #[.int .u8 0, .int .i64 0, .string ⟨#[]⟩, .slice none 0 0, .int .i64 0] 27)) ∧ (w.alloc (.cells #[.int .u8 0, .int .i64 0, .string ⟨#[]⟩, .slice none 0 0, .int .i64 0] 27)).heap[w.heap.size]? = some (.cells #[.int .u8 0, .int .i64 0, .string ⟨#[]⟩, .slice none 0 0, .int .i64 0] 27 (0, 0))) := ⟨(Below.refl _ w).alloc (Nat.le_refl _) _, blk_new _ _⟩
  clear hV hN hlen hlast hat hno
  rw [thc_lt] at HMk HKp
  by_cases h1' : h < 0
  · have HR : Hid (Prom8 w q N G h (.returned (.tuple #[.int .i64 0, .int .i64 2])) (w.alloc (.cells #[.int .u8 0, .int .i64 0, .string ⟨#[]⟩, .slice none 0 0, .int .i64 0] 27))) := prom8_no ((HE.out 2).2 (if_neg (by omega))) (by decide) H0.out.1
    clear HMy HNm HMk HKp HE HMs HML HV HM
    go_enter Tryz.func87, Tryz.ntmps87
    go_wp2_with fail
    go_returns
    exact HR.out
  by_cases h2' : h ≥ (N.made.length : Int)
  · have HR : Hid (Prom8 w q N G h (.returned (.tuple #[.int .i64 0, .int .i64 2])) (w.alloc (.cells #[.int .u8 0, .int .i64 0, .string ⟨#[]⟩, .slice none 0 0, .int .i64 0] 27))) := prom8_no ((HE.out 2).2 (if_neg (by omega))) (by decide) H0.out.1
    have c4 := HM.out _ H0.out.1
    clear HMy HNm HMk HKp HE HMs HML HV HM
    go_enter Tryz.func87, Tryz.ntmps87
    go_wp2_with fail
    go_returns
    exact HR.out
  have HE0 : Hid (mayE N h nilQ = 0) := (HE.out 0).2 (if_pos ⟨by omega, by omega⟩)
  obtain ⟨j, hj⟩ : ∃ j : Nat, h = j := ⟨h.toNat, by omega⟩
  subst hj
  have Hj : Hid (j < N.made.length) := by show _ < _; omega
  obtain ⟨m, hm⟩ : ∃ m, N.made[j]? = some m := ⟨_, List.getElem?_eq_getElem Hj.out⟩
  have hmr := HMs.out j m hm
  have hgd : N.made.getD j 0 = m := by simp [List.getD_eq_getElem?_getD, hm]
  have HG : Hid (N.made.getD ((j : Int).toNat) 0 = m) := by show _ = _; rw [Int.toNat_natCast]; exact hgd
  obtain ⟨g, cM', hs, -, -, hgl⟩ := ownsRow_int HV.out.rm hm
  have hpM : pM = some ⟨g, 0, none⟩ := by injection hs
  subst hpM
  have HMm : Hid (∀ w', Below w.heap.size w w' → w'.cell? ⟨g, j, none⟩ = some (.int .i64 m)) := fun w' hb => by
    obtain ⟨g2, c2, e2, h2, -, -⟩ := ownsRow_int (HV.out.below hb).rm hm
    have : g2 = g := by injection e2 with e2; injection e2 with e2; injection e2 with e2; exact e2.symm
    rw [← this]
    exact h2
  have hj0 : (0 : Int) ≤ (j : Int) := by omega
  have hjl : (j : Int) < (N.made.length : Int) := by omega
  have hw2 : wrap64 (m + 2) = m + 2 := by unfold wrap64; omega
  clear hs hm hgd hgl HMs HE
  have c4 := HM.out _ H0.out.1
  go_enter Tryz.func87, Tryz.ntmps87
  go_wp2_with fail
  refine Calls.mono (HMy.out _ H0.out.1) ?_
  rintro e w1 ⟨rfl, hb1⟩
  have b1 := below_blk hb1 H0.out.2
  obtain ⟨⟨a0, a1, a2, a3, a4⟩, -⟩ := cells5 b1
  have HB1 := (show Hid (Below w.heap.size w w1 ∧ w1.heap[w.heap.size]? = _) from ⟨H0.out.1.trans (hb1.mono H0.out.1.size), b1⟩)
  clear hb1 b1 HMy c4 H0
  go_wp2_with fail
  refine Calls.mono (HNm.out _ HB1.out.1) ?_
  rintro e w2 ⟨rfl, hb2⟩
  have b2 := below_blk hb2 HB1.out.2
  have HB2 := (show Hid (Below w.heap.size w w2) from HB1.out.1.trans (hb2.mono HB1.out.1.size))
  clear hb2 a0 a1 a2 a3 a4 HNm HB1
  obtain ⟨⟨a0, a1, a2, a3, a4⟩, -⟩ := cells5 b2
  have c4 := HM.out _ HB2.out
  have cm := HMm.out _ HB2.out
  clear b2
  by_cases hroom : m + 2 > 512
  · have HR : Hid (Prom8 w q N G j (.returned (.tuple #[.int .i64 0, .int .i64 8])) w2) := .inr (.inl ⟨HE0.out, by rw [HG.out]; omega, rfl, HB2.out⟩)
    clear HMk HKp HML HV HM
    go_wp2_with fail
    go_returns
    exact HR.out
  have Hroom : Hid (N.made.getD ((j : Int).toNat) 0 + 2 ≤ 512) := by show _ ≤ _; rw [HG.out]; omega
  go_wp2_with fail
  refine Calls.mono (HMk.out ⟨by omega, by have := Hj.out; omega⟩ _ HB2.out) ?_
  rintro e w3 hmade
  rcases hmade with ⟨h0, -⟩ | ⟨-, h0, -⟩ | ⟨-, -, rfl, vl', vals', G', hr, hk, hg, n1, n2⟩
  · exact absurd rfl h0
  · have h0' : ¬ N.made.getD ((j : Int).toNat) 0 < 512 := h0
    have := Hroom.out
    exact absurd (show N.made.getD ((j : Int).toNat) 0 < 512 by omega) h0'
  have e1 : vl' = .slice none 0 0 := n1 rfl
  have e2 : vals' = .slice none 0 0 := n2 rfl
  subst e1 e2
  have HR3 := (show Hid (IsR w3 q (N.add (prT0 j)) G' ∧ Keeps G w2 w3 ∧ ∀ b, G' b → G b ∨ w2.heap.size ≤ b) from ⟨hr, hk, hg⟩)
  clear hr hk hg n1 n2 a0 a1 a2 a3 a4 HMk c4 cm
  go_wp2_with fail
  refine Calls.mono (HKp.out ⟨by omega, by have := Hj.out; omega⟩ Hroom.out w3 G' HR3.out.1) ?_
  rintro e w4 hmade
  rcases hmade with ⟨h0, -⟩ | ⟨-, h0, -⟩ | ⟨-, -, rfl, vl', vals', G2, hr, hk, hg, n1, n2⟩
  · exact absurd rfl h0
  · have h0' : ¬ (N.add (prT0 j)).made.getD ((j : Int).toNat) 0 < 512 := h0
    rcases HML.out with h | h
    · rw [h] at h0'
      have := Hroom.out
      exact absurd (show N.made.getD ((j : Int).toNat) 0 + 1 < 512 by omega) h0'
    · exact absurd Hj.out h
  have e1 : vl' = .slice none 0 0 := n1 rfl
  have e2 : vals' = .slice none 0 0 := n2 rfl
  subst e1 e2
  have HR : Hid (Prom8 w q N G j (.returned (.tuple #[.int .i64 (N.last + 1), .int .i64 0])) w4) := .inr (.inr ⟨HE0.out, Hroom.out, rfl, G2, hr, ((Keeps.of_below (S := G) HB2.out).trans HR3.out.2.1 (fun _ _ h => h) (fun _ _ h => h)).trans hk (fun _ _ h => h) (fun b hb h => (HR3.out.2.2 b h).elim id fun h => by have := HB2.out.size; omega), fun b hb => by
    rcases hg b hb with h | h
    · exact (HR3.out.2.2 b h).imp id fun h => Nat.le_trans HB2.out.size h
    · exact .inr (Nat.le_trans HB2.out.size (Nat.le_trans HR3.out.2.1.size h))⟩)
  clear hr hk hg n1 n2 HKp HR3 HML HV HM
  go_wp2_with fail
  go_returns
  exact HR.out
end Go.Proofs.YthaliljaglldjaaGreat
/- made of posternlaw08 at promises -/
namespace Go.Proofs.YthaliljaglldjaaGreat
open Go.RowKit Go.ChangeMaps Go.MapKept
theorem prom8_form {w w' : World} {q : Nat} {N : WM} {G : Nat → Prop} {h : Int} {e : Ending} (hm : Prom8 w q N G h e w') : ∃ r a, e = .returned (.tuple #[.int .i64 r, .int .i64 a]) := by
  rcases hm with ⟨-, rfl, -⟩ | ⟨-, -, rfl, -⟩ | ⟨-, -, rfl, -⟩ <;> exact ⟨_, _, rfl⟩
theorem prom8_keeps {w w' : World} {q : Nat} {N : WM} {G : Nat → Prop} {h : Int} {e : Ending} (hm : Prom8 w q N G h e w') : Keeps G w w' := by
  rcases hm with ⟨-, -, h⟩ | ⟨-, -, -, h⟩ | ⟨-, -, -, _, -, h, -⟩
  · exact Keeps.of_below h
  · exact Keeps.of_below h
  · exact h
theorem execOp_fu10_17 (ρ : Operand → Value) (ty : TypeId) (pos : String) (af : Array Edge) (g : Option (Nat × Bool)) :
    execOp ρ { dst := some 17, op := .load 27 (.tmp 16), type := ty, pos := pos, after := af, guard := g } = ldV (ρ (.tmp 16)) := rfl
theorem execOp_fu10_22 (ρ : Operand → Value) (ty : TypeId) (pos : String) (af : Array Edge) (g : Option (Nat × Bool)) :
    execOp ρ { dst := some 22, op := .load 27 (.tmp 21), type := ty, pos := pos, after := af, guard := g } = ldV (ρ (.tmp 21)) := rfl
theorem execOp_fu10_82 (ρ : Operand → Value) (ty : TypeId) (pos : String) (af : Array Edge) (g : Option (Nat × Bool)) :
    execOp ρ { dst := some 82, op := .load 27 (.tmp 12), type := ty, pos := pos, after := af, guard := g } = ldV (ρ (.tmp 12)) := rfl
theorem execOp_fu10_95 (ρ : Operand → Value) (ty : TypeId) (pos : String) (af : Array Edge) (g : Option (Nat × Bool)) :
    execOp ρ { dst := some 95, op := .load 27 (.tmp 7), type := ty, pos := pos, after := af, guard := g } = ldV (ρ (.tmp 7)) := rfl
theorem execOp_fu10_97 (ρ : Operand → Value) (ty : TypeId) (pos : String) (af : Array Edge) (g : Option (Nat × Bool)) :
    execOp ρ { dst := some 97, op := .load 27 (.tmp 96), type := ty, pos := pos, after := af, guard := g } = ldV (ρ (.tmp 96)) := rfl
theorem execOp_fu10_101 (ρ : Operand → Value) (ty : TypeId) (pos : String) (af : Array Edge) (g : Option (Nat × Bool)) :
    execOp ρ { dst := some 101, op := .load 27 (.tmp 7), type := ty, pos := pos, after := af, guard := g } = ldV (ρ (.tmp 7)) := rfl
theorem execOp_fu10_s7 (ρ : Operand → Value) (ty : TypeId) (pos : String) (af : Array Edge) (g : Option (Nat × Bool)) :
    execOp ρ { dst := none, op := .store 27 (.tmp 7) (.tmp 19), type := ty, pos := pos, after := af, guard := g } = stV (ρ (.tmp 7)) (ρ (.tmp 19)) := rfl
theorem execOp_fu10_s12 (ρ : Operand → Value) (ty : TypeId) (pos : String) (af : Array Edge) (g : Option (Nat × Bool)) :
    execOp ρ { dst := none, op := .store 27 (.tmp 12) (.tmp 22), type := ty, pos := pos, after := af, guard := g } = stV (ρ (.tmp 12)) (ρ (.tmp 22)) := rfl
theorem execOp_fu10_s12b (ρ : Operand → Value) (ty : TypeId) (pos : String) (af : Array Edge) (g : Option (Nat × Bool)) :
    execOp ρ { dst := none, op := .store 27 (.tmp 12) (.tmp 26), type := ty, pos := pos, after := af, guard := g } = stV (ρ (.tmp 12)) (ρ (.tmp 26)) := rfl
attribute [local go_sem ↓] execOp_fu10_17 execOp_fu10_22 execOp_fu10_82 execOp_fu10_95 execOp_fu10_97 execOp_fu10_101 execOp_fu10_s7 execOp_fu10_s12 execOp_fu10_s12b in
set_option maxHeartbeats 16000000 in
set_option maxRecDepth 20000 in
theorem made8_10 {w : World} {p q : Nat} {M N : WM} {F G F1 : Nat → Prop} (hB : Both w p q M N F G) (hl : M.last + 2 ≤ 100000) (d h on ab : Int) (v : Val) (raw : Value) (hS : SlAt w F1 raw v.l) (hF1 : ∀ b, F1 b → ¬ F b ∧ ¬ G b) (hwf : v.wf) (hroom : roomB v = true) (hF0 : ∀ b, F1 b → b < w.heap.size) :
    Calls Tryz.prog 16 #[.pointer (some ⟨p, 0, none⟩), .pointer (some ⟨q, 0, none⟩), .agg (stepc d 10 h on ab v raw)] w (MadeL8 w p q M F G) := by
  obtain ⟨pa, c, rfl⟩ := hS.form
  have hFl : ∀ b, F b ∨ G b → b < w.heap.size := fun b hb => hb.elim (hB.W.lt b) (hB.R.lt b)
  have HB := (show Hid _ from hB)
  have HA : Hid (M.last + 2 ≤ 100000 ∧ (∀ b, F1 b → ¬ F b ∧ ¬ G b) ∧ v.wf ∧ ∀ b, F b ∨ G b → b < w.heap.size) := ⟨hl, hF1, hwf, hFl⟩
  have H1 : Hid (Below w.heap.size w (w.alloc (.cells (stepc d 10 h on ab v (.slice pa v.l.length c)) 49)) ∧ (w.alloc (.cells (stepc d 10 h on ab v (.slice pa v.l.length c)) 49)).heap[w.heap.size]? = some (.cells (stepc d 10 h on ab v (.slice pa v.l.length c)) 49 (0, 0)) ∧ (w.alloc (.cells (stepc d 10 h on ab v (.slice pa v.l.length c)) 49)).heap.size = w.heap.size + 1) := ⟨(Below.refl _ w).alloc (Nat.le_refl _) _, blk_new _ _, by simp⟩
  have HS := (show Hid (SlAt w F1 (.slice pa v.l.length c) v.l) from hS)
  have HRm : Hid (roomB v = true) := hroom
  have HF1 : Hid (∀ b, F1 b → b < w.heap.size) := hF0
  clear hB hl hF1 hwf hFl hS hroom hF0
  have e5 : stepc d 10 h on ab v (.slice pa v.l.length c) = #[.int .i64 d, .int .u8 10, .int .i64 h, .int .i64 on, .int .u8 ab, .int .u8 v.kind, .int .i64 v.n, .string v.s, .slice pa v.l.length c, .int .i64 v.r] := rfl
  rw [e5]
  clear e5
  go_enter Tryz.func16, Tryz.ntmps16
  go_upto_region 1 with fail
  revert H1
  simp only [stepc]
  generalize w.alloc _ = w1
  intro H1
  have hld1 := stepld_v (d := d) (k := 10) (h := h) (on := on) (ab := ab) H1.out.2.1
  go_wp2_with fail
  refine (room_T v (.slice pa v.l.length c) (HS.out.on H1.out.1)).mono ?_
  rintro e w2 ⟨raw', rfl, ⟨pr, nr, cr, rfl⟩, hb2, hq2⟩
  rw [HRm.out]
  obtain ⟨hsl, hsp⟩ := hq2 HRm.out
  have H2 : Hid (Below w.heap.size w w2 ∧ w2.heap[w.heap.size]? = some (.cells (stepc d 10 h on ab v (.slice pa v.l.length c)) 49 (0, 0)) ∧ SlAt w2 (fun b => w.heap.size + 1 ≤ b ∧ b < w2.heap.size) (.slice pr nr cr) v.l ∧ Sp w2 (fun b => w.heap.size + 1 ≤ b ∧ b < w2.heap.size) 42 (.slice pr nr cr) ∧ w.heap.size < w2.heap.size) :=
    ⟨H1.out.1.trans (hb2.mono H1.out.1.size), below_blk hb2 H1.out.2.1, (SlAt.lt hsl).mono fun b hb => ⟨by have := H1.out.2.2; omega, hb.2⟩, (Sp.lt hsp).mono fun b hb => ⟨by have := H1.out.2.2; omega, hb.2⟩, by have := H1.out.2.2; have := hb2.size; omega⟩
  clear hsl hsp hq2 hb2 hld1 H1 HRm
  have H3 : Hid (∀ w3, w3 = (w2.alloc (.cells zV 27)).setRow w2.heap.size (vcs v (.slice pr nr cr)) → Below w.heap.size w w3 ∧ Below w2.heap.size w2 w3 ∧ w3.heap[w2.heap.size]? = some (.cells (vcs v (.slice pr nr cr)) 27 (0, 0)) ∧ w3.heap.size = w2.heap.size + 1) := fun w3 e => by
    subst e
    have hb : Below w2.heap.size w2 ((w2.alloc (.cells zV 27)).setRow w2.heap.size (vcs v (.slice pr nr cr))) := Below.setRow ((Below.refl _ w2).alloc (Nat.le_refl _) _) (Nat.le_refl _) _
    exact ⟨H2.out.1.trans (hb.mono H2.out.1.size), hb, heap_setRow_at (blk_new _ _), by simp [World.setRow]⟩
  have hst7 := storeV_blk (c' := vcs v (.slice pr nr cr)) (blk_new w2 (.cells zV 27)) rfl rfl (by simp [go_sem, vcs])
  simp only [vcs, zV] at hst7 H3 ⊢
  go_upto_region 4 with fail
  clear hst7
  revert H3
  generalize hw3 : World.setRow _ _ _ = w3
  intro H3
  have H3 := (show Hid (Below w.heap.size w w3 ∧ Below w2.heap.size w2 w3 ∧ w3.heap[w2.heap.size]? = some (.cells (vcs v (.slice pr nr cr)) 27 (0, 0)) ∧ w3.heap.size = w2.heap.size + 1) from H3.out w3 rfl)
  clear hw3
  have hld3 := stepld_v (d := d) (k := 10) (h := h) (on := on) (ab := ab) (below_blk H3.out.2.1 H2.out.2.1)
  have hst12 := storeV_blk (c' := vcs v (.slice pa v.l.length c)) (blk_new w3 (.cells zV 27)) rfl rfl (by simp [go_sem, vcs])
  have H4a : Hid (∀ w4a, w4a = (w3.alloc (.cells zV 27)).setRow w3.heap.size (vcs v (.slice pa v.l.length c)) → Below w.heap.size w w4a ∧ MdW w.heap.size w2.heap.size d 10 h on ab v v (.slice pa v.l.length c) (.slice pr nr cr) (.slice pa v.l.length c) F1 w4a ∧ w2.heap.size ≤ w4a.heap.size) := fun w4a e => by
    subst e
    have hb : Below w3.heap.size w3 ((w3.alloc (.cells zV 27)).setRow w3.heap.size (vcs v (.slice pa v.l.length c))) := Below.setRow ((Below.refl _ w3).alloc (Nat.le_refl _) _) (Nat.le_refl _) _
    have hb2 := H3.out.2.1.trans (hb.mono H3.out.2.1.size)
    refine ⟨H3.out.1.trans (hb.mono H3.out.1.size), ⟨H2.out.2.2.2.2, below_blk hb2 H2.out.2.1, below_blk hb H3.out.2.2.1, ?_, H2.out.2.2.1.on hb2, H2.out.2.2.2.1.on hb2, HS.out.on (H2.out.1.trans (hb2.mono H2.out.1.size)), HS.out.on (H2.out.1.trans (hb2.mono H2.out.1.size))⟩, hb2.size⟩
    rw [← H3.out.2.2.2]
    exact heap_setRow_at (blk_new _ _)
  simp only [vcs, zV] at hst12 H4a hld3 ⊢
  go_upto_region 5 with fail
  clear hst12 hld3
  revert H4a
  generalize hw4 : World.setRow _ _ _ = w4a
  intro H4a
  have H4a := (show Hid (Below w.heap.size w w4a ∧ MdW w.heap.size w2.heap.size d 10 h on ab v v (.slice pa v.l.length c) (.slice pr nr cr) (.slice pa v.l.length c) F1 w4a ∧ w2.heap.size ≤ w4a.heap.size) from H4a.out w4a rfl)
  have hsz := H3.out.2.2.2
  rw [hsz]
  clear hw4 H2 H3 HS hsz
  generalize w2.heap.size = n7 at *
  have b5 := H4a.out.2.1.b5
  have k1 : w4a.cell? ⟨w.heap.size, 1, none⟩ = some (.int .u8 10) := by rw [cell_blk b5]; rfl
  have hst12b := storeV_blk (c' := zV) H4a.out.2.1.b12 rfl rfl (by simp [go_sem, zV])
  have H5 := (show Hid (∀ w4, w4 = w4a.setRow (n7 + 1) zV → Below w.heap.size w w4 ∧ MdW w.heap.size n7 d 10 h on ab v ⟨0, 0, ⟨#[]⟩, [], 0⟩ (.slice pa v.l.length c) (.slice pr nr cr) (.slice none 0 0) F1 w4 ∧ n7 ≤ w4.heap.size) from fun w4 e => by
    obtain ⟨h1, h2⟩ := H4a.out.2.1.zero HF1.out e
    exact ⟨H4a.out.1.trans h2, h1, Nat.le_trans H4a.out.2.2 h2.size⟩)
  clear b5
  simp only [zV] at hst12b H5
  go_upto_region 7 with fail
  clear hst12b k1
  revert H5
  generalize hw4 : World.setRow _ _ _ = w4
  intro H5
  have H4 := (show Hid (Below w.heap.size w w4 ∧ MdW w.heap.size n7 d 10 h on ab v ⟨0, 0, ⟨#[]⟩, [], 0⟩ (.slice pa v.l.length c) (.slice pr nr cr) (.slice none 0 0) F1 w4 ∧ n7 ≤ w4.heap.size) from H5.out w4 rfl)
  clear hw4 H5
  have HB4 := (show Hid (Both w4 p q M N F G) from HB.out.below H4.out.1)
  have hd := H4.out.2.1
  have hM := HB4.out.W.ok
  have hAdd : ∀ r u, (M.add (prT0 h)).at r = some u → u.kind = 11 → u.tgt ≠ M.last + 1 := fun r u hu hk => by
    rw [WM.add_at hM] at hu
    split at hu
    · cases hu
      exact absurd (show (10 : Int) = 11 from hk) (by decide)
    · have := HB4.out.kp r u hu hk
      omega
  have HC : Hid ((mayE M h ⟨0, 0, ⟨#[]⟩, [], 0⟩ ≠ 0 → Calls Tryz.prog 86 #[.pointer (some ⟨p, 0, none⟩), .int .i64 h] w4 fun e w' => e = .returned (.tuple #[.int .i64 0, .int .i64 0, .int .i64 (mayE M h ⟨0, 0, ⟨#[]⟩, [], 0⟩)]) ∧ Below w4.heap.size w4 w') ∧
      (mayE M h ⟨0, 0, ⟨#[]⟩, [], 0⟩ = 0 → ¬ M.made.getD h.toNat 0 + 2 ≤ 512 → Calls Tryz.prog 86 #[.pointer (some ⟨p, 0, none⟩), .int .i64 h] w4 fun e w' => e = .returned (.tuple #[.int .i64 0, .int .i64 0, .int .i64 8]) ∧ Below w4.heap.size w4 w') ∧
      (mayE M h ⟨0, 0, ⟨#[]⟩, [], 0⟩ = 0 → M.made.getD h.toNat 0 + 2 ≤ 512 → Calls Tryz.prog 86 #[.pointer (some ⟨p, 0, none⟩), .int .i64 h] w4 (PromQ w4 p M F h))) := by
    have hrng : ∀ h, 0 ≤ M.made.getD h 0 ∧ M.made.getD h 0 ≤ 512 := fun h => by
      rw [List.getD_eq_getElem?_getD]
      cases hg : M.made[h]? with
      | none => exact ⟨Int.le_refl _, by decide⟩
      | some y => exact hM.mades _ y hg
    refine ⟨fun h0 => Promise_no HB4.out.W h0, fun h0 hr => Promise_full HB4.out.W (mayE_zero h0).1 hr (hrng _).2, fun h0 hr => ?_⟩
    have hh := (mayE_zero h0).1
    refine Promise_G HB4.out.W (by have := HA.out.1; omega) hM.last.1 hh hr (hrng _).1 (WM.add_at_new hM _) rfl ?_ ?_ fun q u hu _ hk => hAdd q u hu hk
    · show (if (10 : Int) = 14 then M.made else M.made.set h.toNat (M.made.getD h.toNat 0 + 1)).length = _
      rw [if_neg (by decide), List.length_set]
    · show (if (10 : Int) = 14 then M.made else M.made.set h.toNat (M.made.getD h.toNat 0 + 1)).getD h.toNat 0 = _
      rw [if_neg (by decide)]
      have : h.toNat < M.made.length := by omega
      simp [List.getD_eq_getElem?_getD, this]
  have HM8 : Hid (∀ w', Keeps F w4 w' → Calls Tryz.prog 87 #[.pointer (some ⟨q, 0, none⟩), .int .u8 10, .int .i64 h, .agg #[.int .u8 0, .int .i64 0, .string ⟨#[]⟩, .slice none 0 0, .int .i64 0]] w' (Prom8 w' q N G h)) := fun w' hk => by
    have hR' := HB4.out.R.keeps hk fun b h1 h2 => HB4.out.ap b h2 h1
    have hg := HB4.out.good (by have := HA.out.1; omega)
    have hal := HB4.out.al
    have hlen := HB4.out.lenM
    have h1 := hal.things.1
    refine prom8_W hR' hg (by have := HA.out.1; omega) (by rw [hal.last]; have := HA.out.1; omega) ?_ fun x hx => ?_
    · show (N.things ++ [(N.last + 1, prT0 h)]).lookup (N.last + 1) = _
      rw [lookup_append']
      have h0 : M.at (N.last + 1) = none := by
        cases hz : M.at (N.last + 1) with
        | none => rfl
        | some u =>
          have := (hM.at_range hz).2
          rw [hal.last] at this
          omega
      have h2 : N.things.lookup (N.last + 1) = none := (lookup_like hal.things (N.last + 1)).1 h0
      rw [h2]
      simp
    · rcases List.mem_append.1 (show x ∈ N.things ++ [(N.last + 1, prT0 h)] from hx) with hx | hx
      · obtain ⟨y, hy, e1, vl, vals, e2⟩ := hal.things.mem' hx
        have hr := hM.range y hy
        refine ⟨by omega, fun hk => ?_⟩
        rw [e2] at hk ⊢
        have := HB4.out.kp y.1 y.2 (hM.at_of_mem hy) hk
        rw [hal.last]
        show y.2.tgt ≠ _
        omega
      · rw [List.mem_singleton.1 hx]
        exact ⟨by have := hg.last; show N.last + 1 ≠ 0; omega, fun hk => absurd (show (10 : Int) = 11 from hk) (by decide)⟩
  clear hAdd hM
  have hE : mayE N h ⟨0, 0, ⟨#[]⟩, [], 0⟩ = mayE M h ⟨0, 0, ⟨#[]⟩, [], 0⟩ := HB.out.al.mayE h ⟨0, 0, ⟨#[]⟩, [], 0⟩
  have hMd : N.made = M.made := HB.out.al.made
  have hLs : N.last = M.last := HB.out.al.last
  have HE := (show Hid (mayE N h ⟨0, 0, ⟨#[]⟩, [], 0⟩ = mayE M h ⟨0, 0, ⟨#[]⟩, [], 0⟩ ∧ N.made = M.made ∧ N.last = M.last) from ⟨hE, hMd, hLs⟩)
  clear hE hMd hLs hd
  have b5 := H4.out.2.1.b5
  have b7 := H4.out.2.1.b7
  have k1 : w4.cell? ⟨w.heap.size, 1, none⟩ = some (.int .u8 10) := by rw [cell_blk b5]; rfl
  have k2 : w4.cell? ⟨w.heap.size, 2, none⟩ = some (.int .i64 h) := by rw [cell_blk b5]; rfl
  have hl7 := loadV_blk b7 rfl
  clear b5 b7
  simp only [vcs] at HC HM8 hl7 ⊢
  go_wp2_with fail
  have HP : Hid (∀ (R : Ending → World → Prop), (∀ r5 k5 e5 w5, Keeps F w4 w5 → (∀ w6 r6 e6, Prom8 w5 q N G h (.returned (.tuple #[.int .i64 r6, .int .i64 e6])) w6 → r6 = r5 ∧ e6 = e5 ∧ Md2 w4 p q M N F G w6) → (∀ e6 w6, Prom8 w5 q N G h e6 w6 → ∃ r a, e6 = .returned (.tuple #[.int .i64 r, .int .i64 a])) → ((e5 ≠ 0 ∧ k5 = 0) ∨ (e5 = 0 ∧ k5 = r5 + 1 ∧ r5 ≤ 1000000 ∧ 0 ≤ r5)) → R (.returned (.tuple #[.int .i64 r5, .int .i64 k5, .int .i64 e5])) w5) → Calls Tryz.prog 86 #[.pointer (some ⟨p, 0, none⟩), .int .i64 h] w4 R) := fun R hR => by
    by_cases h0 : mayE M h ⟨0, 0, ⟨#[]⟩, [], 0⟩ = 0
    · by_cases hr : M.made.getD h.toNat 0 + 2 ≤ 512
      · refine (HC.out.2.2 h0 (by omega)).mono ?_
        rintro e w5 ⟨rfl, F', hW, hg⟩
        refine hR _ _ _ w5 hg.1 (fun w6 r6 e6 h8 => ?_) (fun e6 w6 h8 => prom8_form h8) (.inr ⟨rfl, rfl, by have := HA.out.1; omega, by have := HB.out.W.ok.last.1; omega⟩)
        rcases h8 with ⟨h8, -⟩ | ⟨-, h8, -⟩ | ⟨-, -, h8, G', h9, h10, h11⟩
        · exact absurd (HE.out.1.trans h0) h8
        · rw [HE.out.2.1] at h8
          exact absurd hr h8
        · rw [HE.out.2.2] at h8 h9
          obtain ⟨e1, e2⟩ := ret2_inj h8
          refine ⟨e1, e2, Md2.two HB4.out hW hg h9 h10 h11 fun t ht => ?_⟩
          rcases ht with rfl | rfl
          · exact ⟨by rw [thc_lt]; simp [go_sem], ⟨nilQ_may, fun x hx => (by cases hx), Nat.zero_le _⟩, ⟨nil_wf, nilL_wf⟩, fun hk => absurd (show (10 : Int) = 11 from hk) (by decide)⟩
          · exact ⟨by rw [thc_lt]; simp [go_sem], ⟨nilQ_may, fun x hx => (by cases hx), Nat.zero_le _⟩, ⟨nil_wf, nilL_wf⟩, fun _ => by show M.last + 1 ≤ M.last + 1 + 1; omega⟩
      · refine (HC.out.2.1 h0 (by omega)).mono ?_
        rintro e w5 ⟨rfl, hb⟩
        refine hR _ _ _ w5 (Keeps.of_below hb) (fun w6 r6 e6 h8 => ?_) (fun e6 w6 h8 => prom8_form h8) (.inl ⟨by decide, rfl⟩)
        rcases h8 with ⟨h8, -⟩ | ⟨-, -, h8, hb6⟩ | ⟨-, h8, -⟩
        · exact absurd (HE.out.1.trans h0) h8
        · obtain ⟨e1, e2⟩ := ret2_inj h8
          exact ⟨e1, e2, Md2.no HB4.out hb hb6⟩
        · rw [HE.out.2.1] at h8
          exact absurd h8 hr
    · refine (HC.out.1 (by first | exact h0 | simpa using h0)).mono ?_
      rintro e w5 ⟨rfl, hb⟩
      refine hR _ _ _ w5 (Keeps.of_below hb) (fun w6 r6 e6 h8 => ?_) (fun e6 w6 h8 => prom8_form h8) (.inl ⟨h0, rfl⟩)
      rcases h8 with ⟨-, h8, hb6⟩ | ⟨h8, -⟩ | ⟨h8, -⟩
      · rw [HE.out.1] at h8
        obtain ⟨e1, e2⟩ := ret2_inj h8
        exact ⟨e1, e2, Md2.no HB4.out hb hb6⟩
      · exact absurd (HE.out.1.symm.trans h8) h0
      · exact absurd (HE.out.1.symm.trans h8) h0
  refine HP.out _ fun r5 kp5 e5 w5 hk5 hm5 hf5 hz5 => ?_
  have H5 := (show Hid (Keeps F w4 w5 ∧ (∀ w6 r6 e6, Prom8 w5 q N G h (.returned (.tuple #[.int .i64 r6, .int .i64 e6])) w6 → r6 = r5 ∧ e6 = e5 ∧ Md2 w4 p q M N F G w6) ∧ ∀ e6 w6, Prom8 w5 q N G h e6 w6 → ∃ r a, e6 = .returned (.tuple #[.int .i64 r, .int .i64 a])) from ⟨hk5, hm5, hf5⟩)
  have HZ5 := (show Hid ((e5 ≠ 0 ∧ kp5 = 0) ∨ (e5 = 0 ∧ kp5 = r5 + 1 ∧ r5 ≤ 1000000 ∧ 0 ≤ r5)) from hz5)
  clear hz5
  have HX5 := (show Hid _ from H4.out.2.1.keeps hk5 (fun b hb => HA.out.2.2.2 b (.inl hb)) (fun b h1 h2 => (HA.out.2.1 b h2).1 h1))
  have b5 := HX5.out.b5
  have b12 := HX5.out.b12
  clear k1 k2 hl7 hk5 hm5 hf5 HP HC
  have k1 : w5.cell? ⟨w.heap.size, 1, none⟩ = some (.int .u8 10) := by rw [cell_blk b5]; rfl
  have k2 : w5.cell? ⟨w.heap.size, 2, none⟩ = some (.int .i64 h) := by rw [cell_blk b5]; rfl
  have hl12 := loadV_blk b12 rfl
  clear b5 b12
  simp only [vcs] at hl12
  go_wp2_with fail
  refine (HM8.out w5 H5.out.1).mono ?_
  intro e6 w6 h8
  obtain ⟨r6, a6, rfl⟩ := H5.out.2.2 e6 w6 h8
  have hk6 : Keeps G w5 w6 := prom8_keeps h8
  obtain ⟨rfl, rfl, hMd⟩ := H5.out.2.1 w6 r6 a6 h8
  have H6 := (show Hid (Md2 w4 p q M N F G w6) from hMd)
  have HX6 := (show Hid _ from HX5.out.keeps hk6 (fun b hb => HA.out.2.2.2 b (.inr hb)) (fun b h1 h2 => (HA.out.2.1 b h2).2 h1))
  clear hk6 hMd h8 H5 HX5 hl12 k1 k2 HM8
  have b7 := HX6.out.b7
  have hl7 := loadV_blk b7 rfl
  have hl5 := stepld_v HX6.out.b5
  clear b7
  have HPs : Hid (Calls Tryz.prog 88 #[.agg (vcs v (.slice pr nr cr)), .agg (vcs v (.slice pa v.l.length c))] w6 fun e w' => e = .returned (.bool true) ∧ Below w6.heap.size w6 w') := (psame_G v HA.out.2.2.1 v (.slice pr nr cr) (.slice pa v.l.length c) w6 _ _ HX6.out.sl HX6.out.sv).mono fun e w' ⟨B, h1, h2, h3⟩ => by
    rw [h2.2 rfl] at h1
    exact ⟨h1, h3⟩
  simp only [vcs] at hl7 hl5 HPs
  go_wp2_with fail
  refine Calls.mono HPs.out ?_
  rintro e w7 ⟨rfl, hb7⟩
  have H7 := (show Hid (Below w6.heap.size w6 w7) from hb7)
  have HX7 := (show Hid _ from HX6.out.below hb7)
  clear hb7 HX6 hl7 hl5 HPs
  have b7 := HX7.out.b7
  have hl7 := loadV_blk b7 rfl
  clear b7
  simp only [vcs] at hl7
  go_wp2_with fail
  refine (spoil_G 42 v.kind v.n v.r v.s (.slice pr nr cr) w7 (fun b => w.heap.size + 1 ≤ b ∧ b < n7) (fun b hb => by have := blk_lt HX7.out.b7; have := hb.2; omega) HX7.out.sp).mono ?_
  rintro e w8 ⟨rfl, hk8, -⟩
  have HF : Hid (MadeL8 w p q M F G (.returned (.bool true)) w8) := Md2.done rfl H4.out.1 H6.out HA.out.2.2.2 H4.out.2.2 H7.out hk8
  have k1 : w8.cell? ⟨w.heap.size, 1, none⟩ = some (.int .u8 10) := by rw [cell_blk (hk8.none HX7.out.b5 (fun e => by have := e.1; omega))]; rfl
  clear hk8 hl7 HX7 H7 H6
  rcases HZ5.out with ⟨hz1, rfl⟩ | ⟨rfl, rfl, hz2, hz3⟩
  · have hzb : (a6 == 0) = false := by simpa using hz1
    have hzn : ¬ a6 = 0 := hz1
    clear hz1 HZ5
    go_wp2_with fail
    go_ret
    exact HF.out
  · have hzw : wrap64 (r6 + 1) = r6 + 1 := by unfold wrap64; omega
    clear hz2 hz3 HZ5
    go_wp2_with fail
    go_ret
    exact HF.out
end Go.Proofs.YthaliljaglldjaaGreat
/- The document's SameWhat and Same at what is zero: yes. -/
namespace Go.Proofs.YthaliljaglldjaaGreat
open Go.RowKit Go.ChangeMaps Go.MapKept
set_option maxRecDepth 8000 in
theorem sameCode07_nil (w : World) : Calls Tryz.prog 205 #[.slice none 0 0, .slice none 0 0] w fun e w' => e = .returned (.bool true) ∧ Below w.heap.size w w' := by
  go_enter Tryz.func205, Tryz.ntmps205
  go_wp2_with fail
  go_loopw [5] (fun vi wr => vi = .int .i64 0 ∧ wr = w) (fun _ _ => 0)
  case atStart => exact ⟨rfl, rfl⟩
  case round =>
    obtain ⟨rfl, rfl⟩ := hrel
    go_wp2_with fail
    go_ret
    exact ⟨rfl, Below.refl _ _⟩
end Go.Proofs.YthaliljaglldjaaGreat
/- posternref07's SameWhat and Same at alike things, alike worlds: yes. -/
namespace Go.Proofs.YthaliljaglldjaaGreat
open Go.RowKit Go.ChangeMaps Go.MapKept
theorem same4_yes {w : World} {F1 F2 : Nat → Prop} {v : Val} (h : v.wf) {r1 r2 : Value} (h1 : SlAt w F1 r1 v.l) (h2 : SlAt w F2 r2 v.l) : Calls Tryz.prog 178 #[.agg (vcs v r1), .agg (vcs v r2)] w fun e w' => e = .returned (.bool true) ∧ Below w.heap.size w w' := by
  refine (same4_G v h v r1 r2 w F1 F2 h1 h2).mono ?_
  rintro e w' ⟨B, rfl, hB, hb⟩
  rw [hB.2 rfl]
  exact ⟨rfl, hb⟩
theorem execOp_ldSwP20 (ρ : Operand → Value) (ty : TypeId) (pos : String) (af : Array Edge) (g : Option (Nat × Bool)) :
    execOp ρ { dst := some 20, op := .load 27 (.tmp 19), type := ty, pos := pos, after := af, guard := g } = ldV (ρ (.tmp 19)) := rfl
theorem execOp_ldSwP22 (ρ : Operand → Value) (ty : TypeId) (pos : String) (af : Array Edge) (g : Option (Nat × Bool)) :
    execOp ρ { dst := some 22, op := .load 27 (.tmp 21), type := ty, pos := pos, after := af, guard := g } = ldV (ρ (.tmp 21)) := rfl
def SwP (B0 : Nat) (k h vk vn vr n lo tg bi s : Int) (vstr : ByteArray) (fu : Bool) (rc rl rg r7 : Value) (j : Nat) (v : Value) (_ : World) : Prop :=
  match j with
  | 0 => v = .pointer (some ⟨B0, 0, none⟩)
  | 1 => v = .int .u8 k
  | 2 => v = .pointer (some ⟨B0 + 1, 0, none⟩)
  | 3 => v = .int .u8 k
  | 4 => v = .bool false
  | 5 => v = .bool false
  | 6 => v = .pointer (some ⟨B0, 1, none⟩)
  | 7 => v = .int .i64 h
  | 8 => v = .pointer (some ⟨B0 + 1, 1, none⟩)
  | 9 => v = .int .i64 h
  | 10 => v = .bool false
  | 11 => v = .bool false
  | 12 => v = .bool false
  | 13 => v = .pointer (some ⟨B0, 2, none⟩)
  | 14 => v = .agg #[.int .u8 vk, .int .i64 vn, .string vstr, rc, .int .i64 vr]
  | 15 => v = .pointer (some ⟨B0 + 1, 2, none⟩)
  | 16 => v = .agg #[.int .u8 vk, .int .i64 vn, .string vstr, rl, .int .i64 vr]
  | 17 => v = .bool true
  | 18 => v = .bool false
  | 19 => v = .bool false
  | 20 => v = .bool false
  | 21 => v = .pointer (some ⟨B0, 7, none⟩)
  | 22 => v = rg
  | 23 => v = .agg #[.int .u8 3, .int .i64 0, .string ⟨#[]⟩, rg, .int .i64 0]
  | 24 => v = .pointer (some ⟨B0 + 1, 7, none⟩)
  | 25 => v = r7
  | 26 => v = .agg #[.int .u8 3, .int .i64 0, .string ⟨#[]⟩, r7, .int .i64 0]
  | 27 => v = .bool true
  | 28 => v = .bool false
  | 29 => v = .bool false
  | 30 => v = .bool false
  | 31 => v = .pointer (some ⟨B0, 8, none⟩)
  | 32 => v = .int .i64 n
  | 33 => v = .pointer (some ⟨B0 + 1, 8, none⟩)
  | 34 => v = .int .i64 n
  | 35 => v = .bool false
  | 36 => v = .bool false
  | 37 => v = .bool false
  | 38 => v = .pointer (some ⟨B0, 9, none⟩)
  | 39 => v = .int .i64 lo
  | 40 => v = .pointer (some ⟨B0 + 1, 9, none⟩)
  | 41 => v = .int .i64 lo
  | 42 => v = .bool false
  | 43 => v = .bool false
  | 44 => v = .bool false
  | 45 => v = .pointer (some ⟨B0, 10, none⟩)
  | 46 => v = .int .i64 tg
  | 47 => v = .pointer (some ⟨B0 + 1, 10, none⟩)
  | 48 => v = .int .i64 tg
  | 49 => v = .bool false
  | 50 => v = .bool false
  | 51 => v = .bool false
  | 52 => v = .pointer (some ⟨B0, 11, none⟩)
  | 53 => v = .int .i64 bi
  | 54 => v = .pointer (some ⟨B0 + 1, 11, none⟩)
  | 55 => v = .int .i64 bi
  | 56 => v = .bool false
  | 57 => v = .bool false
  | 58 => v = .bool false
  | 59 => v = .pointer (some ⟨B0, 12, none⟩)
  | 60 => v = .int .u8 s
  | 61 => v = .pointer (some ⟨B0 + 1, 12, none⟩)
  | 62 => v = .int .u8 s
  | 63 => v = .bool false
  | 64 => v = .bool false
  | 65 => v = .bool false
  | 66 => v = .pointer (some ⟨B0, 13, none⟩)
  | 67 => v = .bool fu
  | 68 => v = .pointer (some ⟨B0 + 1, 13, none⟩)
  | 69 => v = .bool fu
  | 70 => v = .bool false
  | 71 => v = .bool false
  | 72 => v = .bool false
  | 73 => v = .pointer (some ⟨B0, 15, none⟩)
  | 74 => v = .slice none 0 0
  | 75 => v = .int .i64 0
  | 76 => v = .pointer (some ⟨B0 + 1, 15, none⟩)
  | 77 => v = .slice none 0 0
  | 78 => v = .int .i64 0
  | 79 => v = .bool false
  | _ => True
set_option maxHeartbeats 20000000 in
set_option maxRecDepth 20000 in
theorem sameWhat7_W {w : World} {F1 F2 : Nat → Prop} (t : Th) (vl2 vals2 : Value) (h1 : SlAt w F1 t.vl t.v.l) (h2 : SlAt w F1 t.vals t.vs) (h3 : SlAt w F2 vl2 t.v.l) (h4 : SlAt w F2 vals2 t.vs) (hwf : t.v.wf) (hwfs : (listV t.vs).wf) (hc : t.code = .slice none 0 0) (hn : t.names = .slice none 0 0) :
    Calls Tryz.prog 110 #[.agg (thc t), .agg (thc { t with vl := vl2, vals := vals2 })] w fun e w' => e = .returned (.bool true) ∧ Below w.heap.size w w' := by
  have HS1 : Hid (∀ w', Below w.heap.size w w' → Calls Tryz.prog 178 #[.agg (vcs t.v t.vl), .agg (vcs t.v vl2)] w' fun e w'' => e = .returned (.bool true) ∧ Below w'.heap.size w' w'') := fun w' hb => same4_yes hwf (h1.on hb) (h3.on hb)
  have HS2 : Hid (∀ w', Below w.heap.size w w' → Calls Tryz.prog 178 #[.agg (vcs (listV t.vs) t.vals), .agg (vcs (listV t.vs) vals2)] w' fun e w'' => e = .returned (.bool true) ∧ Below w'.heap.size w' w'') := fun w' hb => same4_yes hwfs (h2.on hb) (h4.on hb)
  obtain ⟨k, h, ⟨vk, vn, vstr, vl, vr⟩, raw, vs, vals, n, lo, tg, bi, s, fu, code, names⟩ := t
  obtain ⟨pv, cv, hv⟩ := h1.form
  obtain ⟨ps, cs, hvals⟩ := h2.form
  obtain ⟨pv2, cv2, hv2⟩ := h3.form
  obtain ⟨ps2, cs2, hvals2⟩ := h4.form
  simp only at hv hvals hc hn hv2 hvals2
  subst hv hvals hc hn hv2 hvals2
  simp only [vcs, listV, thc] at HS1 HS2 ⊢
  clear h1 h2 h3 h4 hwf hwfs
  have HT : Hid (∀ w2, w2 = ((w.alloc (.cells #[.int .u8 k, .int .i64 h, .int .u8 vk, .int .i64 vn, .string vstr, .slice pv vl.length cv, .int .i64 vr, .slice ps vs.length cs, .int .i64 n, .int .i64 lo, .int .i64 tg, .int .i64 bi, .int .u8 s, .bool fu, .slice none 0 0, .slice none 0 0] 46)).alloc (.cells #[.int .u8 k, .int .i64 h, .int .u8 vk, .int .i64 vn, .string vstr, .slice pv2 vl.length cv2, .int .i64 vr, .slice ps2 vs.length cs2, .int .i64 n, .int .i64 lo, .int .i64 tg, .int .i64 bi, .int .u8 s, .bool fu, .slice none 0 0, .slice none 0 0] 46)) → Below w.heap.size w w2 ∧
      w2.heap[w.heap.size]? = some (.cells #[.int .u8 k, .int .i64 h, .int .u8 vk, .int .i64 vn, .string vstr, .slice pv vl.length cv, .int .i64 vr, .slice ps vs.length cs, .int .i64 n, .int .i64 lo, .int .i64 tg, .int .i64 bi, .int .u8 s, .bool fu, .slice none 0 0, .slice none 0 0] 46 (0, 0)) ∧
      w2.heap[w.heap.size + 1]? = some (.cells #[.int .u8 k, .int .i64 h, .int .u8 vk, .int .i64 vn, .string vstr, .slice pv2 vl.length cv2, .int .i64 vr, .slice ps2 vs.length cs2, .int .i64 n, .int .i64 lo, .int .i64 tg, .int .i64 bi, .int .u8 s, .bool fu, .slice none 0 0, .slice none 0 0] 46 (0, 0))) := fun w2 e => by
    subst e
    exact ⟨((Below.refl _ w).alloc (Nat.le_refl _) _).alloc (by simp) _, blk2_old w _ _, blk2_new w _ _⟩
  go_enter Tryz.func110, Tryz.ntmps110
  go_upto_region 1 with fail
  revert HT
  generalize ((w.alloc _).alloc _) = w2
  intro HT
  have HT := (show Hid (_ ∧ _ ∧ _) from HT.out w2 rfl)
  have HB2 := (show Hid (∀ w', Below w2.heap.size w2 w' → Below w.heap.size w w') from fun w' hb => HT.out.1.trans (hb.mono HT.out.1.size))
  obtain ⟨B0, hB0⟩ : ∃ B0, B0 = w.heap.size := ⟨_, rfl⟩
  have HBx := HT.out.2
  rw [← hB0] at HBx ⊢
  have HBx := (show Hid (_ ∧ _) from HBx)
  clear hB0
  refine wp_region_growK 80 (by kernel_rfl) rfl (by kernel_rfl) (by kernel_rfl) (fun a b => Below a.heap.size a b) (SwP B0 k h vk vn vr n lo tg bi s vstr fu (.slice pv vl.length cv) (.slice pv2 vl.length cv2) (.slice ps vs.length cs) (.slice ps2 vs.length cs2)) (fun w' => Below w2.heap.size w2 w') (fun j v w w' _ h => h) below_drew (fun a b h hR => h.trans (hR.mono h.size)) ?_ ?_ ?_
  · intro j q g b hq hgd
    have hj : j < 80 := (List.getElem?_eq_some_iff.1 hq).1
    match j, hj with
    | 0, _ => cases hq; cases hgd
    | 1, _ => cases hq; cases hgd
    | 2, _ => cases hq; cases hgd
    | 3, _ => cases hq; cases hgd
    | 4, _ => cases hq; cases hgd
    | 5, _ => cases hq; cases hgd
    | 6, _ => cases hq; cases hgd; exact fun v w h => h
    | 7, _ => cases hq; cases hgd; exact fun v w h => h
    | 8, _ => cases hq; cases hgd; exact fun v w h => h
    | 9, _ => cases hq; cases hgd; exact fun v w h => h
    | 10, _ => cases hq; cases hgd; exact fun v w h => h
    | 11, _ => cases hq; cases hgd
    | 12, _ => cases hq; cases hgd
    | 13, _ => cases hq; cases hgd; exact fun v w h => h
    | 14, _ => cases hq; cases hgd; exact fun v w h => h
    | 15, _ => cases hq; cases hgd; exact fun v w h => h
    | 16, _ => cases hq; cases hgd; exact fun v w h => h
    | 17, _ => cases hq; cases hgd; exact fun v w h => h
    | 18, _ => cases hq; cases hgd; exact fun v w h => h
    | 19, _ => cases hq; cases hgd
    | 20, _ => cases hq; cases hgd
    | 21, _ => cases hq; cases hgd; exact fun v w h => h
    | 22, _ => cases hq; cases hgd; exact fun v w h => h
    | 23, _ => cases hq; cases hgd; exact fun v w h => h
    | 24, _ => cases hq; cases hgd; exact fun v w h => h
    | 25, _ => cases hq; cases hgd; exact fun v w h => h
    | 26, _ => cases hq; cases hgd; exact fun v w h => h
    | 27, _ => cases hq; cases hgd; exact fun v w h => h
    | 28, _ => cases hq; cases hgd; exact fun v w h => h
    | 29, _ => cases hq; cases hgd
    | 30, _ => cases hq; cases hgd
    | 31, _ => cases hq; cases hgd; exact fun v w h => h
    | 32, _ => cases hq; cases hgd; exact fun v w h => h
    | 33, _ => cases hq; cases hgd; exact fun v w h => h
    | 34, _ => cases hq; cases hgd; exact fun v w h => h
    | 35, _ => cases hq; cases hgd; exact fun v w h => h
    | 36, _ => cases hq; cases hgd
    | 37, _ => cases hq; cases hgd
    | 38, _ => cases hq; cases hgd; exact fun v w h => h
    | 39, _ => cases hq; cases hgd; exact fun v w h => h
    | 40, _ => cases hq; cases hgd; exact fun v w h => h
    | 41, _ => cases hq; cases hgd; exact fun v w h => h
    | 42, _ => cases hq; cases hgd; exact fun v w h => h
    | 43, _ => cases hq; cases hgd
    | 44, _ => cases hq; cases hgd
    | 45, _ => cases hq; cases hgd; exact fun v w h => h
    | 46, _ => cases hq; cases hgd; exact fun v w h => h
    | 47, _ => cases hq; cases hgd; exact fun v w h => h
    | 48, _ => cases hq; cases hgd; exact fun v w h => h
    | 49, _ => cases hq; cases hgd; exact fun v w h => h
    | 50, _ => cases hq; cases hgd
    | 51, _ => cases hq; cases hgd
    | 52, _ => cases hq; cases hgd; exact fun v w h => h
    | 53, _ => cases hq; cases hgd; exact fun v w h => h
    | 54, _ => cases hq; cases hgd; exact fun v w h => h
    | 55, _ => cases hq; cases hgd; exact fun v w h => h
    | 56, _ => cases hq; cases hgd; exact fun v w h => h
    | 57, _ => cases hq; cases hgd
    | 58, _ => cases hq; cases hgd
    | 59, _ => cases hq; cases hgd; exact fun v w h => h
    | 60, _ => cases hq; cases hgd; exact fun v w h => h
    | 61, _ => cases hq; cases hgd; exact fun v w h => h
    | 62, _ => cases hq; cases hgd; exact fun v w h => h
    | 63, _ => cases hq; cases hgd; exact fun v w h => h
    | 64, _ => cases hq; cases hgd
    | 65, _ => cases hq; cases hgd
    | 66, _ => cases hq; cases hgd; exact fun v w h => h
    | 67, _ => cases hq; cases hgd; exact fun v w h => h
    | 68, _ => cases hq; cases hgd; exact fun v w h => h
    | 69, _ => cases hq; cases hgd; exact fun v w h => h
    | 70, _ => cases hq; cases hgd; exact fun v w h => h
    | 71, _ => cases hq; cases hgd
    | 72, _ => cases hq; cases hgd
    | 73, _ => cases hq; cases hgd; exact fun v w h => h
    | 74, _ => cases hq; cases hgd; exact fun v w h => h
    | 75, _ => cases hq; cases hgd; exact fun v w h => h
    | 76, _ => cases hq; cases hgd; exact fun v w h => h
    | 77, _ => cases hq; cases hgd; exact fun v w h => h
    | 78, _ => cases hq; cases hgd; exact fun v w h => h
    | 79, _ => cases hq; cases hgd; exact fun v w h => h
  · intro j q a w7 hq hC hG
    have hj : j < 80 := (List.getElem?_eq_some_iff.1 hq).1
    match j, hj with
    | 0, _ => cases hq; have h2' : a.tmps[2]?.getD undef = .pointer (some ⟨B0, 0, none⟩) := gq (hG.fr 2 (by simp)); unfold Oper.wp; simp [go_sem, Act.eval, h2']; exact ⟨_, rfl, Below.refl _ _, rfl⟩
    | 1, _ =>
      cases hq
      have h6' : a.tmps[6]?.getD undef = .pointer (some ⟨B0, 0, none⟩) := gq (hG.dep ⟨0, .data⟩ (by simp) rfl _ rfl)
      have c3 : w7.cell? ⟨B0, 0, none⟩ = some (.int .u8 k) := by rw [cell_blk (below_blk hC HBx.out.1)]; rfl
      unfold Oper.wp
      simp [go_sem, Act.eval, h6', c3]
      exact ⟨_, rfl, Below.refl _ _, rfl⟩
    | 2, _ => cases hq; have h3' : a.tmps[3]?.getD undef = .pointer (some ⟨B0 + 1, 0, none⟩) := gq (hG.fr 3 (by simp)); unfold Oper.wp; simp [go_sem, Act.eval, h3']; exact ⟨_, rfl, Below.refl _ _, rfl⟩
    | 3, _ =>
      cases hq
      have h8' : a.tmps[8]?.getD undef = .pointer (some ⟨B0 + 1, 0, none⟩) := gq (hG.dep ⟨2, .data⟩ (by simp) rfl _ rfl)
      have c3 : w7.cell? ⟨B0 + 1, 0, none⟩ = some (.int .u8 k) := by rw [cell_blk (below_blk hC HBx.out.2)]; rfl
      unfold Oper.wp
      simp [go_sem, Act.eval, h8', c3]
      exact ⟨_, rfl, Below.refl _ _, rfl⟩
    | 4, _ => cases hq; have h7' : a.tmps[7]?.getD undef = .int .u8 k := gq (hG.dep ⟨1, .data⟩ (by simp) rfl _ rfl); have h9' : a.tmps[9]?.getD undef = .int .u8 k := gq (hG.dep ⟨3, .data⟩ (by simp) rfl _ rfl); unfold Oper.wp; simp [go_sem, Act.eval, h7', h9']; exact ⟨_, rfl, Below.refl _ _, rfl⟩
    | 5, _ => cases hq; have h10' : a.tmps[10]?.getD undef = .bool false := gq (hG.dep ⟨4, .data⟩ (by simp) rfl _ rfl); unfold Oper.wp; simp [go_sem, Act.eval, h10']; exact ⟨_, rfl, Below.refl _ _, rfl⟩
    | 6, _ => cases hq; have h2' : a.tmps[2]?.getD undef = .pointer (some ⟨B0, 0, none⟩) := gq (hG.fr 2 (by simp)); unfold Oper.wp; simp [go_sem, Act.eval, h2']; exact ⟨_, rfl, Below.refl _ _, rfl⟩
    | 7, _ =>
      cases hq
      have h12' : a.tmps[12]?.getD undef = .pointer (some ⟨B0, 1, none⟩) := gq (hG.dep ⟨6, .data⟩ (by simp) rfl _ rfl)
      have c3 : w7.cell? ⟨B0, 1, none⟩ = some (.int .i64 h) := by rw [cell_blk (below_blk hC HBx.out.1)]; rfl
      unfold Oper.wp
      simp [go_sem, Act.eval, h12', c3]
      exact ⟨_, rfl, Below.refl _ _, rfl⟩
    | 8, _ => cases hq; have h3' : a.tmps[3]?.getD undef = .pointer (some ⟨B0 + 1, 0, none⟩) := gq (hG.fr 3 (by simp)); unfold Oper.wp; simp [go_sem, Act.eval, h3']; exact ⟨_, rfl, Below.refl _ _, rfl⟩
    | 9, _ =>
      cases hq
      have h14' : a.tmps[14]?.getD undef = .pointer (some ⟨B0 + 1, 1, none⟩) := gq (hG.dep ⟨8, .data⟩ (by simp) rfl _ rfl)
      have c3 : w7.cell? ⟨B0 + 1, 1, none⟩ = some (.int .i64 h) := by rw [cell_blk (below_blk hC HBx.out.2)]; rfl
      unfold Oper.wp
      simp [go_sem, Act.eval, h14', c3]
      exact ⟨_, rfl, Below.refl _ _, rfl⟩
    | 10, _ => cases hq; have h13' : a.tmps[13]?.getD undef = .int .i64 h := gq (hG.dep ⟨7, .data⟩ (by simp) rfl _ rfl); have h15' : a.tmps[15]?.getD undef = .int .i64 h := gq (hG.dep ⟨9, .data⟩ (by simp) rfl _ rfl); unfold Oper.wp; simp [go_sem, Act.eval, h13', h15']; exact ⟨_, rfl, Below.refl _ _, rfl⟩
    | 11, _ => cases hq; have h11' : a.tmps[11]?.getD undef = .bool false := gq (hG.dep ⟨5, .data⟩ (by simp) rfl _ rfl); have h16' : a.tmps[16]?.getD undef = .bool false := gq (hG.dep ⟨10, .data⟩ (by simp) rfl _ rfl); unfold Oper.wp; simp [go_sem, Act.eval, h11', h16']; exact ⟨_, rfl, Below.refl _ _, rfl⟩
    | 12, _ => cases hq; have h17' : a.tmps[17]?.getD undef = .bool false := gq (hG.dep ⟨11, .data⟩ (by simp) rfl _ rfl); unfold Oper.wp; simp [go_sem, Act.eval, h17']; exact ⟨_, rfl, Below.refl _ _, rfl⟩
    | 13, _ => cases hq; have h2' : a.tmps[2]?.getD undef = .pointer (some ⟨B0, 0, none⟩) := gq (hG.fr 2 (by simp)); unfold Oper.wp; simp [go_sem, Act.eval, h2']; exact ⟨_, rfl, Below.refl _ _, rfl⟩
    | 14, _ =>
      cases hq
      have h19 : a.tmps.getD 19 undef = .pointer (some ⟨B0, 2, none⟩) := hG.dep ⟨13, .data⟩ (by simp) rfl _ rfl
      refine step_g (.agg #[.int .u8 vk, .int .i64 vn, .string vstr, (.slice pv vl.length cv), .int .i64 vr]) ?_ (Below.refl _ _) rfl
      rw [execOp_ldSwP20]
      show (ldV (a.tmps.getD 19 undef)).run _ _ = _
      rw [h19]
      exact ld_what_v (t := ⟨k, h, ⟨vk, vn, vstr, vl, vr⟩, (.slice pv vl.length cv), vs, (.slice ps vs.length cs), n, lo, tg, bi, s, fu, .slice none 0 0, .slice none 0 0⟩) (below_blk hC HBx.out.1)
    | 15, _ => cases hq; have h3' : a.tmps[3]?.getD undef = .pointer (some ⟨B0 + 1, 0, none⟩) := gq (hG.fr 3 (by simp)); unfold Oper.wp; simp [go_sem, Act.eval, h3']; exact ⟨_, rfl, Below.refl _ _, rfl⟩
    | 16, _ =>
      cases hq
      have h21 : a.tmps.getD 21 undef = .pointer (some ⟨B0 + 1, 2, none⟩) := hG.dep ⟨15, .data⟩ (by simp) rfl _ rfl
      refine step_g (.agg #[.int .u8 vk, .int .i64 vn, .string vstr, (.slice pv2 vl.length cv2), .int .i64 vr]) ?_ (Below.refl _ _) rfl
      rw [execOp_ldSwP22]
      show (ldV (a.tmps.getD 21 undef)).run _ _ = _
      rw [h21]
      exact ld_what_v (t := ⟨k, h, ⟨vk, vn, vstr, vl, vr⟩, (.slice pv2 vl.length cv2), vs, (.slice ps2 vs.length cs2), n, lo, tg, bi, s, fu, .slice none 0 0, .slice none 0 0⟩) (below_blk hC HBx.out.2)
    | 17, _ =>
      cases hq
      have h20' : a.tmps[20]?.getD undef = .agg #[.int .u8 vk, .int .i64 vn, .string vstr, (.slice pv vl.length cv), .int .i64 vr] := gq (hG.dep ⟨14, .data⟩ (by simp) rfl _ rfl)
      have h22' : a.tmps[22]?.getD undef = .agg #[.int .u8 vk, .int .i64 vn, .string vstr, (.slice pv2 vl.length cv2), .int .i64 vr] := gq (hG.dep ⟨16, .data⟩ (by simp) rfl _ rfl)
      unfold Oper.wp
      simp [go_sem, callFunc, Act.eval, Tryz.func178, h20', h22']
      refine Calls.mono (HS1.out w7 (HB2.out w7 hC)) ?_
      rintro e w8 ⟨rfl, hb8⟩
      exact ⟨_, rfl, hb8, rfl⟩
    | 18, _ => cases hq; have h23' : a.tmps[23]?.getD undef = .bool true := gq (hG.dep ⟨17, .data⟩ (by simp) rfl _ rfl); unfold Oper.wp; simp [go_sem, Act.eval, h23']; exact ⟨_, rfl, Below.refl _ _, rfl⟩
    | 19, _ => cases hq; have h18' : a.tmps[18]?.getD undef = .bool false := gq (hG.dep ⟨12, .data⟩ (by simp) rfl _ rfl); have h24' : a.tmps[24]?.getD undef = .bool false := gq (hG.dep ⟨18, .data⟩ (by simp) rfl _ rfl); unfold Oper.wp; simp [go_sem, Act.eval, h18', h24']; exact ⟨_, rfl, Below.refl _ _, rfl⟩
    | 20, _ => cases hq; have h25' : a.tmps[25]?.getD undef = .bool false := gq (hG.dep ⟨19, .data⟩ (by simp) rfl _ rfl); unfold Oper.wp; simp [go_sem, Act.eval, h25']; exact ⟨_, rfl, Below.refl _ _, rfl⟩
    | 21, _ => cases hq; have h2' : a.tmps[2]?.getD undef = .pointer (some ⟨B0, 0, none⟩) := gq (hG.fr 2 (by simp)); unfold Oper.wp; simp [go_sem, Act.eval, h2']; exact ⟨_, rfl, Below.refl _ _, rfl⟩
    | 22, _ =>
      cases hq
      have h27' : a.tmps[27]?.getD undef = .pointer (some ⟨B0, 7, none⟩) := gq (hG.dep ⟨21, .data⟩ (by simp) rfl _ rfl)
      have c3 : w7.cell? ⟨B0, 7, none⟩ = some ((.slice ps vs.length cs)) := by rw [cell_blk (below_blk hC HBx.out.1)]; rfl
      unfold Oper.wp
      simp [go_sem, Act.eval, h27', c3]
      exact ⟨_, rfl, Below.refl _ _, rfl⟩
    | 23, _ =>
      cases hq
      have h28' : a.tmps[28]?.getD undef = (.slice ps vs.length cs) := gq (hG.dep ⟨22, .data⟩ (by simp) rfl _ rfl)
      unfold Oper.wp
      simp [go_sem, callFunc, Act.eval, Tryz.func175, h28']
      refine Calls.mono (list7_W w7 _ _ _) ?_
      rintro e w8 ⟨rfl, hb8⟩
      exact ⟨_, rfl, hb8, rfl⟩
    | 24, _ => cases hq; have h3' : a.tmps[3]?.getD undef = .pointer (some ⟨B0 + 1, 0, none⟩) := gq (hG.fr 3 (by simp)); unfold Oper.wp; simp [go_sem, Act.eval, h3']; exact ⟨_, rfl, Below.refl _ _, rfl⟩
    | 25, _ =>
      cases hq
      have h30' : a.tmps[30]?.getD undef = .pointer (some ⟨B0 + 1, 7, none⟩) := gq (hG.dep ⟨24, .data⟩ (by simp) rfl _ rfl)
      have c3 : w7.cell? ⟨B0 + 1, 7, none⟩ = some ((.slice ps2 vs.length cs2)) := by rw [cell_blk (below_blk hC HBx.out.2)]; rfl
      unfold Oper.wp
      simp [go_sem, Act.eval, h30', c3]
      exact ⟨_, rfl, Below.refl _ _, rfl⟩
    | 26, _ =>
      cases hq
      have h31' : a.tmps[31]?.getD undef = (.slice ps2 vs.length cs2) := gq (hG.dep ⟨25, .data⟩ (by simp) rfl _ rfl)
      unfold Oper.wp
      simp [go_sem, callFunc, Act.eval, Tryz.func175, h31']
      refine Calls.mono (list7_W w7 _ _ _) ?_
      rintro e w8 ⟨rfl, hb8⟩
      exact ⟨_, rfl, hb8, rfl⟩
    | 27, _ =>
      cases hq
      have h29' : a.tmps[29]?.getD undef = .agg #[.int .u8 3, .int .i64 0, .string ⟨#[]⟩, (.slice ps vs.length cs), .int .i64 0] := gq (hG.dep ⟨23, .data⟩ (by simp) rfl _ rfl)
      have h32' : a.tmps[32]?.getD undef = .agg #[.int .u8 3, .int .i64 0, .string ⟨#[]⟩, (.slice ps2 vs.length cs2), .int .i64 0] := gq (hG.dep ⟨26, .data⟩ (by simp) rfl _ rfl)
      unfold Oper.wp
      simp [go_sem, callFunc, Act.eval, Tryz.func178, h29', h32']
      refine Calls.mono (HS2.out w7 (HB2.out w7 hC)) ?_
      rintro e w8 ⟨rfl, hb8⟩
      exact ⟨_, rfl, hb8, rfl⟩
    | 28, _ => cases hq; have h33' : a.tmps[33]?.getD undef = .bool true := gq (hG.dep ⟨27, .data⟩ (by simp) rfl _ rfl); unfold Oper.wp; simp [go_sem, Act.eval, h33']; exact ⟨_, rfl, Below.refl _ _, rfl⟩
    | 29, _ => cases hq; have h26' : a.tmps[26]?.getD undef = .bool false := gq (hG.dep ⟨20, .data⟩ (by simp) rfl _ rfl); have h34' : a.tmps[34]?.getD undef = .bool false := gq (hG.dep ⟨28, .data⟩ (by simp) rfl _ rfl); unfold Oper.wp; simp [go_sem, Act.eval, h26', h34']; exact ⟨_, rfl, Below.refl _ _, rfl⟩
    | 30, _ => cases hq; have h35' : a.tmps[35]?.getD undef = .bool false := gq (hG.dep ⟨29, .data⟩ (by simp) rfl _ rfl); unfold Oper.wp; simp [go_sem, Act.eval, h35']; exact ⟨_, rfl, Below.refl _ _, rfl⟩
    | 31, _ => cases hq; have h2' : a.tmps[2]?.getD undef = .pointer (some ⟨B0, 0, none⟩) := gq (hG.fr 2 (by simp)); unfold Oper.wp; simp [go_sem, Act.eval, h2']; exact ⟨_, rfl, Below.refl _ _, rfl⟩
    | 32, _ =>
      cases hq
      have h37' : a.tmps[37]?.getD undef = .pointer (some ⟨B0, 8, none⟩) := gq (hG.dep ⟨31, .data⟩ (by simp) rfl _ rfl)
      have c3 : w7.cell? ⟨B0, 8, none⟩ = some (.int .i64 n) := by rw [cell_blk (below_blk hC HBx.out.1)]; rfl
      unfold Oper.wp
      simp [go_sem, Act.eval, h37', c3]
      exact ⟨_, rfl, Below.refl _ _, rfl⟩
    | 33, _ => cases hq; have h3' : a.tmps[3]?.getD undef = .pointer (some ⟨B0 + 1, 0, none⟩) := gq (hG.fr 3 (by simp)); unfold Oper.wp; simp [go_sem, Act.eval, h3']; exact ⟨_, rfl, Below.refl _ _, rfl⟩
    | 34, _ =>
      cases hq
      have h39' : a.tmps[39]?.getD undef = .pointer (some ⟨B0 + 1, 8, none⟩) := gq (hG.dep ⟨33, .data⟩ (by simp) rfl _ rfl)
      have c3 : w7.cell? ⟨B0 + 1, 8, none⟩ = some (.int .i64 n) := by rw [cell_blk (below_blk hC HBx.out.2)]; rfl
      unfold Oper.wp
      simp [go_sem, Act.eval, h39', c3]
      exact ⟨_, rfl, Below.refl _ _, rfl⟩
    | 35, _ => cases hq; have h38' : a.tmps[38]?.getD undef = .int .i64 n := gq (hG.dep ⟨32, .data⟩ (by simp) rfl _ rfl); have h40' : a.tmps[40]?.getD undef = .int .i64 n := gq (hG.dep ⟨34, .data⟩ (by simp) rfl _ rfl); unfold Oper.wp; simp [go_sem, Act.eval, h38', h40']; exact ⟨_, rfl, Below.refl _ _, rfl⟩
    | 36, _ => cases hq; have h36' : a.tmps[36]?.getD undef = .bool false := gq (hG.dep ⟨30, .data⟩ (by simp) rfl _ rfl); have h41' : a.tmps[41]?.getD undef = .bool false := gq (hG.dep ⟨35, .data⟩ (by simp) rfl _ rfl); unfold Oper.wp; simp [go_sem, Act.eval, h36', h41']; exact ⟨_, rfl, Below.refl _ _, rfl⟩
    | 37, _ => cases hq; have h42' : a.tmps[42]?.getD undef = .bool false := gq (hG.dep ⟨36, .data⟩ (by simp) rfl _ rfl); unfold Oper.wp; simp [go_sem, Act.eval, h42']; exact ⟨_, rfl, Below.refl _ _, rfl⟩
    | 38, _ => cases hq; have h2' : a.tmps[2]?.getD undef = .pointer (some ⟨B0, 0, none⟩) := gq (hG.fr 2 (by simp)); unfold Oper.wp; simp [go_sem, Act.eval, h2']; exact ⟨_, rfl, Below.refl _ _, rfl⟩
    | 39, _ =>
      cases hq
      have h44' : a.tmps[44]?.getD undef = .pointer (some ⟨B0, 9, none⟩) := gq (hG.dep ⟨38, .data⟩ (by simp) rfl _ rfl)
      have c3 : w7.cell? ⟨B0, 9, none⟩ = some (.int .i64 lo) := by rw [cell_blk (below_blk hC HBx.out.1)]; rfl
      unfold Oper.wp
      simp [go_sem, Act.eval, h44', c3]
      exact ⟨_, rfl, Below.refl _ _, rfl⟩
    | 40, _ => cases hq; have h3' : a.tmps[3]?.getD undef = .pointer (some ⟨B0 + 1, 0, none⟩) := gq (hG.fr 3 (by simp)); unfold Oper.wp; simp [go_sem, Act.eval, h3']; exact ⟨_, rfl, Below.refl _ _, rfl⟩
    | 41, _ =>
      cases hq
      have h46' : a.tmps[46]?.getD undef = .pointer (some ⟨B0 + 1, 9, none⟩) := gq (hG.dep ⟨40, .data⟩ (by simp) rfl _ rfl)
      have c3 : w7.cell? ⟨B0 + 1, 9, none⟩ = some (.int .i64 lo) := by rw [cell_blk (below_blk hC HBx.out.2)]; rfl
      unfold Oper.wp
      simp [go_sem, Act.eval, h46', c3]
      exact ⟨_, rfl, Below.refl _ _, rfl⟩
    | 42, _ => cases hq; have h45' : a.tmps[45]?.getD undef = .int .i64 lo := gq (hG.dep ⟨39, .data⟩ (by simp) rfl _ rfl); have h47' : a.tmps[47]?.getD undef = .int .i64 lo := gq (hG.dep ⟨41, .data⟩ (by simp) rfl _ rfl); unfold Oper.wp; simp [go_sem, Act.eval, h45', h47']; exact ⟨_, rfl, Below.refl _ _, rfl⟩
    | 43, _ => cases hq; have h43' : a.tmps[43]?.getD undef = .bool false := gq (hG.dep ⟨37, .data⟩ (by simp) rfl _ rfl); have h48' : a.tmps[48]?.getD undef = .bool false := gq (hG.dep ⟨42, .data⟩ (by simp) rfl _ rfl); unfold Oper.wp; simp [go_sem, Act.eval, h43', h48']; exact ⟨_, rfl, Below.refl _ _, rfl⟩
    | 44, _ => cases hq; have h49' : a.tmps[49]?.getD undef = .bool false := gq (hG.dep ⟨43, .data⟩ (by simp) rfl _ rfl); unfold Oper.wp; simp [go_sem, Act.eval, h49']; exact ⟨_, rfl, Below.refl _ _, rfl⟩
    | 45, _ => cases hq; have h2' : a.tmps[2]?.getD undef = .pointer (some ⟨B0, 0, none⟩) := gq (hG.fr 2 (by simp)); unfold Oper.wp; simp [go_sem, Act.eval, h2']; exact ⟨_, rfl, Below.refl _ _, rfl⟩
    | 46, _ =>
      cases hq
      have h51' : a.tmps[51]?.getD undef = .pointer (some ⟨B0, 10, none⟩) := gq (hG.dep ⟨45, .data⟩ (by simp) rfl _ rfl)
      have c3 : w7.cell? ⟨B0, 10, none⟩ = some (.int .i64 tg) := by rw [cell_blk (below_blk hC HBx.out.1)]; rfl
      unfold Oper.wp
      simp [go_sem, Act.eval, h51', c3]
      exact ⟨_, rfl, Below.refl _ _, rfl⟩
    | 47, _ => cases hq; have h3' : a.tmps[3]?.getD undef = .pointer (some ⟨B0 + 1, 0, none⟩) := gq (hG.fr 3 (by simp)); unfold Oper.wp; simp [go_sem, Act.eval, h3']; exact ⟨_, rfl, Below.refl _ _, rfl⟩
    | 48, _ =>
      cases hq
      have h53' : a.tmps[53]?.getD undef = .pointer (some ⟨B0 + 1, 10, none⟩) := gq (hG.dep ⟨47, .data⟩ (by simp) rfl _ rfl)
      have c3 : w7.cell? ⟨B0 + 1, 10, none⟩ = some (.int .i64 tg) := by rw [cell_blk (below_blk hC HBx.out.2)]; rfl
      unfold Oper.wp
      simp [go_sem, Act.eval, h53', c3]
      exact ⟨_, rfl, Below.refl _ _, rfl⟩
    | 49, _ => cases hq; have h52' : a.tmps[52]?.getD undef = .int .i64 tg := gq (hG.dep ⟨46, .data⟩ (by simp) rfl _ rfl); have h54' : a.tmps[54]?.getD undef = .int .i64 tg := gq (hG.dep ⟨48, .data⟩ (by simp) rfl _ rfl); unfold Oper.wp; simp [go_sem, Act.eval, h52', h54']; exact ⟨_, rfl, Below.refl _ _, rfl⟩
    | 50, _ => cases hq; have h50' : a.tmps[50]?.getD undef = .bool false := gq (hG.dep ⟨44, .data⟩ (by simp) rfl _ rfl); have h55' : a.tmps[55]?.getD undef = .bool false := gq (hG.dep ⟨49, .data⟩ (by simp) rfl _ rfl); unfold Oper.wp; simp [go_sem, Act.eval, h50', h55']; exact ⟨_, rfl, Below.refl _ _, rfl⟩
    | 51, _ => cases hq; have h56' : a.tmps[56]?.getD undef = .bool false := gq (hG.dep ⟨50, .data⟩ (by simp) rfl _ rfl); unfold Oper.wp; simp [go_sem, Act.eval, h56']; exact ⟨_, rfl, Below.refl _ _, rfl⟩
    | 52, _ => cases hq; have h2' : a.tmps[2]?.getD undef = .pointer (some ⟨B0, 0, none⟩) := gq (hG.fr 2 (by simp)); unfold Oper.wp; simp [go_sem, Act.eval, h2']; exact ⟨_, rfl, Below.refl _ _, rfl⟩
    | 53, _ =>
      cases hq
      have h58' : a.tmps[58]?.getD undef = .pointer (some ⟨B0, 11, none⟩) := gq (hG.dep ⟨52, .data⟩ (by simp) rfl _ rfl)
      have c3 : w7.cell? ⟨B0, 11, none⟩ = some (.int .i64 bi) := by rw [cell_blk (below_blk hC HBx.out.1)]; rfl
      unfold Oper.wp
      simp [go_sem, Act.eval, h58', c3]
      exact ⟨_, rfl, Below.refl _ _, rfl⟩
    | 54, _ => cases hq; have h3' : a.tmps[3]?.getD undef = .pointer (some ⟨B0 + 1, 0, none⟩) := gq (hG.fr 3 (by simp)); unfold Oper.wp; simp [go_sem, Act.eval, h3']; exact ⟨_, rfl, Below.refl _ _, rfl⟩
    | 55, _ =>
      cases hq
      have h60' : a.tmps[60]?.getD undef = .pointer (some ⟨B0 + 1, 11, none⟩) := gq (hG.dep ⟨54, .data⟩ (by simp) rfl _ rfl)
      have c3 : w7.cell? ⟨B0 + 1, 11, none⟩ = some (.int .i64 bi) := by rw [cell_blk (below_blk hC HBx.out.2)]; rfl
      unfold Oper.wp
      simp [go_sem, Act.eval, h60', c3]
      exact ⟨_, rfl, Below.refl _ _, rfl⟩
    | 56, _ => cases hq; have h59' : a.tmps[59]?.getD undef = .int .i64 bi := gq (hG.dep ⟨53, .data⟩ (by simp) rfl _ rfl); have h61' : a.tmps[61]?.getD undef = .int .i64 bi := gq (hG.dep ⟨55, .data⟩ (by simp) rfl _ rfl); unfold Oper.wp; simp [go_sem, Act.eval, h59', h61']; exact ⟨_, rfl, Below.refl _ _, rfl⟩
    | 57, _ => cases hq; have h57' : a.tmps[57]?.getD undef = .bool false := gq (hG.dep ⟨51, .data⟩ (by simp) rfl _ rfl); have h62' : a.tmps[62]?.getD undef = .bool false := gq (hG.dep ⟨56, .data⟩ (by simp) rfl _ rfl); unfold Oper.wp; simp [go_sem, Act.eval, h57', h62']; exact ⟨_, rfl, Below.refl _ _, rfl⟩
    | 58, _ => cases hq; have h63' : a.tmps[63]?.getD undef = .bool false := gq (hG.dep ⟨57, .data⟩ (by simp) rfl _ rfl); unfold Oper.wp; simp [go_sem, Act.eval, h63']; exact ⟨_, rfl, Below.refl _ _, rfl⟩
    | 59, _ => cases hq; have h2' : a.tmps[2]?.getD undef = .pointer (some ⟨B0, 0, none⟩) := gq (hG.fr 2 (by simp)); unfold Oper.wp; simp [go_sem, Act.eval, h2']; exact ⟨_, rfl, Below.refl _ _, rfl⟩
    | 60, _ =>
      cases hq
      have h65' : a.tmps[65]?.getD undef = .pointer (some ⟨B0, 12, none⟩) := gq (hG.dep ⟨59, .data⟩ (by simp) rfl _ rfl)
      have c3 : w7.cell? ⟨B0, 12, none⟩ = some (.int .u8 s) := by rw [cell_blk (below_blk hC HBx.out.1)]; rfl
      unfold Oper.wp
      simp [go_sem, Act.eval, h65', c3]
      exact ⟨_, rfl, Below.refl _ _, rfl⟩
    | 61, _ => cases hq; have h3' : a.tmps[3]?.getD undef = .pointer (some ⟨B0 + 1, 0, none⟩) := gq (hG.fr 3 (by simp)); unfold Oper.wp; simp [go_sem, Act.eval, h3']; exact ⟨_, rfl, Below.refl _ _, rfl⟩
    | 62, _ =>
      cases hq
      have h67' : a.tmps[67]?.getD undef = .pointer (some ⟨B0 + 1, 12, none⟩) := gq (hG.dep ⟨61, .data⟩ (by simp) rfl _ rfl)
      have c3 : w7.cell? ⟨B0 + 1, 12, none⟩ = some (.int .u8 s) := by rw [cell_blk (below_blk hC HBx.out.2)]; rfl
      unfold Oper.wp
      simp [go_sem, Act.eval, h67', c3]
      exact ⟨_, rfl, Below.refl _ _, rfl⟩
    | 63, _ => cases hq; have h66' : a.tmps[66]?.getD undef = .int .u8 s := gq (hG.dep ⟨60, .data⟩ (by simp) rfl _ rfl); have h68' : a.tmps[68]?.getD undef = .int .u8 s := gq (hG.dep ⟨62, .data⟩ (by simp) rfl _ rfl); unfold Oper.wp; simp [go_sem, Act.eval, h66', h68']; exact ⟨_, rfl, Below.refl _ _, rfl⟩
    | 64, _ => cases hq; have h64' : a.tmps[64]?.getD undef = .bool false := gq (hG.dep ⟨58, .data⟩ (by simp) rfl _ rfl); have h69' : a.tmps[69]?.getD undef = .bool false := gq (hG.dep ⟨63, .data⟩ (by simp) rfl _ rfl); unfold Oper.wp; simp [go_sem, Act.eval, h64', h69']; exact ⟨_, rfl, Below.refl _ _, rfl⟩
    | 65, _ => cases hq; have h70' : a.tmps[70]?.getD undef = .bool false := gq (hG.dep ⟨64, .data⟩ (by simp) rfl _ rfl); unfold Oper.wp; simp [go_sem, Act.eval, h70']; exact ⟨_, rfl, Below.refl _ _, rfl⟩
    | 66, _ => cases hq; have h2' : a.tmps[2]?.getD undef = .pointer (some ⟨B0, 0, none⟩) := gq (hG.fr 2 (by simp)); unfold Oper.wp; simp [go_sem, Act.eval, h2']; exact ⟨_, rfl, Below.refl _ _, rfl⟩
    | 67, _ =>
      cases hq
      have h72' : a.tmps[72]?.getD undef = .pointer (some ⟨B0, 13, none⟩) := gq (hG.dep ⟨66, .data⟩ (by simp) rfl _ rfl)
      have c3 : w7.cell? ⟨B0, 13, none⟩ = some (.bool fu) := by rw [cell_blk (below_blk hC HBx.out.1)]; rfl
      unfold Oper.wp
      simp [go_sem, Act.eval, h72', c3]
      exact ⟨_, rfl, Below.refl _ _, rfl⟩
    | 68, _ => cases hq; have h3' : a.tmps[3]?.getD undef = .pointer (some ⟨B0 + 1, 0, none⟩) := gq (hG.fr 3 (by simp)); unfold Oper.wp; simp [go_sem, Act.eval, h3']; exact ⟨_, rfl, Below.refl _ _, rfl⟩
    | 69, _ =>
      cases hq
      have h74' : a.tmps[74]?.getD undef = .pointer (some ⟨B0 + 1, 13, none⟩) := gq (hG.dep ⟨68, .data⟩ (by simp) rfl _ rfl)
      have c3 : w7.cell? ⟨B0 + 1, 13, none⟩ = some (.bool fu) := by rw [cell_blk (below_blk hC HBx.out.2)]; rfl
      unfold Oper.wp
      simp [go_sem, Act.eval, h74', c3]
      exact ⟨_, rfl, Below.refl _ _, rfl⟩
    | 70, _ => cases hq; have h73' : a.tmps[73]?.getD undef = .bool fu := gq (hG.dep ⟨67, .data⟩ (by simp) rfl _ rfl); have h75' : a.tmps[75]?.getD undef = .bool fu := gq (hG.dep ⟨69, .data⟩ (by simp) rfl _ rfl); unfold Oper.wp; simp [go_sem, Act.eval, h73', h75']; exact ⟨_, rfl, Below.refl _ _, rfl⟩
    | 71, _ => cases hq; have h71' : a.tmps[71]?.getD undef = .bool false := gq (hG.dep ⟨65, .data⟩ (by simp) rfl _ rfl); have h76' : a.tmps[76]?.getD undef = .bool false := gq (hG.dep ⟨70, .data⟩ (by simp) rfl _ rfl); unfold Oper.wp; simp [go_sem, Act.eval, h71', h76']; exact ⟨_, rfl, Below.refl _ _, rfl⟩
    | 72, _ => cases hq; have h77' : a.tmps[77]?.getD undef = .bool false := gq (hG.dep ⟨71, .data⟩ (by simp) rfl _ rfl); unfold Oper.wp; simp [go_sem, Act.eval, h77']; exact ⟨_, rfl, Below.refl _ _, rfl⟩
    | 73, _ => cases hq; have h2' : a.tmps[2]?.getD undef = .pointer (some ⟨B0, 0, none⟩) := gq (hG.fr 2 (by simp)); unfold Oper.wp; simp [go_sem, Act.eval, h2']; exact ⟨_, rfl, Below.refl _ _, rfl⟩
    | 74, _ =>
      cases hq
      have h79' : a.tmps[79]?.getD undef = .pointer (some ⟨B0, 15, none⟩) := gq (hG.dep ⟨73, .data⟩ (by simp) rfl _ rfl)
      have c3 : w7.cell? ⟨B0, 15, none⟩ = some (.slice none 0 0) := by rw [cell_blk (below_blk hC HBx.out.1)]; rfl
      unfold Oper.wp
      simp [go_sem, Act.eval, h79', c3]
      exact ⟨_, rfl, Below.refl _ _, rfl⟩
    | 75, _ => cases hq; have h80' : a.tmps[80]?.getD undef = .slice none 0 0 := gq (hG.dep ⟨74, .data⟩ (by simp) rfl _ rfl); unfold Oper.wp; simp [go_sem, Act.eval, h80']; exact ⟨_, rfl, Below.refl _ _, rfl⟩
    | 76, _ => cases hq; have h3' : a.tmps[3]?.getD undef = .pointer (some ⟨B0 + 1, 0, none⟩) := gq (hG.fr 3 (by simp)); unfold Oper.wp; simp [go_sem, Act.eval, h3']; exact ⟨_, rfl, Below.refl _ _, rfl⟩
    | 77, _ =>
      cases hq
      have h82' : a.tmps[82]?.getD undef = .pointer (some ⟨B0 + 1, 15, none⟩) := gq (hG.dep ⟨76, .data⟩ (by simp) rfl _ rfl)
      have c3 : w7.cell? ⟨B0 + 1, 15, none⟩ = some (.slice none 0 0) := by rw [cell_blk (below_blk hC HBx.out.2)]; rfl
      unfold Oper.wp
      simp [go_sem, Act.eval, h82', c3]
      exact ⟨_, rfl, Below.refl _ _, rfl⟩
    | 78, _ => cases hq; have h83' : a.tmps[83]?.getD undef = .slice none 0 0 := gq (hG.dep ⟨77, .data⟩ (by simp) rfl _ rfl); unfold Oper.wp; simp [go_sem, Act.eval, h83']; exact ⟨_, rfl, Below.refl _ _, rfl⟩
    | 79, _ => cases hq; have h81' : a.tmps[81]?.getD undef = .int .i64 0 := gq (hG.dep ⟨75, .data⟩ (by simp) rfl _ rfl); have h84' : a.tmps[84]?.getD undef = .int .i64 0 := gq (hG.dep ⟨78, .data⟩ (by simp) rfl _ rfl); unfold Oper.wp; simp [go_sem, Act.eval, h81', h84']; exact ⟨_, rfl, Below.refl _ _, rfl⟩
  intro a w7 hC hdf hsz hfr hphi
  have e0 : a.tmps.getD 6 undef = .pointer (some ⟨B0, 0, none⟩) := hphi 0 _ rfl
  have e1 : a.tmps.getD 7 undef = .int .u8 k := hphi 1 _ rfl
  have e2 : a.tmps.getD 8 undef = .pointer (some ⟨B0 + 1, 0, none⟩) := hphi 2 _ rfl
  have e3 : a.tmps.getD 9 undef = .int .u8 k := hphi 3 _ rfl
  have e4 : a.tmps.getD 10 undef = .bool false := hphi 4 _ rfl
  have e5 : a.tmps.getD 11 undef = .bool false := hphi 5 _ rfl
  have e6 : a.tmps.getD 12 undef = .pointer (some ⟨B0, 1, none⟩) := hphi 6 _ rfl
  have e7 : a.tmps.getD 13 undef = .int .i64 h := hphi 7 _ rfl
  have e8 : a.tmps.getD 14 undef = .pointer (some ⟨B0 + 1, 1, none⟩) := hphi 8 _ rfl
  have e9 : a.tmps.getD 15 undef = .int .i64 h := hphi 9 _ rfl
  have e10 : a.tmps.getD 16 undef = .bool false := hphi 10 _ rfl
  have e11 : a.tmps.getD 17 undef = .bool false := hphi 11 _ rfl
  have e12 : a.tmps.getD 18 undef = .bool false := hphi 12 _ rfl
  have e13 : a.tmps.getD 19 undef = .pointer (some ⟨B0, 2, none⟩) := hphi 13 _ rfl
  have e14 : a.tmps.getD 20 undef = .agg #[.int .u8 vk, .int .i64 vn, .string vstr, (.slice pv vl.length cv), .int .i64 vr] := hphi 14 _ rfl
  have e15 : a.tmps.getD 21 undef = .pointer (some ⟨B0 + 1, 2, none⟩) := hphi 15 _ rfl
  have e16 : a.tmps.getD 22 undef = .agg #[.int .u8 vk, .int .i64 vn, .string vstr, (.slice pv2 vl.length cv2), .int .i64 vr] := hphi 16 _ rfl
  have e17 : a.tmps.getD 23 undef = .bool true := hphi 17 _ rfl
  have e18 : a.tmps.getD 24 undef = .bool false := hphi 18 _ rfl
  have e19 : a.tmps.getD 25 undef = .bool false := hphi 19 _ rfl
  have e20 : a.tmps.getD 26 undef = .bool false := hphi 20 _ rfl
  have e21 : a.tmps.getD 27 undef = .pointer (some ⟨B0, 7, none⟩) := hphi 21 _ rfl
  have e22 : a.tmps.getD 28 undef = (.slice ps vs.length cs) := hphi 22 _ rfl
  have e23 : a.tmps.getD 29 undef = .agg #[.int .u8 3, .int .i64 0, .string ⟨#[]⟩, (.slice ps vs.length cs), .int .i64 0] := hphi 23 _ rfl
  have e24 : a.tmps.getD 30 undef = .pointer (some ⟨B0 + 1, 7, none⟩) := hphi 24 _ rfl
  have e25 : a.tmps.getD 31 undef = (.slice ps2 vs.length cs2) := hphi 25 _ rfl
  have e26 : a.tmps.getD 32 undef = .agg #[.int .u8 3, .int .i64 0, .string ⟨#[]⟩, (.slice ps2 vs.length cs2), .int .i64 0] := hphi 26 _ rfl
  have e27 : a.tmps.getD 33 undef = .bool true := hphi 27 _ rfl
  have e28 : a.tmps.getD 34 undef = .bool false := hphi 28 _ rfl
  have e29 : a.tmps.getD 35 undef = .bool false := hphi 29 _ rfl
  have e30 : a.tmps.getD 36 undef = .bool false := hphi 30 _ rfl
  have e31 : a.tmps.getD 37 undef = .pointer (some ⟨B0, 8, none⟩) := hphi 31 _ rfl
  have e32 : a.tmps.getD 38 undef = .int .i64 n := hphi 32 _ rfl
  have e33 : a.tmps.getD 39 undef = .pointer (some ⟨B0 + 1, 8, none⟩) := hphi 33 _ rfl
  have e34 : a.tmps.getD 40 undef = .int .i64 n := hphi 34 _ rfl
  have e35 : a.tmps.getD 41 undef = .bool false := hphi 35 _ rfl
  have e36 : a.tmps.getD 42 undef = .bool false := hphi 36 _ rfl
  have e37 : a.tmps.getD 43 undef = .bool false := hphi 37 _ rfl
  have e38 : a.tmps.getD 44 undef = .pointer (some ⟨B0, 9, none⟩) := hphi 38 _ rfl
  have e39 : a.tmps.getD 45 undef = .int .i64 lo := hphi 39 _ rfl
  have e40 : a.tmps.getD 46 undef = .pointer (some ⟨B0 + 1, 9, none⟩) := hphi 40 _ rfl
  have e41 : a.tmps.getD 47 undef = .int .i64 lo := hphi 41 _ rfl
  have e42 : a.tmps.getD 48 undef = .bool false := hphi 42 _ rfl
  have e43 : a.tmps.getD 49 undef = .bool false := hphi 43 _ rfl
  have e44 : a.tmps.getD 50 undef = .bool false := hphi 44 _ rfl
  have e45 : a.tmps.getD 51 undef = .pointer (some ⟨B0, 10, none⟩) := hphi 45 _ rfl
  have e46 : a.tmps.getD 52 undef = .int .i64 tg := hphi 46 _ rfl
  have e47 : a.tmps.getD 53 undef = .pointer (some ⟨B0 + 1, 10, none⟩) := hphi 47 _ rfl
  have e48 : a.tmps.getD 54 undef = .int .i64 tg := hphi 48 _ rfl
  have e49 : a.tmps.getD 55 undef = .bool false := hphi 49 _ rfl
  have e50 : a.tmps.getD 56 undef = .bool false := hphi 50 _ rfl
  have e51 : a.tmps.getD 57 undef = .bool false := hphi 51 _ rfl
  have e52 : a.tmps.getD 58 undef = .pointer (some ⟨B0, 11, none⟩) := hphi 52 _ rfl
  have e53 : a.tmps.getD 59 undef = .int .i64 bi := hphi 53 _ rfl
  have e54 : a.tmps.getD 60 undef = .pointer (some ⟨B0 + 1, 11, none⟩) := hphi 54 _ rfl
  have e55 : a.tmps.getD 61 undef = .int .i64 bi := hphi 55 _ rfl
  have e56 : a.tmps.getD 62 undef = .bool false := hphi 56 _ rfl
  have e57 : a.tmps.getD 63 undef = .bool false := hphi 57 _ rfl
  have e58 : a.tmps.getD 64 undef = .bool false := hphi 58 _ rfl
  have e59 : a.tmps.getD 65 undef = .pointer (some ⟨B0, 12, none⟩) := hphi 59 _ rfl
  have e60 : a.tmps.getD 66 undef = .int .u8 s := hphi 60 _ rfl
  have e61 : a.tmps.getD 67 undef = .pointer (some ⟨B0 + 1, 12, none⟩) := hphi 61 _ rfl
  have e62 : a.tmps.getD 68 undef = .int .u8 s := hphi 62 _ rfl
  have e63 : a.tmps.getD 69 undef = .bool false := hphi 63 _ rfl
  have e64 : a.tmps.getD 70 undef = .bool false := hphi 64 _ rfl
  have e65 : a.tmps.getD 71 undef = .bool false := hphi 65 _ rfl
  have e66 : a.tmps.getD 72 undef = .pointer (some ⟨B0, 13, none⟩) := hphi 66 _ rfl
  have e67 : a.tmps.getD 73 undef = .bool fu := hphi 67 _ rfl
  have e68 : a.tmps.getD 74 undef = .pointer (some ⟨B0 + 1, 13, none⟩) := hphi 68 _ rfl
  have e69 : a.tmps.getD 75 undef = .bool fu := hphi 69 _ rfl
  have e70 : a.tmps.getD 76 undef = .bool false := hphi 70 _ rfl
  have e71 : a.tmps.getD 77 undef = .bool false := hphi 71 _ rfl
  have e72 : a.tmps.getD 78 undef = .bool false := hphi 72 _ rfl
  have e73 : a.tmps.getD 79 undef = .pointer (some ⟨B0, 15, none⟩) := hphi 73 _ rfl
  have e74 : a.tmps.getD 80 undef = .slice none 0 0 := hphi 74 _ rfl
  have e75 : a.tmps.getD 81 undef = .int .i64 0 := hphi 75 _ rfl
  have e76 : a.tmps.getD 82 undef = .pointer (some ⟨B0 + 1, 15, none⟩) := hphi 76 _ rfl
  have e77 : a.tmps.getD 83 undef = .slice none 0 0 := hphi 77 _ rfl
  have e78 : a.tmps.getD 84 undef = .int .i64 0 := hphi 78 _ rfl
  have e79 : a.tmps.getD 85 undef = .bool false := hphi 79 _ rfl
  have ha := act_of hdf hsz hfr
  simp only [List.append_eq, List.cons_append, List.nil_append, List.take_succ_cons, List.take_zero, List.filterMap_cons, List.filterMap_nil, List.foldl_cons, List.foldl_nil, List.setIfInBounds_toArray, List.set_cons_zero, List.set_cons_succ, e0, e1, e2, e3, e4, e5, e6, e7, e8, e9, e10, e11, e12, e13, e14, e15, e16, e17, e18, e19, e20, e21, e22, e23, e24, e25, e26, e27, e28, e29, e30, e31, e32, e33, e34, e35, e36, e37, e38, e39, e40, e41, e42, e43, e44, e45, e46, e47, e48, e49, e50, e51, e52, e53, e54, e55, e56, e57, e58, e59, e60, e61, e62, e63, e64, e65, e66, e67, e68, e69, e70, e71, e72, e73, e74, e75, e76, e77, e78, e79] at ha
  clear hdf hsz hfr hphi e0 e1 e2 e3 e4 e5 e6 e7 e8 e9 e10 e11 e12 e13 e14 e15 e16 e17 e18 e19 e20 e21 e22 e23 e24 e25 e26 e27 e28 e29 e30 e31 e32 e33 e34 e35 e36 e37 e38 e39 e40 e41 e42 e43 e44 e45 e46 e47 e48 e49 e50 e51 e52 e53 e54 e55 e56 e57 e58 e59 e60 e61 e62 e63 e64 e65 e66 e67 e68 e69 e70 e71 e72 e73 e74 e75 e76 e77 e78 e79
  subst ha
  have HT := (show Hid (Below w.heap.size w w7 ∧ w7.heap[B0]? = _ ∧ w7.heap[B0 + 1]? = _) from ⟨HB2.out w7 hC, below_blk hC HBx.out.1, below_blk hC HBx.out.2⟩)
  clear hC HB2 HS1 HS2
  obtain ⟨a0, a1, a2, a3, a4, a5, a6, a7, a8, a9, a10, a11, a12, a13, a14, a15⟩ := cells16 HT.out.2.1
  obtain ⟨b0, b1, b2, b3, b4, b5, b6, b7, b8, b9, b10, b11, b12, b13, b14, b15⟩ := cells16 HT.out.2.2
  refine ⟨rfl, ?_⟩
  unfold Oper.wp
  simp [execOp, go_sem, Act.eval, wpTailG]
  refine ‹∀ (a : Act) (w : World), Code.wp Tryz.prog _ _ a w → _› _ _ ?_
  go_wp2_with fail
  go_loopw [5] (fun vi wr => vi = .int .i64 0 ∧ wr = w7) (fun _ _ => 0)
  case atStart => exact ⟨rfl, rfl⟩
  case round =>
    obtain ⟨rfl, rfl⟩ := hrel
    go_wp2_with fail
    refine (sameCode07_nil _).mono ?_
    rintro e w8 ⟨rfl, hb⟩
    have HB := (show Hid (Below w.heap.size w w8) from HT.out.1.trans (hb.mono HT.out.1.size))
    clear hb a0 a1 a2 a3 a4 a5 a6 a7 a8 a9 a10 a11 a12 a13 a14 a15 b0 b1 b2 b3 b4 b5 b6 b7 b8 b9 b10 b11 b12 b13 b14 b15
    go_wp2_with fail
    go_ret
    exact ⟨rfl, HB.out⟩
end Go.Proofs.YthaliljaglldjaaGreat
