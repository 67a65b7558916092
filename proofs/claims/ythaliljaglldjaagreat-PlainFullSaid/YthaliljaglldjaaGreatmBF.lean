/- A part of the proof, several texts in one: R8M, Both, Sp, Room, CopT. -/
import Derived.Test.YthaliljaglldjaaGreatmBE
import Derived.Test.YthaliljaglldjaaGreatmBB
import Derived.Test.YthaliljaglldjaaGreatmBD
import Derived.Test.YthaliljaglldjaaGreatmAJ
import Derived.Deep.MidRow
/- posternref08.Make. -/
namespace Go.Proofs.YthaliljaglldjaaGreat
open Go.RowKit Go.ChangeMaps Go.MapKept
structure RGood (N : WM) : Prop where
  ok : ROk N
  last : 0 ≤ N.last ∧ N.last ≤ 1099511627776
  mades : ∀ (i : Nat) (x : Int), N.made[i]? = some x → 0 ≤ x ∧ x ≤ 512
abbrev cellK (k h : Int) (v : Val) (raw : Value) : Th := ⟨k, h, v, raw, [], .slice none 0 0, 0, 0, 0, 0, 0, false, .slice none 0 0, .slice none 0 0⟩
theorem rmake_0 {w : World} {q : Nat} {N : WM} {G F : Nat → Prop} (hR : IsR w q N G) (hN : RGood N) {k h : Int} (hk : k = 1 ∨ k = 2 ∨ k = 3 ∨ k = 4 ∨ k = 10) (hh : 0 ≤ h ∧ h < N.made.length) (v : Val) (raw : Value) (hS : SlAt w F raw v.l) (hF : ∀ b, F b → ¬ G b) (hm : mayV v = true) (hkn : knownB N v = true)
    (hform : ∀ w', Below w.heap.size w w' → Calls Tryz.prog 81 #[.agg (thc (cellK k h v raw)), .int .i64 N.made.length] w' fun e w'' => e = .returned (.bool true) ∧ Below w'.heap.size w' w'') :
    Calls Tryz.prog 15 #[.pointer (some ⟨q, 0, none⟩), .agg (thc (cellK k h v raw))] w (MakeR w q N G (cellK k h v raw) 0) := by
  obtain ⟨q0, hq0⟩ := may_take hm
  refine make7_W hR hN.ok.len hN.last hN.mades (cellK k h v raw) hS (SlAt.nil _ F _ _) rfl rfl (depV_may hm) (fun x hx => by cases hx) (Nat.zero_le _) hF hh (by show 0 ≤ k ∧ k ≤ 255; omega) (by show k ≠ 13 ∧ k ≠ 14 ∧ k ≠ 15; omega) 0 hform fun w' hb => ?_
  refine asked7_0 (hR.below hb) hN.ok (cellK k h v raw) 0 (by show 0 ≤ k ∧ k ≤ 255; omega) (by show k ≠ 6 ∧ k ≠ 7 ∧ k ≠ 9 ∧ k ≠ 11 ∧ k ≠ 13 ∧ k ≠ 14 ∧ k ≠ 15 ∧ k ≠ 16; omega) (refsN 16 v) (by rw [← refsV_of hm]; have := refsV_le v; omega) (fun w2 hb2 => refs7_one (cellK k h v raw) ((hS.on hb).on hb2) rfl rfl (by decide) hq0) fun x hx => ?_
  rw [← refsV_of hm] at hx
  unfold knownB at hkn
  rw [List.all_eq_true] at hkn
  exact hkn x hx
theorem MakeR.start {w w1 w' : World} {q : Nat} {N : WM} {G : Nat → Prop} {t : Th} {aE : Int} {e : Ending} (h : MakeR w1 q N G t aE e w') (hb : Below w.heap.size w w1) : MakeR w q N G t aE e w' := by
  rcases h with ⟨h1, h2, h3⟩ | ⟨h1, h2, h3, h4⟩ | ⟨h1, h2, h3, vl, vals, G', h4, h5, h6, h7⟩
  · exact .inl ⟨h1, h2, hb.trans (h3.mono hb.size)⟩
  · exact .inr (.inl ⟨h1, h2, h3, hb.trans (h4.mono hb.size)⟩)
  · exact .inr (.inr ⟨h1, h2, h3, vl, vals, G', h4, Below.keeps hb h5, fun b hG => (h6 b hG).imp id fun h => Nat.le_trans hb.size h, h7⟩)
def Made8 (w : World) (q : Nat) (N : WM) (G : Nat → Prop) (k h : Int) (v : Val) (raw : Value) (e : Ending) (w' : World) : Prop :=
  (mayE N h v ≠ 0 ∧ e = .returned (.tuple #[.int .i64 0, .int .i64 (mayE N h v)]) ∧ Below w.heap.size w w') ∨ (mayE N h v = 0 ∧ MakeR w q N G (cellK k h v raw) 0 e w')
theorem made8_no {w w' : World} {q : Nat} {N : WM} {G : Nat → Prop} {k h : Int} {v : Val} {raw : Value} {x : Int} (hx : mayE N h v = x) (h0 : x ≠ 0) (hb : Below w.heap.size w w') : Made8 w q N G k h v raw (.returned (.tuple #[.int .i64 0, .int .i64 x])) w' := .inl ⟨by rw [hx]; exact h0, by rw [hx], hb⟩
set_option maxHeartbeats 8000000 in
set_option maxRecDepth 20000 in
theorem make8_W {w : World} {q : Nat} {N : WM} {G F : Nat → Prop} (hR : IsR w q N G) (hN : RGood N) {k h : Int} (hk10 : k ≠ 10) (v : Val) (raw : Value) (hS : SlAt w F raw v.l) (hwf : v.wf)
    (hmake : mayE N h v = 0 → ∀ w', Below w.heap.size w w' → Calls Tryz.prog 15 #[.pointer (some ⟨q, 0, none⟩), .agg (thc (cellK k h v raw))] w' (MakeR w' q N G (cellK k h v raw) 0)) :
    Calls Tryz.prog 87 #[.pointer (some ⟨q, 0, none⟩), .int .u8 k, .int .i64 h, .agg (vcs v raw)] w (Made8 w q N G k h v raw) := by
  obtain ⟨pa, c, rfl⟩ := hS.form
  have HMy : Hid (∀ w', Below w.heap.size w w' → Calls Tryz.prog 182 #[.agg (vcs v (.slice pa v.l.length c))] w' fun e w'' => e = .returned (.bool (mayV v)) ∧ Below w'.heap.size w' w'') := fun w' hb => rMay_any (hS.on hb) hwf
  have HNm : Hid (mayV v = true → ∀ w', Below w.heap.size w w' → Calls Tryz.prog 183 #[.pointer (some ⟨q, 0, none⟩), .agg (vcs v (.slice pa v.l.length c))] w' fun e w'' => e = .returned (.bool (knownB N v)) ∧ Below w'.heap.size w' w'') := fun hm w' hb => names8_W (hR.below hb) hN.ok v _ (hS.on hb) hm
  have HMk := (show Hid (mayE N h v = 0 → ∀ w', Below w.heap.size w w' → Calls Tryz.prog 15 #[.pointer (some ⟨q, 0, none⟩), .agg (thc (cellK k h v (.slice pa v.l.length c)))] w' (MakeR w' q N G (cellK k h v (.slice pa v.l.length c)) 0)) from hmake)
  have HE : Hid (∀ x, mayE N h v = x ↔ (if 0 ≤ h ∧ h < N.made.length then (if mayV v = true then (if knownB N v = true then 0 else 5) else 2) else 2) = x) := fun x => Iff.rfl
  have HS4 : Hid (∃ sM, (∃ p c, sM = .slice p N.made.length c) ∧ ∀ w', Below w.heap.size w w' → w'.cell? ⟨q, 4, none⟩ = some sM) := by
    obtain ⟨sP, sC, sT, sM, hV⟩ := hR
    refine ⟨sM, ?_, fun w' hb => by rw [cell_blk (below_blk hb hV.blk)]; rfl⟩
    obtain ⟨h1, ⟨h2, h0⟩ | ⟨g', cap, cur, h2, -⟩⟩ := hV.rm
    · exact ⟨none, 0, by rw [h2, h0]⟩
    · exact ⟨_, _, h2⟩
  have hkb : (k == 10) = false := by simpa using hk10
  have H0 : Hid (Below w.heap.size w (w.alloc (.cells (vcs v (.slice pa v.l.length c)) 27)) ∧ (w.alloc (.cells (vcs v (.slice pa v.l.length c)) 27)).heap[w.heap.size]? = some (.cells (vcs v (.slice pa v.l.length c)) 27 (0, 0))) := ⟨(Below.refl _ w).alloc (Nat.le_refl _) _, blk_new _ _⟩
  obtain ⟨sM, ⟨pM, cM, rfl⟩, hM⟩ := HS4.out
  have HM := (show Hid (∀ w', Below w.heap.size w w' → w'.cell? ⟨q, 4, none⟩ = some (.slice pM N.made.length cM)) from hM)
  have HZn : Hid (∀ x w', mayE N h v = x → x ≠ 0 → Below w.heap.size w w' → Made8 w q N G k h v (.slice pa v.l.length c) (.returned (.tuple #[.int .i64 0, .int .i64 x])) w') := fun x w' hx h0 hb => made8_no hx h0 hb
  have HZy : Hid (∀ e w1 w', mayE N h v = 0 → Below w.heap.size w w1 → MakeR w1 q N G (cellK k h v (.slice pa v.l.length c)) 0 e w' → Made8 w q N G k h v (.slice pa v.l.length c) e w') := fun e w1 w' hx hb hr => .inr ⟨hx, hr.start hb⟩
  clear hR hN hS hwf hmake hM HS4
  generalize mayV v = mv at HMy HNm HE
  generalize knownB N v = kb at HNm HE
  obtain ⟨vk, vn, vstr, vl, vr⟩ := v
  simp only [vcs, thc, cellK] at HMy HNm HMk H0 ⊢
  by_cases h1' : h < 0
  · have e2 : Hid (mayE N h ⟨vk, vn, vstr, vl, vr⟩ = 2) := (HE.out 2).2 (if_neg (by omega))
    go_enter Tryz.func87, Tryz.ntmps87
    go_wp2_with fail
    go_returns
    exact HZn.out 2 _ e2.out (by decide) H0.out.1
  by_cases h2' : h ≥ (N.made.length : Int)
  · have e2 : Hid (mayE N h ⟨vk, vn, vstr, vl, vr⟩ = 2) := (HE.out 2).2 (if_neg (by omega))
    have c4 := HM.out _ H0.out.1
    go_enter Tryz.func87, Tryz.ntmps87
    go_wp2_with fail
    go_returns
    exact HZn.out 2 _ e2.out (by decide) H0.out.1
  have HE2 : Hid (∀ x, mayE N h ⟨vk, vn, vstr, vl, vr⟩ = x ↔ (if mv = true then (if kb = true then 0 else 5) else 2) = x) := fun x => by
    rw [HE.out x, if_pos ⟨by omega, by omega⟩]
  clear HE
  have c4 := HM.out _ H0.out.1
  go_enter Tryz.func87, Tryz.ntmps87
  go_wp2_with fail
  refine Calls.mono (HMy.out _ H0.out.1) ?_
  rintro e w1 ⟨rfl, hb1⟩
  have b1 := below_blk hb1 H0.out.2
  obtain ⟨⟨a0, a1, a2, a3, a4⟩, -⟩ := cells5 b1
  have HB1 := (show Hid (Below w.heap.size w w1 ∧ w1.heap[w.heap.size]? = _) from ⟨H0.out.1.trans (hb1.mono H0.out.1.size), b1⟩)
  clear hb1 b1 HMy c4 H0
  cases mv with
  | false =>
    have e2 : Hid (mayE N h ⟨vk, vn, vstr, vl, vr⟩ = 2) := (HE2.out 2).2 rfl
    go_wp2_with fail
    go_returns
    exact HZn.out 2 _ e2.out (by decide) HB1.out.1
  | true =>
    go_wp2_with fail
    refine Calls.mono (HNm.out (by first | rfl | trivial) _ HB1.out.1) ?_
    rintro e w2 ⟨rfl, hb2⟩
    have b2 := below_blk hb2 HB1.out.2
    have HB2 := (show Hid (Below w.heap.size w w2) from HB1.out.1.trans (hb2.mono HB1.out.1.size))
    clear hb2 a0 a1 a2 a3 a4 HNm HB1
    obtain ⟨⟨a0, a1, a2, a3, a4⟩, -⟩ := cells5 b2
    clear b2
    cases kb with
    | false =>
      have e2 : Hid (mayE N h ⟨vk, vn, vstr, vl, vr⟩ = 5) := (HE2.out 5).2 rfl
      go_wp2_with fail
      go_returns
      exact HZn.out 5 _ e2.out (by decide) HB2.out
    | true =>
      have e2 : Hid (mayE N h ⟨vk, vn, vstr, vl, vr⟩ = 0) := (HE2.out 0).2 rfl
      clear HE2
      go_wp2_with fail
      refine Calls.mono (HMk.out e2.out _ HB2.out) ?_
      rintro e w3 hmade
      have HR := (show Hid _ from HZy.out _ _ _ e2.out HB2.out hmade)
      rcases hmade with ⟨h0, -⟩ | ⟨-, -, rfl, -⟩ | ⟨-, -, rfl, -⟩
      · exact absurd rfl h0
      · clear HZy HZn HMk a0 a1 a2 a3 a4
        go_wp2_with fail
        go_returns
        exact HR.out
      · clear HZy HZn HMk a0 a1 a2 a3 a4
        go_wp2_with fail
        go_returns
        exact HR.out
end Go.Proofs.YthaliljaglldjaaGreat
/- The program's world and the document's, side by side, of the same data. -/
namespace Go.Proofs.YthaliljaglldjaaGreat
open Go.RowKit Go.ChangeMaps Go.MapKept
theorem IsR.keeps {w w' : World} {q : Nat} {M : WM} {G S : Nat → Prop} (h : IsR w q M G) (hk : Keeps S w w') (hS : ∀ b, G b → ¬ S b) : IsR w' q M G := by
  obtain ⟨sP, sC, sT, sM, h⟩ := h
  have hG := h.own
  exact ⟨sP, sC, sT, sM, {
    blk := hk.none h.blk (hS _ (hG q (.inl rfl)))
    rp := ownsRow_keeps h.rp hk fun b hb => hS b (hG b (.inr (.inl hb)))
    rc := ownsRow_keeps h.rc hk fun b hb => hS b (hG b (.inr (.inr (.inl hb))))
    rt := ownsRow_keeps h.rt hk fun b hb => hS b (hG b (.inr (.inr (.inr (.inl hb)))))
    rm := ownsRow_keeps h.rm hk fun b hb => hS b (hG b (.inr (.inr (.inr (.inr hb)))))
    own := h.own
    lt := fun b hb => Nat.lt_of_lt_of_le (h.lt b hb) hk.size
    deep := fun r t ht => ((h.deep r t ht).keeps hk fun b hb _ => hS b hb.1).mono fun b hb => hb.1
    apq := h.apq
    app := h.app
    apc := h.apc
    apt := h.apt }⟩
theorem IsR.lt {w : World} {q : Nat} {M : WM} {G : Nat → Prop} (h : IsR w q M G) : ∀ b, G b → b < w.heap.size := by
  obtain ⟨sP, sC, sT, sM, h⟩ := h
  exact h.lt
structure Both (w : World) (p q : Nat) (M N : WM) (F G : Nat → Prop) : Prop where
  W : IsW w p M F
  R : IsR w q N G
  ap : ∀ b, F b → ¬ G b
  al : Alike M N
  one : ∀ x ∈ N.things, (thc x.2).all (·.oneCell') = true
  may : GMay M
  wfs : ∀ x ∈ M.things, x.2.v.wf ∧ (listV x.2.vs).wf
  cutM : ∀ x ∈ M.cuts, x = false
  cutN : ∀ b ∈ N.cuts.drop 1, b = false
  cutL : (N.cuts.drop 1).length = N.parents.length
  kp : ∀ r t, M.at r = some t → t.kind = 11 → t.tgt ≤ M.last
section
variable {w w' : World} {p q : Nat} {M N : WM} {F G : Nat → Prop}
theorem Both.keeps {S : Nat → Prop} (h : Both w p q M N F G) (hk : Keeps S w w') (hF : ∀ b, F b → ¬ S b) (hG : ∀ b, G b → ¬ S b) : Both w' p q M N F G :=
  ⟨h.W.keeps hk hF, h.R.keeps hk hG, h.ap, h.al, h.one, h.may, h.wfs, h.cutM, h.cutN, h.cutL, h.kp⟩
theorem Both.below (h : Both w p q M N F G) (hb : Below w.heap.size w w') : Both w' p q M N F G :=
  h.keeps (S := fun _ => False) (Keeps.of_below hb) (fun _ _ h => h) (fun _ _ h => h)
theorem Both.lenM (h : Both w p q M N F G) : (M.things.length : Int) ≤ M.last := h.W.ok.len_le
theorem Both.good (h : Both w p q M N F G) (hl : M.last ≤ 100000) : RGood N where
  ok := ⟨by have := h.lenM; have := h.al.things.1; omega, fun x hx => by
    obtain ⟨y, hy, e1, vl, vals, e2⟩ := h.al.things.mem' hx
    have hk := (h.W.ok.wf y.1 y.2 (h.W.ok.at_of_mem hy)).kind
    exact ⟨h.one x hx, by rw [e2]; exact hk.1, by rw [e2]; show y.2.kind ≤ 255; omega⟩⟩
  last := by rw [h.al.last]; exact h.W.ok.last
  mades := fun i x hx => h.W.ok.mades i x (by rw [← h.al.made]; exact hx)
theorem Both.rmay (h : Both w p q M N F G) : RMay N := fun x hx => by
  obtain ⟨y, hy, -, vl, vals, e2⟩ := h.al.things.mem' hx
  obtain ⟨m1, m2, m3⟩ := h.may y.1 y.2 (h.W.ok.at_of_mem hy)
  rw [e2]
  exact ⟨depV_may m1, fun v hv => depV_may (m2 v hv), m3⟩
theorem Both.add {F' G' : Nat → Prop} {t t' : Th} (h : Both w p q M N F G) (hW : IsW w' p (M.add t) F') (hR : IsR w' q (N.add t') G') (hap : ∀ b, F' b → ¬ G' b) (ht : ThLike t t') (hone : (thc t').all (·.oneCell') = true)
    (hmay : mayV t.v = true ∧ (∀ v ∈ t.vs, mayV v = true) ∧ t.vs.length ≤ 1000) (hwf : t.v.wf ∧ (listV t.vs).wf) (hkp : t.kind = 11 → t.tgt ≤ M.last + 1) : Both w' p q (M.add t) (N.add t') F' G' where
  W := hW
  R := hR
  ap := hap
  al := h.al.add ht
  one := fun x hx => by
    rcases List.mem_append.1 (show x ∈ N.things ++ [(N.last + 1, t')] from hx) with hx | hx
    · exact h.one x hx
    · rw [List.mem_singleton.1 hx]
      exact hone
  may := fun r u hu => by
    rw [WM.add_at h.W.ok] at hu
    split at hu
    · cases hu
      exact hmay
    · exact h.may r u hu
  wfs := fun x hx => by
    rcases List.mem_append.1 (show x ∈ M.things ++ [(M.last + 1, t)] from hx) with hx | hx
    · exact h.wfs x hx
    · rw [List.mem_singleton.1 hx]
      exact hwf
  cutM := h.cutM
  cutN := h.cutN
  cutL := h.cutL
  kp := fun r u hu hk => by
    rw [WM.add_at h.W.ok] at hu
    show u.tgt ≤ M.last + 1
    split at hu
    · cases hu
      exact hkp hk
    · have := h.kp r u hu hk
      omega
end
end Go.Proofs.YthaliljaglldjaaGreat
/- Lists of values that may be written over; a list of values that a function makes, which may be. -/
namespace Go.Proofs.YthaliljaglldjaaGreat
open Go.RowKit Go.ChangeMaps Go.MapKept
inductive Sp (w : World) (F : Nat → Prop) : Nat → Value → Prop
  | mk (n : Nat) (pa : Option Addr) (len c : Nat) (raw : Nat → Value) (hl : len ≤ 600)
      (h : ∀ i, i < len → ∃ b k x s r, pa = some ⟨b, 0, none⟩ ∧ F b ∧ w.rangeAt b (i * 5) [.int .u8 k, .int .i64 x, .string s, raw i, .int .i64 r] ∧ w.there b (i * 5) 5)
      (hr : ∀ i, i < len → Sp w F n (raw i)) : Sp w F (n + 1) (.slice pa len c)
theorem Sp.nil (w : World) (F : Nat → Prop) (n c : Nat) (pa : Option Addr) : Sp w F (n + 1) (.slice pa 0 c) :=
  .mk n pa 0 c (fun _ => undef) (Nat.zero_le _) (fun i h => absurd h (Nat.not_lt_zero i)) (fun i h => absurd h (Nat.not_lt_zero i))
theorem Sp.form {w : World} {F : Nat → Prop} {n : Nat} {u : Value} (h : Sp w F n u) : ∃ m p l c, n = m + 1 ∧ u = .slice p l c ∧ l ≤ 600 := by
  cases h with
  | mk n pa len c raw hl h hr => exact ⟨n, pa, len, c, rfl, rfl, hl⟩
theorem Sp.lt {w : World} {F : Nat → Prop} {n : Nat} {u : Value} (h : Sp w F n u) : Sp w (fun b => F b ∧ b < w.heap.size) n u := by
  induction h with
  | mk n pa len c raw hl h hr ih =>
    refine .mk n pa len c raw hl (fun i hi => ?_) ih
    obtain ⟨b, k, x, s, r, h1, h2, h3, h4⟩ := h i hi
    exact ⟨b, k, x, s, r, h1, ⟨h2, World.block_lt_of_cell? _ _ (h3 0 _ rfl)⟩, h3, h4⟩
theorem Sp.mono {w : World} {F F' : Nat → Prop} {n : Nat} {u : Value} (h : Sp w F n u) (hF : ∀ b, F b → F' b) : Sp w F' n u := by
  induction h with
  | mk n pa len c raw hl h hr ih =>
    refine .mk n pa len c raw hl (fun i hi => ?_) ih
    obtain ⟨b, k, x, s, r, h1, h2, h3, h4⟩ := h i hi
    exact ⟨b, k, x, s, r, h1, hF b h2, h3, h4⟩
theorem rangeAt_block {w w' : World} {b o : Nat} {cs : List Value} (h : w.rangeAt b o cs) (e : w'.heap[b]? = w.heap[b]?) : w'.rangeAt b o cs := fun j v hj => (World.cell?_of_block (a := ⟨b, o + j, none⟩) e).trans (h j v hj)
theorem there_block {w w' : World} {b o n : Nat} (h : w.there b o n) (e : w'.heap[b]? = w.heap[b]?) : w'.there b o n := fun j hj => by
  obtain ⟨h1, h2⟩ := h j hj
  exact ⟨(congrArg Option.isSome (World.cell?_of_block (a := ⟨b, o + j, none⟩) e)).trans h1, (World.frozen?_of_block (a := ⟨b, o + j, none⟩) e).trans h2⟩
theorem Sp.keeps {w w' : World} {S F : Nat → Prop} {n : Nat} {u : Value} (h : Sp w F n u) (hk : Keeps S w w') (hS : ∀ b, S b → F b → False) : Sp w' F n u := by
  induction h with
  | mk n pa len c raw hl h hr ih =>
    refine .mk n pa len c raw hl (fun i hi => ?_) ih
    obtain ⟨b, k, x, s, r, h1, h2, h3, h4⟩ := h i hi
    have e := hk.block b (World.block_lt_of_cell? _ _ (h3 0 _ rfl)) (fun hs => hS b hs h2)
    exact ⟨b, k, x, s, r, h1, h2, rangeAt_block h3 e, there_block h4 e⟩
theorem Sp.on {w w' : World} {F : Nat → Prop} {n : Nat} {u : Value} (h : Sp w F n u) (hb : Below w.heap.size w w') : Sp w' F n u :=
  h.keeps (S := fun _ => False) (Keeps.of_below hb) (fun _ h _ => h)
theorem Sp.ent {w : World} {F : Nat → Prop} {n : Nat} {p : Option Addr} {len c : Nat} (h : Sp w F (n + 1) (.slice p len c)) {i : Nat} (hi : i < len) :
    ∃ b k x s r raw, p = some ⟨b, 0, none⟩ ∧ F b ∧ w.rangeAt b (i * 5) [.int .u8 k, .int .i64 x, .string s, raw, .int .i64 r] ∧ w.there b (i * 5) 5 ∧ Sp w F n raw := by
  cases h with
  | mk n pa len c raw hl h hr =>
    obtain ⟨b, k, x, s, r, h1, h2, h3, h4⟩ := h i hi
    exact ⟨b, k, x, s, r, raw i, h1, h2, h3, h4, hr i hi⟩
theorem Sp.over {w : World} {F : Nat → Prop} {n : Nat} {u : Value} (h : Sp w F n u) (b j : Nat) (k x r : Int) (s : ByteArray) :
    Sp (w.setCells b (j * 5) [.int .u8 k, .int .i64 x, .string s, .slice none 0 0, .int .i64 r]) F n u := by
  induction h with
  | mk n pa len c raw hl h hr ih =>
    refine .mk n pa len c (fun i => if pa = some ⟨b, 0, none⟩ ∧ i = j then .slice none 0 0 else raw i) hl (fun i hi => ?_) (fun i hi => ?_)
    · obtain ⟨b', k', x', s', r', h1, h2, h3, h4⟩ := h i hi
      have th : (w.setCells b (j * 5) [.int .u8 k, .int .i64 x, .string s, .slice none 0 0, .int .i64 r]).there b' (i * 5) 5 := World.there_setCells h4 _ _ _
      by_cases hb : b' = b ∧ i = j
      · obtain ⟨rfl, rfl⟩ := hb
        refine ⟨b', k, x, s, r, h1, h2, ?_, th⟩
        rw [if_pos ⟨h1, rfl⟩]
        exact World.rangeAt_setCells_same _ _ _ _ h4
      · refine ⟨b', k', x', s', r', h1, h2, ?_, th⟩
        rw [if_neg (fun e => hb ⟨by have := h1.symm.trans e.1; injection this with this; injection this, e.2⟩)]
        refine World.rangeAt_setCells_apart h3 _ _ _ ?_
        by_cases e : b' = b
        · have hij : i ≠ j := fun h => hb ⟨e, h⟩
          refine .inr ?_
          simp
          omega
        · exact .inl e
    · show Sp _ F n (if pa = some ⟨b, 0, none⟩ ∧ i = j then .slice none 0 0 else raw i)
      split
      · obtain ⟨m, _, _, _, rfl, -⟩ := (hr i hi).form
        exact Sp.nil _ _ _ _ _
      · exact ih i hi
theorem Sp.of_row {w : World} {base n : Nat} {u : Value} {l : List Val} {raw : Nat → Value} {F : Nat → Prop} (hrow : w.ownsRow base 27 5 u l.length (vflat l raw)) (hl : l.length ≤ 600) (hr : ∀ i v, l[i]? = some v → Sp w F n (raw i)) : Sp w (fun y => F y ∨ base ≤ y) (n + 1) u := by
  obtain ⟨h1, ⟨rfl, h0⟩ | ⟨g, cap, cur, rfl, hg, hb, hc, hm, hcs, ht⟩⟩ := hrow
  · exact Sp.nil _ _ _ _ _
  · refine Sp.mk n _ _ _ raw hl (fun i hi => ?_) (fun i hi => (hr i _ (List.getElem?_eq_getElem hi)).mono fun _ h => .inl h)
    have hv : l[i]? = some l[i] := List.getElem?_eq_getElem hi
    have key : w.rangeAt g (i * 5) (vcs l[i] (raw i)).toList := fun k x hx => by
      rw [Array.getElem?_toList] at hx
      have h2 := vflat_at hv hx
      rw [← ht, List.getElem?_take] at h2
      split at h2
      · rw [cell_blk hb, ← Array.getElem?_toList]
        exact h2
      · cases h2
    refine ⟨g, _, _, _, _, rfl, .inr hg, key, fun k hk => ⟨?_, frozen_blk hb _⟩⟩
    have h5 : k < (vcs l[i] (raw i)).toList.length := hk
    rw [key k _ (List.getElem?_eq_getElem h5)]
    rfl
def RowS (w : World) (base n : Nat) (u : Value) (l : List Val) : Prop :=
  ∃ raw : Nat → Value, w.ownsRow base 27 5 u l.length (vflat l raw) ∧ ∀ i v, l[i]? = some v → SlAt w (fun b => base ≤ b ∧ u.ownBlock ≠ some b) (raw i) v.l ∧ Sp w (fun b => base ≤ b ∧ u.ownBlock ≠ some b) n (raw i)
theorem RowS.nil (w : World) (base n : Nat) : RowS w base n (.slice none 0 0) [] := ⟨fun _ => .slice none 0 0, World.ownsRow_nil _ _ _ _, fun i v h => by simp at h⟩
theorem RowS.toV {w : World} {base n : Nat} {u : Value} {l : List Val} (h : RowS w base n u l) : RowV w base u l := by
  obtain ⟨raw, h1, h2⟩ := h
  exact ⟨raw, h1, fun i v hv => (h2 i v hv).1⟩
theorem RowS.keeps {w w' : World} {S : Nat → Prop} {base n : Nat} {u : Value} {l : List Val} (h : RowS w base n u l) (hk : Keeps S w w') (hS : ∀ b, S b → base ≤ b → False) : RowS w' base n u l := by
  obtain ⟨raw, ⟨h1, h2⟩, h3⟩ := h
  exact ⟨raw, ⟨h1, h2.imp id fun ⟨g, cap, cur, e1, e2, e3, e4⟩ => ⟨g, cap, cur, e1, e2, hk.none e3 (fun e => hS g e e2), e4⟩⟩, fun i v hv => ⟨(h3 i v hv).1.keeps hk fun b hb hF => hS b hb hF.1, (h3 i v hv).2.keeps hk fun b hb hF => hS b hb hF.1⟩⟩
theorem RowS.at {w : World} {base n : Nat} {u : Value} {l : List Val} (h : RowS w base n u l) : SlAt w (fun y => base ≤ y) u l := h.toV.at
theorem RowS.own {w : World} {base n : Nat} {u : Value} {l : List Val} (h : RowS w base n u l) : ∀ b, u.ownBlock = some b → base ≤ b ∧ b < w.heap.size := h.toV.own
theorem RowS.sp {w : World} {base n : Nat} {u : Value} {l : List Val} (h : RowS w base n u l) (hl : l.length ≤ 600) : Sp w (fun y => base ≤ y) (n + 1) u := by
  obtain ⟨raw, h1, h2⟩ := h
  exact (Sp.of_row h1 hl fun i v hv => (h2 i v hv).2).mono fun y hy => hy.elim (fun h => h.1) id
theorem append_valT {w : World} {ops : Array Oper} {rest : List Oper} {o : Oper} {a : Act} {Q : Exit → Act → World → Prop} (hgd : o.guard = none) (s x : Operand)
    (ho : o.op = .call { callee := .builtin .append, args := #[s, x], argTypes := #[24, 24] }) (base n : Nat)
    (u : Value) (l : List Val) (hs : a.eval s = u) (hown : Hid (RowS w base n u l)) (y : Val) (raw : Value) (hy : Hid (SlAt w (fun b => base ≤ b ∧ u.ownBlock ≠ some b) raw y.l ∧ Sp w (fun b => base ≤ b ∧ u.ownBlock ≠ some b) n raw)) (hx : a.eval x = .slice (some ⟨w.heap.size, 0, none⟩) 1 1)
    (hn : Hid ((l.length : Int) ≤ 1000)) (hbase : Hid (base ≤ w.heap.size))
    (h : ∀ v' w', Hid (RowS w' base n v' (l ++ [y])) → Hid (Keeps (fun b => u.ownBlock = some b) w w') → wpList Tryz.prog ops Q rest (a.put o.dst v') w') : wpList Tryz.prog ops Q (o :: rest) a (w.alloc (.cells (vcs y raw) 27)) := by
  obtain ⟨i, hi, hz, h1, h2⟩ := info_parts infoVal
  have hn' := hn.out
  obtain ⟨rw0, hrow, hel⟩ := hown.out
  have hyo := hy.out
  obtain ⟨p, c, e⟩ := hyo.1.form
  have hone : ∀ t ∈ (vcs y raw).toList, t.oneCell' = true := by
    intro t ht
    rw [e] at ht
    simp [vcs] at ht
    rcases ht with rfl | rfl | rfl | rfl | rfl <;> rfl
  refine wpList_append_own_at _ hgd s x 24 ho base 27 i (.agg zV) 5 64 Tryz.underlying24 hi hz h1 h2 rfl (by decide) u l.length _ hs (hrow.alloc _) ⟨w.heap.size, 0, none⟩ 1 1 (vcs y raw).toList hx (by simp [vcs]) (fun j t hj => by
    rw [Addr.add_lit, Nat.zero_add, cell_blk (blk_new w _)]
    simpa using hj) hone (by unfold maxLen; omega) (by omega) (by have := hbase.out; simp; omega) ?_
  intro v' w' r1 r2 _ r4
  have hg : w.grownBy w' u.ownBlock := (World.grownBy_alloc w _ _).trans r2
  have hk : Keeps (fun b => u.ownBlock = some b) w w' := ⟨hg.os, hg.tape, hg.output, hg.size, fun k hk hne => hg.block k hk (fun e => hne e.symm)⟩
  refine h v' w' ?_ hk
  refine ⟨fun k => if k < l.length then rw0 k else raw, ?_, fun k v hv => ?_⟩
  · rw [vflat_snoc, List.length_append]
    exact r1
  · have hF : ∀ b, (base ≤ b ∧ u.ownBlock ≠ some b) ∧ b < w.heap.size → base ≤ b ∧ v'.ownBlock ≠ some b := fun b hb => ⟨hb.1.1, fun e' => by
        rcases r4 with r4 | r4
        · exact hb.1.2 (r4 ▸ e')
        · rw [r4] at e'
          simp at e'
          have := hb.2
          omega⟩
    have keep : ∀ {rv : Value} {vl : List Val}, SlAt w (fun b => base ≤ b ∧ u.ownBlock ≠ some b) rv vl ∧ Sp w (fun b => base ≤ b ∧ u.ownBlock ≠ some b) n rv → SlAt w' (fun b => base ≤ b ∧ v'.ownBlock ≠ some b) rv vl ∧ Sp w' (fun b => base ≤ b ∧ v'.ownBlock ≠ some b) n rv := fun hS =>
      ⟨((SlAt.lt hS.1).keeps hk (fun b h1 h2 => h2.1.2 h1)).mono hF, ((Sp.lt hS.2).keeps hk (fun b h1 h2 => h2.1.2 h1)).mono hF⟩
    show SlAt w' _ (if k < l.length then rw0 k else raw) v.l ∧ Sp w' _ n (if k < l.length then rw0 k else raw)
    by_cases hkl : k < l.length
    · rw [if_pos hkl]
      rw [List.getElem?_append_left hkl] at hv
      exact keep (hel k v hv)
    · rw [if_neg hkl]
      have : k = l.length := by
        have := (List.getElem?_eq_some_iff.1 hv).1
        simp at this
        omega
      subst this
      simp at hv
      subst hv
      exact keep hyo
end Go.Proofs.YthaliljaglldjaaGreat
/- room of posternlaw08 at any value. -/
namespace Go.Proofs.YthaliljaglldjaaGreat
open Go.RowKit Go.ChangeMaps Go.MapKept
theorem execOp_stVr7 (ρ : Operand → Value) (ty : TypeId) (pos : String) (af : Array Edge) (g : Option (Nat × Bool)) :
    execOp ρ { dst := none, op := .store 27 (.tmp 2) (.tmp 7), type := ty, pos := pos, after := af, guard := g } = stV (ρ (.tmp 2)) (ρ (.tmp 7)) := rfl
theorem results_Room (w : World) (b : Nat) (v : Value) (B : Bool) (ts : Array Value) {x0 x1 x2 x3 x4 : Value} (h : w.heap[b]? = some (.cells #[x0, x1, x2, x3, x4] 27 (0, 0))) (h2 : ts[2]? = some (.pointer (some ⟨b, 0, none⟩))) (h3 : ts[3]? = some (.bool B)) (hv : v = .agg #[x0, x1, x2, x3, x4]) :
    (results Tryz.f10 ts).run Tryz.prog w = .ok (.tuple #[v, .bool B]) w := by
  obtain ⟨⟨c0, c1, c2, c3, c4⟩, -⟩ := cells5 h
  simp [results, Tryz.results10, go_sem, c0, c1, c2, c3, c4, h2, h3, hv]
end Go.Proofs.YthaliljaglldjaaGreat
/- copied and room of posternlaw08 at any value, with contents: what is answered as small enough is a copy in memory of its own, that may be written over. -/
namespace Go.Proofs.YthaliljaglldjaaGreat
open Go.RowKit Go.ChangeMaps Go.MapKept
def copT (f : Int → Val → Int × Bool) (st : Int × Bool) (y : Val) : Int × Bool := if st.2 = true then f st.1 y else st
def copF : Nat → Int → Int → Val → Int × Bool
  | 0, x, _, _ => (x - 1, false)
  | n + 1, x, d, v => if x - 1 < 0 ∨ d < 0 ∨ 600 < (v.l.length : Int) then (x - 1, false) else v.l.foldl (copT fun x y => copF n x (d - 1) y) (x - 1, true)
theorem copF_bad {n : Nat} {x d : Int} {v : Val} (h : x - 1 < 0 ∨ d < 0 ∨ 600 < (v.l.length : Int)) : copF n x d v = (x - 1, false) := by
  cases n with
  | zero => rfl
  | succ n => exact if_pos h
theorem copF_go {n : Nat} {x d : Int} {v : Val} (h : ¬ (x - 1 < 0 ∨ d < 0 ∨ 600 < (v.l.length : Int))) : copF (n + 1) x d v = v.l.foldl (copT fun x y => copF n x (d - 1) y) (x - 1, true) := if_neg h
theorem copT_no (f : Int → Val → Int × Bool) : ∀ (l : List Val) (x : Int), l.foldl (copT f) (x, false) = (x, false)
  | [], _ => rfl
  | _ :: l, x => copT_no f l x
theorem copT_stop {f : Int → Val → Int × Bool} {l : List Val} {i : Nat} {y : Val} {st : Int × Bool} {x x5 : Int} (hy : l[i]? = some y) (h : (l.take i).foldl (copT f) st = (x, true)) (hf : f x y = (x5, false)) : l.foldl (copT f) st = (x5, false) := by
  have e : l = l.take i ++ (y :: l.drop (i + 1)) := by
    obtain ⟨hi, rfl⟩ := List.getElem?_eq_some_iff.1 hy
    rw [← List.drop_eq_getElem_cons hi, List.take_append_drop]
  rw [e, List.foldl_append, h, List.foldl_cons]
  show List.foldl (copT f) (f x y) _ = _
  rw [hf]
  exact copT_no f _ _
theorem copT_next {f : Int → Val → Int × Bool} {l : List Val} {i : Nat} {y : Val} {st : Int × Bool} {x x5 : Int} {b : Bool} (hy : l[i]? = some y) (h : (l.take i).foldl (copT f) st = (x, true)) (hf : f x y = (x5, b)) : (l.take (i + 1)).foldl (copT f) st = (x5, b) := by
  rw [List.take_add_one, hy, List.foldl_append, h]
  exact hf
theorem copT_le {f : Int → Val → Int × Bool} (hf : ∀ x y x', f x y = (x', true) → 0 ≤ x' ∧ x' ≤ x) : ∀ (l : List Val) (x x' : Int), 0 ≤ x → l.foldl (copT f) (x, true) = (x', true) → 0 ≤ x' ∧ x' ≤ x
  | [], x, x', h0, h => by
    cases h
    exact ⟨h0, Int.le_refl _⟩
  | y :: l, x, x', h0, h => by
    have h' : l.foldl (copT f) (f x y) = (x', true) := h
    obtain ⟨z, hz⟩ : ∃ z, f x y = z := ⟨_, rfl⟩
    obtain ⟨x1, b1⟩ := z
    rw [hz] at h'
    cases b1 with
    | false =>
      rw [copT_no] at h'
      cases h'
    | true =>
      have h1 := hf x y x1 hz
      have h2 := copT_le hf l x1 x' h1.1 h'
      omega
theorem copF_le : ∀ (n : Nat) (x d : Int) (v : Val) (x' : Int), copF n x d v = (x', true) → 0 ≤ x' ∧ x' ≤ x
  | 0, x, d, v, x', h => by cases h
  | n + 1, x, d, v, x', h => by
    by_cases hb : x - 1 < 0 ∨ d < 0 ∨ 600 < (v.l.length : Int)
    · rw [copF_bad hb] at h
      cases h
    · rw [copF_go hb] at h
      have := copT_le (fun x y x' h => copF_le n x (d - 1) y x' h) _ _ _ (by omega) h
      omega
def CopQ (w w' : World) (n : Nat) (raw' : Value) (l : List Val) : Prop := SlAt w' (fun b => w.heap.size ≤ b) raw' l ∧ Sp w' (fun b => w.heap.size ≤ b) n raw'
def CopPostT (w : World) (v : Val) (q n : Nat) (st : Int × Bool) (e : Ending) (w' : World) : Prop :=
  ∃ raw' B x', st = (x', B) ∧ e = .returned (.tuple #[.agg (vcs v raw'), .bool B]) ∧ (∃ p n c, raw' = .slice p n c) ∧ Keeps (fun b => b = q) w w' ∧ w'.heap[q]? = some (.cells #[.int .i64 x'] 3 (0, 0)) ∧ (B = true → CopQ w w' n raw' v.l)
theorem copPostT {w w' : World} {kind nn r : Int} {s : ByteArray} {l : List Val} {q k : Nat} (p : Option Addr) (n c : Nat) {x' : Int} {st : Int × Bool} (hs : st = (x', false)) (hk : Keeps (fun b => b = q) w w') (hc : w'.heap[q]? = some (.cells #[.int .i64 x'] 3 (0, 0))) :
    CopPostT w ⟨kind, nn, s, l, r⟩ q k st (.returned (.tuple #[.agg #[.int .u8 kind, .int .i64 nn, .string s, .slice p n c, .int .i64 r], .bool false])) w' := ⟨_, false, x', hs, rfl, ⟨p, n, c, rfl⟩, hk, hc, fun e => by cases e⟩
theorem copPostY {w w' : World} {kind nn r : Int} {s : ByteArray} {l : List Val} {q k : Nat} (p : Option Addr) (n c : Nat) {x' : Int} {st : Int × Bool} (hs : st = (x', true)) (hk : Keeps (fun b => b = q) w w') (hc : w'.heap[q]? = some (.cells #[.int .i64 x'] 3 (0, 0))) (hq : CopQ w w' k (.slice p n c) l) :
    CopPostT w ⟨kind, nn, s, l, r⟩ q k st (.returned (.tuple #[.agg #[.int .u8 kind, .int .i64 nn, .string s, .slice p n c, .int .i64 r], .bool true])) w' := ⟨_, true, x', hs, rfl, ⟨p, n, c, rfl⟩, hk, hc, fun _ => hq⟩
def CopCT (n : Nat) : Prop := ∀ (v : Val) (raw : Value) (w : World) (F : Nat → Prop) (q : Nat) (x d : Int), d < n → d ≤ 40 → 0 ≤ x ∧ x ≤ 600 → SlAt w F raw v.l → ¬ F q → w.heap[q]? = some (.cells #[.int .i64 x] 3 (0, 0)) →
  Calls Tryz.prog 63 #[.agg (vcs v raw), .pointer (some ⟨q, 0, none⟩), .int .i64 d] w (CopPostT w v q (n + 1) (copF n x d v))
structure CopS (w : World) (A : Array Value) (v : Val) (q b8 n : Nat) (u : Value) (l : List Val) (x : Int) (wr : World) : Prop where
  at0 : Cop0 w A q x wr
  hb8 : w.heap.size + 2 ≤ b8
  copy : wr.heap[b8]? = some (.cells (vcs v u) 27 (0, 0))
  row : RowS wr (b8 + 1) n u l
theorem CopS.keeps {w wr w' : World} {A : Array Value} {v : Val} {q b8 n : Nat} {u : Value} {l : List Val} {x x' : Int} (h : CopS w A v q b8 n u l x wr) (hk : Keeps (fun b => b = q) wr w') (hq : q < w.heap.size) (hc : w'.heap[q]? = some (.cells #[.int .i64 x'] 3 (0, 0))) : CopS w A v q b8 n u l x' w' where
  at0 := ⟨h.at0.keeps.trans hk (fun _ _ h => h) (fun _ _ h => h), hk.none h.at0.box (fun e => by have e' : w.heap.size = q := e; omega), hk.none h.at0.res (fun e => by have e' : w.heap.size + 1 = q := e; omega), hc⟩
  hb8 := h.hb8
  copy := hk.none h.copy (fun e => by have := h.hb8; have e' : b8 = q := e; omega)
  row := h.row.keeps hk fun b e hb => by have := h.hb8; have e' : b = q := e; omega
theorem CopS.below {w wr w' : World} {A : Array Value} {v : Val} {q b8 n : Nat} {u : Value} {l : List Val} {x : Int} (h : CopS w A v q b8 n u l x wr) (hq : q < w.heap.size) (hb : Below wr.heap.size wr w') : CopS w A v q b8 n u l x w' :=
  h.keeps (Keeps.of_below hb) hq (below_blk hb h.at0.cnt)
theorem CopS.more {w wr w1 : World} {A : Array Value} {kind nn r : Int} {s : ByteArray} {lv : List Val} {q b8 n : Nat} {u u' : Value} {l l' : List Val} {x : Int} (h : CopS w A ⟨kind, nn, s, lv, r⟩ q b8 n u l x wr) (hq : q < w.heap.size) (hg : Keeps (fun b => u.ownBlock = some b) wr w1) (hr : RowS w1 (b8 + 1) n u' l') :
    CopS w A ⟨kind, nn, s, lv, r⟩ q b8 n u' l' x (w1.setCell ⟨b8, 3, none⟩ u') ∧ w1.heap[b8]? = some (.cells #[.int .u8 kind, .int .i64 nn, .string s, u, .int .i64 r] 27 (0, 0)) := by
  have hne : ∀ k, u.ownBlock = some k → b8 + 1 ≤ k := fun k e => (h.row.own k e).1
  have hb8 := h.hb8
  have hk : Keeps (fun b => b8 + 1 ≤ b) wr w1 := hg.mono fun b _ e => hne b e
  have hcp := hk.none h.copy (by show ¬ b8 + 1 ≤ b8; omega)
  have old : ∀ {k : Nat} {o : Obj}, wr.heap[k]? = some o → k < b8 → (w1.setCell ⟨b8, 3, none⟩ u').heap[k]? = some o := fun {k o} e hk8 => by
    rw [Below.heap_setCell w1 ⟨b8, 3, none⟩ _ _ (by simp; omega)]
    exact hk.none e (by show ¬ b8 + 1 ≤ k; omega)
  refine ⟨⟨⟨?_, old h.at0.box (by omega), old h.at0.res (by omega), old h.at0.cnt (by omega)⟩, hb8, ?_, ?_⟩, hcp⟩
  · refine (h.at0.keeps.trans hk (T := fun b => b = q) (fun _ _ h => h) (fun y hy h => by have : b8 + 1 ≤ y := h; omega)).trans (Keeps.setCell (S := fun b => b = b8) w1 ⟨b8, 3, none⟩ u' rfl) (fun _ _ h => h) (fun y hy h => by have : y = b8 := h; omega)
  · rw [blk_setCell hcp]
    rfl
  · exact hr.keeps (Keeps.setCell (S := fun b => b = b8) w1 ⟨b8, 3, none⟩ u' rfl) fun b e hb => by have e' : b = b8 := e; omega
theorem CopS.copQ {w wr w' : World} {A : Array Value} {v : Val} {q b8 n : Nat} {u : Value} {l : List Val} {x : Int} {c : Array Value} (h : CopS w A v q b8 n u l x wr) (hl : l.length ≤ 600) (e : w' = wr.setRow (w.heap.size + 1) c) : CopQ w w' (n + 1) u l := by
  have hk := keepsRow wr (w.heap.size + 1) c
  rw [← e] at hk
  have hr := h.row.keeps hk fun b e hb => by have := h.hb8; have e' : b = w.heap.size + 1 := e; omega
  exact ⟨hr.at.mono fun b hb => by have := h.hb8; omega, (hr.sp hl).mono fun b hb => by have := h.hb8; omega⟩
attribute [local go_sem ↓] execOp_stVc31 execOp_stVc55 execOp_stVc62 execOp_ldVc46 in
set_option maxHeartbeats 4000000 in
set_option maxRecDepth 20000 in
theorem copT_step (n : Nat) (ih : ∀ m, n = m + 1 → CopCT m) : CopCT n := by
  intro v raw w F q x d hd hd40 hx hS hFq hq
  obtain ⟨pa, c, rfl⟩ := hS.form
  obtain ⟨kind, nn, s, l, r⟩ := v
  have IH := (show Hid _ from ih)
  have HS := (show Hid (SlAt w F (.slice pa l.length c) l) from hS)
  have HFq := (show Hid (¬ F q) from hFq)
  have hqlt := blk_lt hq
  have HX0 : Hid (wrap64 (x - 1) = x - 1 ∧ 0 ≤ x ∧ x ≤ 600) := ⟨by unfold wrap64; omega, hx⟩
  have hq2 : ((w.alloc (.cells #[.int .u8 kind, .int .i64 nn, .string s, .slice pa l.length c, .int .i64 r] 27)).alloc (.cells zV 27)).heap[q]? = some (.cells #[.int .i64 x] 3 (0, 0)) := blk_old _ _ (blk_old _ _ hq)
  have hcq := cell_blk hq2 0
  have hfq := frozen_blk hq2 0
  have H2 := (show Hid _ from hq2)
  have Hq := (show Hid _ from hq)
  clear ih hS hFq hq hq2 hx
  simp only [vcs]
  simp only [zV] at hcq hfq
  go_enter Tryz.func63, Tryz.ntmps63
  go_upto_region 2 with fail
  have HC : Hid (Cop0 w #[.int .u8 kind, .int .i64 nn, .string s, .slice pa l.length c, .int .i64 r] q (wrap64 (x - 1)) (((w.setCell ⟨q, 0, none⟩ (.int .i64 (wrap64 (x - 1)))).alloc (.cells #[.int .u8 kind, .int .i64 nn, .string s, .slice pa l.length c, .int .i64 r] 27)).alloc (.cells zV 27))) := by
    refine ⟨((Keeps.setCell (S := fun b => b = q) w ⟨q, 0, none⟩ _ rfl).alloc _).alloc _, ?_, ?_, ?_⟩
    · have := blk2_old (w.setCell ⟨q, 0, none⟩ (.int .i64 (wrap64 (x - 1)))) (.cells #[.int .u8 kind, .int .i64 nn, .string s, .slice pa l.length c, .int .i64 r] 27) (.cells zV 27)
      simpa using this
    · have := blk2_new (w.setCell ⟨q, 0, none⟩ (.int .i64 (wrap64 (x - 1)))) (.cells #[.int .u8 kind, .int .i64 nn, .string s, .slice pa l.length c, .int .i64 r] 27) (.cells zV 27)
      simpa using this
    · exact blk_old _ _ (blk_old _ _ (by rw [blk_setCell Hq.out]; rfl))
  simp only [zV] at HC
  revert HC
  generalize ((w.setCell _ _).alloc _).alloc _ = w3
  obtain ⟨X, hX⟩ : ∃ X, X = wrap64 (x - 1) := ⟨_, rfl⟩
  have HX := (show Hid (X = x - 1 ∧ 0 ≤ x ∧ x ≤ 600) from ⟨hX.trans HX0.out.1, HX0.out.2⟩)
  rw [← hX]
  clear hX HX0
  intro HC
  clear hcq hfq H2
  have hcq : w3.cell? ⟨q, 0, none⟩ = some (.int .i64 X) := by rw [cell_blk HC.out.cnt]; rfl
  obtain ⟨⟨a0, a1, a2, a3, a4⟩, -⟩ := cells5 HC.out.box
  by_cases hbad : X < 0 ∨ d < 0 ∨ 600 < (l.length : Int)
  · obtain ⟨hst, HE⟩ := HC.out.put (c' := #[.int .u8 kind, .int .i64 nn, .string s, .slice pa l.length c, .int .i64 r]) hqlt rfl (by simp [go_sem])
    clear HC
    have HCF : Hid (copF n x d ⟨kind, nn, s, l, r⟩ = (X, false)) := by
      show _ = _
      rw [HX.out.1]
      exact copF_bad (by rw [← HX.out.1]; exact hbad)
    by_cases h0 : X < 0
    · go_wp2_with fail
      refine bodyPost_ret (results_Cop _ _ _ _ _ (HE.out _ rfl).1 rfl rfl rfl) rfl (copPostT _ _ _ HCF.out (HE.out _ rfl).2.1 (HE.out _ rfl).2.2)
    · by_cases h1 : d < 0
      · go_wp2_with fail
        refine bodyPost_ret (results_Cop _ _ _ _ _ (HE.out _ rfl).1 rfl rfl rfl) rfl (copPostT _ _ _ HCF.out (HE.out _ rfl).2.1 (HE.out _ rfl).2.2)
      · have h2 : 600 < (l.length : Int) := by omega
        go_wp2_with fail
        refine bodyPost_ret (results_Cop _ _ _ _ _ (HE.out _ rfl).1 rfl rfl rfl) rfl (copPostT _ _ _ HCF.out (HE.out _ rfl).2.1 (HE.out _ rfl).2.2)
  · obtain ⟨h0, h1, h2⟩ : ¬ X < 0 ∧ ¬ d < 0 ∧ ¬ 600 < (l.length : Int) := ⟨fun h => hbad (.inl h), fun h => hbad (.inr (.inl h)), fun h => hbad (.inr (.inr h))⟩
    obtain ⟨m, rfl⟩ : ∃ m, n = m + 1 := by
      cases n with
      | zero => omega
      | succ m => exact ⟨m, rfl⟩
    have hwd : wrap64 (d - 1) = d - 1 := by unfold wrap64; omega
    have HCF : Hid (copF (m + 1) x d ⟨kind, nn, s, l, r⟩ = l.foldl (copT fun x y => copF m x (d - 1) y) (X, true)) := by
      show _ = _
      rw [HX.out.1]
      exact copF_go (by rw [← HX.out.1]; exact hbad)
    have HX1 : Hid (0 ≤ X ∧ X ≤ 600) := by have := HX.out; show _ ∧ _; omega
    clear hbad
    go_upto_region 7 with fail
    have HR : Hid (∃ u x', CopS w #[.int .u8 kind, .int .i64 nn, .string s, .slice pa l.length c, .int .i64 r] ⟨kind, nn, s, l, r⟩ q w3.heap.size (m + 1) u [] x' (w3.alloc (.cells #[.int .u8 kind, .int .i64 nn, .string s, .slice none 0 0, .int .i64 r] 27)) ∧ (l.take 0).foldl (copT fun x y => copF m x (d - 1) y) (X, true) = (x', true)) :=
      ⟨_, X, ⟨⟨HC.out.keeps.alloc _, blk_old _ _ HC.out.box, blk_old _ _ HC.out.res, blk_old _ _ HC.out.cnt⟩, by have := blk_lt HC.out.res; omega, blk_new _ _, RowS.nil _ _ _⟩, rfl⟩
    revert HR
    generalize w3.alloc _ = w4
    generalize w3.heap.size = b8
    intro HR
    clear HC hcq a0 a1 a2 a3 a4
    clear w3
    go_loopw [9] (fun vi wr => ∃ i : Nat, vi = .int .i64 i ∧ i ≤ l.length ∧ Hid (∃ u x', CopS w #[.int .u8 kind, .int .i64 nn, .string s, .slice pa l.length c, .int .i64 r] ⟨kind, nn, s, l, r⟩ q b8 (m + 1) u (l.take i) x' wr ∧ (l.take i).foldl (copT fun x y => copF m x (d - 1) y) (X, true) = (x', true))) (fun vi _ => l.length - (intOf vi).toNat)
    case atStart => exact ⟨0, rfl, Nat.zero_le _, HR⟩
    case round =>
      clear HR
      obtain ⟨i, rfl, hi, HR⟩ := hrel
      obtain ⟨u, x', hR, hfold⟩ := HR.out
      have HFo := (show Hid ((l.take i).foldl (copT fun x y => copF m x (d - 1) y) (X, true) = (x', true)) from hfold)
      clear hfold
      have HR := (show Hid _ from hR)
      obtain ⟨⟨a0, a1, a2, a3, a4⟩, -⟩ := cells5 hR.at0.box
      by_cases hil : i < l.length
      · obtain ⟨y, hy⟩ : ∃ y, l[i]? = some y := ⟨_, List.getElem?_eq_getElem hil⟩
        have hSr := HS.out.keeps hR.at0.keeps (fun b e hb => HFq.out (by have : b = q := e; rw [← this]; exact hb))
        obtain ⟨b, o, c', raw, hpe, hrg, -, -, hSx⟩ := hSr.range hy
        cases hpe
        obtain ⟨yk, yn, ys, yl, yr⟩ := y
        obtain ⟨pa2, c2, rfl⟩ := hSx.form
        have hld0 := loadV_mid hrg rfl
        have hld : (ldV (.pointer (some ⟨b, o + i * 5, none⟩))).run Tryz.prog wr = .ok (.value (.agg #[.int .u8 yk, .int .i64 yn, .string ys, .slice pa2 yl.length c2, .int .i64 yr])) wr := hld0
        have hiz : (i : Int) < (l.length : Int) := by omega
        have hwi : wrap64 ((i : Int) + 1) = (i : Int) + 1 := by unfold wrap64; omega
        have HSX := (show Hid (SlAt wr F (.slice pa2 yl.length c2) yl) from hSx)
        have HY0 : Hid (l[i]? = some ⟨yk, yn, ys, yl, yr⟩) := hy
        have HTk : Hid (l.take (i + 1) = l.take i ++ [⟨yk, yn, ys, yl, yr⟩]) := by show _ = _; rw [List.take_add_one, hy]; rfl
        clear hld0 hy hrg hSx hSr hR
        go_wp2_with fail
        refine (IH.out m rfl ⟨yk, yn, ys, yl, yr⟩ (.slice pa2 yl.length c2) _ F q x' (d - 1) (by omega) (by omega) (by have h1 := copT_le (fun x y x' h => copF_le m x (d - 1) y x' h) _ _ _ HX1.out.1 HFo.out; have := HX1.out; omega) HSX.out HFq.out HR.out.at0.cnt).mono ?_
        rintro e w5 ⟨raw', B, x5, hst5, rfl, ⟨pr, nr, cr, rfl⟩, hk5, hc5, hq5⟩
        have HF5 : Hid ((l.take (i + 1)).foldl (copT fun x y => copF m x (d - 1) y) (X, true) = (x5, B) ∧ (B = false → l.foldl (copT fun x y => copF m x (d - 1) y) (X, true) = (x5, false))) := ⟨copT_next HY0.out HFo.out hst5, fun e => copT_stop HY0.out HFo.out (by rw [← e]; exact hst5)⟩
        clear hst5 HFo HY0
        have HR5 := (show Hid _ from HR.out.keeps hk5 hqlt hc5)
        have HQ5 := (show Hid (B = true → CopQ wr w5 (m + 1) (.slice pr nr cr) yl ∧ b8 + 1 ≤ wr.heap.size ∧ (∀ b, u.ownBlock = some b → b < wr.heap.size)) from fun e => ⟨hq5 e, blk_lt HR.out.copy, fun b hb => (HR.out.row.own b hb).2⟩)
        have HB6 : Hid (Below w5.heap.size w5 (w5.alloc (.cells #[.int .u8 yk, .int .i64 yn, .string ys, .slice pr nr cr, .int .i64 yr] 27))) := (Below.refl _ _).alloc (Nat.le_refl _) _
        have HR6 := (show Hid _ from HR5.out.below hqlt HB6.out)
        clear hk5 hc5 hq5 HR HSX hld a0 a1 a2 a3 a4
        simp only [vcs]
        cases B with
        | false =>
          have HFx : Hid (copF (m + 1) x d ⟨kind, nn, s, l, r⟩ = (x5, false)) := HCF.out.trans (HF5.out.2 (by first | rfl | trivial))
          obtain ⟨hst, HE⟩ := HR6.out.at0.put (c' := #[.int .u8 kind, .int .i64 nn, .string s, .slice (some ⟨b, o, none⟩) l.length c, .int .i64 r]) hqlt rfl (by simp [go_sem])
          obtain ⟨⟨a0, a1, a2, a3, a4⟩, -⟩ := cells5 HR6.out.at0.box
          clear HR6 HR5 HB6 HQ5
          go_wp2_with fail
          refine bodyPost_ret (results_Cop _ _ _ _ _ (HE.out _ rfl).1 rfl rfl rfl) rfl (copPostT _ _ _ HFx.out (HE.out _ rfl).2.1 (HE.out _ rfl).2.2)
        | true =>
          go_upto_region 12 with fail
          have HY : Hid ((w5.alloc (.cells #[.int .u8 yk, .int .i64 yn, .string ys, .slice pr nr cr, .int .i64 yr] 27)).heap[w5.heap.size]? = some (.cells #[.int .u8 yk, .int .i64 yn, .string ys, .slice pr nr cr, .int .i64 yr] 27 (0, 0))) := blk_new _ _
          have HYy : Hid (SlAt (w5.alloc (.cells #[.int .u8 yk, .int .i64 yn, .string ys, .slice pr nr cr, .int .i64 yr] 27)) (fun b => b8 + 1 ≤ b ∧ u.ownBlock ≠ some b) (.slice pr nr cr) yl ∧ Sp (w5.alloc (.cells #[.int .u8 yk, .int .i64 yn, .string ys, .slice pr nr cr, .int .i64 yr] 27)) (fun b => b8 + 1 ≤ b ∧ u.ownBlock ≠ some b) (m + 1) (.slice pr nr cr)) := by
            obtain ⟨⟨q1, q2⟩, q3, q4⟩ := HQ5.out rfl
            have hf : ∀ b, wr.heap.size ≤ b → b8 + 1 ≤ b ∧ u.ownBlock ≠ some b := fun b hb => ⟨by omega, fun e => by have := q4 b e; omega⟩
            exact ⟨(q1.on HB6.out).mono hf, (q2.on HB6.out).mono hf⟩
          clear HB6 HR5 HQ5
          revert HR6 HY HYy
          generalize w5.alloc _ = w6
          generalize w5.heap.size = b10
          intro HR6 HY HYy
          clear w5
          have hcp := HR6.out.copy
          simp only [vcs] at hcp
          have e3 := cell_blk hcp 3
          obtain ⟨⟨y0, y1, y2, y3, y4⟩, -⟩ := cells5 HY.out
          have HRW := (show Hid _ from HR6.out.row)
          have HN : Hid (((l.take i).length : Int) ≤ 1000) := (by rw [List.length_take]; omega : ((l.take i).length : Int) ≤ 1000)
          have HBs : Hid (b8 + 1 ≤ w6.heap.size) := blk_lt HR6.out.copy
          clear hcp HY
          go_wp2_with (at_builtin; refine append_valT rfl _ _ rfl (b8 + 1) (m + 1) u (l.take i) rfl HRW ⟨yk, yn, ys, yl, yr⟩ (.slice pr nr cr) HYy rfl HN HBs ?_; intro v' w7 hrow hg
                       obtain ⟨p9, c9, e9⟩ := hrow.out.at.form
                       rw [← HTk.out] at e9
                       obtain ⟨n9, hn9⟩ : ∃ n9, n9 = (l.take (i + 1)).length := ⟨_, rfl⟩
                       rw [← hn9] at e9
                       subst e9
                       clear hn9
                       obtain ⟨hR7, hb7⟩ := HR6.out.more hqlt hg.out hrow.out
                       rw [← HTk.out] at hR7
                       have e7 := cell_blk hb7 3
                       have f7 := frozen_blk hb7 3
                       have HR7 := (show Hid _ from hR7)
                       clear hrow hg hR7 hb7 HR6 HRW e3 HYy HN HBs)
          go_roundw
          case rel => exact ⟨i + 1, by go_num, by omega, _, _, HR7.out, HF5.out.1⟩
          case measure => simp [intOf]; omega
      · obtain rfl : i = l.length := by omega
        have hiz : ¬ ((l.length : Int) < (l.length : Int)) := by omega
        rw [List.take_length] at hR
        have HFe : Hid (copF (m + 1) x d ⟨kind, nn, s, l, r⟩ = (x', true)) := by have := HFo.out; rw [List.take_length] at this; exact HCF.out.trans this
        obtain ⟨p8, c8, he8⟩ := hR.row.at.form
        have HQ : Hid (∀ w4, w4 = wr.setRow (w.heap.size + 1) #[.int .u8 kind, .int .i64 nn, .string s, u, .int .i64 r] → CopQ w w4 (m + 1 + 1) u l) := fun w4 e => hR.copQ (by omega) e
        obtain ⟨n8, hn8⟩ : ∃ n8, n8 = l.length := ⟨_, rfl⟩
        rw [← hn8] at he8
        subst he8
        obtain ⟨hst, HE⟩ := hR.at0.put (c' := #[.int .u8 kind, .int .i64 nn, .string s, .slice p8 n8 c8, .int .i64 r]) hqlt rfl (by simp [go_sem])
        have hcp := hR.copy
        simp only [vcs] at hcp
        obtain ⟨⟨b0, b1, b2, b3, b4⟩, -⟩ := cells5 hcp
        clear hcp hR HR hn8
        go_wp2_with fail
        refine bodyPost_ret (results_Cop _ _ _ _ _ (HE.out _ rfl).1 rfl rfl rfl) rfl (copPostY _ _ _ HFe.out (HE.out _ rfl).2.1 (HE.out _ rfl).2.2 (HQ.out _ rfl))
theorem copied_T (n : Nat) : CopCT n := by
  induction n with
  | zero => exact copT_step 0 (fun m h => by cases h)
  | succ n ih => exact copT_step (n + 1) (fun m h => by cases h; exact ih)
def roomB (v : Val) : Bool := (copF 41 600 40 v).2
def RoomT (w : World) (v : Val) (e : Ending) (w' : World) : Prop :=
  ∃ raw', e = .returned (.tuple #[.agg (vcs v raw'), .bool (roomB v)]) ∧ (∃ p n c, raw' = .slice p n c) ∧ Below w.heap.size w w' ∧ (roomB v = true → CopQ w w' 42 raw' v.l)
attribute [local go_sem ↓] execOp_stVr7 in
set_option maxHeartbeats 4000000 in
set_option maxRecDepth 20000 in
theorem room_T {w : World} {F : Nat → Prop} (v : Val) (raw : Value) (hS : SlAt w F raw v.l) : Calls Tryz.prog 10 #[.agg (vcs v raw)] w (RoomT w v) := by
  obtain ⟨pa, c, rfl⟩ := hS.form
  have hS3 := (((hS.lt.on ((Below.refl _ _).alloc (Nat.le_refl _) (.cells (vcs v (.slice pa v.l.length c)) 27))).on ((Below.refl _ _).alloc (Nat.le_refl _) (.cells zV 27)))).on ((Below.refl _ _).alloc (Nat.le_refl _) (.cells #[.int .i64 600] 3))
  have hcall := copied_T 41 v (.slice pa v.l.length c) _ _ (w.heap.size + 2) 600 40 (by decide) (by decide) ⟨by decide, by decide⟩ hS3 (fun e => by have := e.2; omega) (by
    have := blk_new ((w.alloc (.cells (vcs v (.slice pa v.l.length c)) 27)).alloc (.cells zV 27)) (.cells #[.int .i64 600] 3)
    simpa using this)
  have HB3 : Hid (Below w.heap.size w (((w.alloc (.cells (vcs v (.slice pa v.l.length c)) 27)).alloc (.cells zV 27)).alloc (.cells #[.int .i64 600] 3)) ∧
      (((w.alloc (.cells (vcs v (.slice pa v.l.length c)) 27)).alloc (.cells zV 27)).alloc (.cells #[.int .i64 600] 3)).heap[w.heap.size + 1]? = some (.cells zV 27 (0, 0))) :=
    ⟨(((Below.refl _ _).alloc (Nat.le_refl _) _).alloc (by simp) _).alloc (by simp; omega) _, blk_old _ _ (blk2_new _ _ _)⟩
  have HB : Hid (roomB v = (copF 41 600 40 v).2) := rfl
  unfold RoomT
  generalize roomB v = RB at HB ⊢
  obtain ⟨kind, nn, s, l, r⟩ := v
  have HC := (show Hid _ from hcall)
  clear hS hS3 hcall
  simp only [vcs, zV] at HC HB3 ⊢
  go_enter Tryz.func10, Tryz.ntmps10
  go_wp2_with fail
  refine Calls.mono HC.out ?_
  rintro e w4 ⟨raw', B, x', hst4, rfl, ⟨p, m, c', rfl⟩, hk, -, hq⟩
  have hB : RB = B := by rw [HB.out, hst4]
  subst hB
  clear HB hst4
  have HB4 : Hid (Below w.heap.size w w4) := HB3.out.1.trans (hk.below HB3.out.1.size fun y hy => by have : y = w.heap.size + 2 := hy; omega)
  have hg : w4.heap[w.heap.size + 1]? = some (.cells #[.int .u8 0, .int .i64 0, .string ⟨#[]⟩, .slice none 0 0, .int .i64 0] 27 (0, 0)) := hk.none HB3.out.2 (fun e => by have : w.heap.size + 1 = w.heap.size + 2 := e; omega)
  have hst := storeV_blk (c' := #[.int .u8 kind, .int .i64 nn, .string s, .slice p m c', .int .i64 r]) hg rfl rfl (by simp [go_sem])
  have HQ : Hid (RB = true → CopQ w (w4.setRow (w.heap.size + 1) #[.int .u8 kind, .int .i64 nn, .string s, .slice p m c', .int .i64 r]) 42 (.slice p m c') l) := fun e => by
    obtain ⟨q1, q2⟩ := hq e
    have hs : (((w.alloc (.cells #[.int .u8 kind, .int .i64 nn, .string s, .slice pa l.length c, .int .i64 r] 27)).alloc (.cells #[.int .u8 0, .int .i64 0, .string ⟨#[]⟩, .slice none 0 0, .int .i64 0] 27)).alloc (.cells #[.int .i64 600] 3)).heap.size = w.heap.size + 3 := by simp
    have hk := keepsRow w4 (w.heap.size + 1) #[.int .u8 kind, .int .i64 nn, .string s, .slice p m c', .int .i64 r]
    exact ⟨(q1.keeps hk fun b e hb => by have e' : b = w.heap.size + 1 := e; have : _ ≤ b := hb; omega).mono fun b hb => by have : _ ≤ b := hb; omega, (q2.keeps hk fun b e hb => by have e' : b = w.heap.size + 1 := e; have : _ ≤ b := hb; omega).mono fun b hb => by have : _ ≤ b := hb; omega⟩
  have HG := (show Hid _ from heap_setRow_at (c' := #[.int .u8 kind, .int .i64 nn, .string s, .slice p m c', .int .i64 r]) hg)
  clear hk hg hq HC HB3
  simp only [vcs]
  go_wp2_with fail
  refine bodyPost_ret (results_Room _ _ _ RB _ HG.out rfl rfl rfl) rfl ⟨_, rfl, ⟨p, m, c', rfl⟩, Below.setRow HB4.out (by omega) _, HQ.out⟩
end Go.Proofs.YthaliljaglldjaaGreat
