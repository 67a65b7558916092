/- A part of the proof, several texts in one: R7J. -/
import Derived.Test.YthaliljaglldjaaGreatmAL
import Derived.Test.YthaliljaglldjaaGreatmAO
/- posternref07's asked at kinds that ask nothing, and at a keeper. -/
namespace Go.Proofs.YthaliljaglldjaaGreat
open Go.RowKit Go.ChangeMaps Go.MapKept
structure ROk (N : WM) : Prop where
  len : N.things.length ≤ 100000
  cell : ∀ x ∈ N.things, (thc x.2).all (·.oneCell') = true ∧ 1 ≤ x.2.kind ∧ x.2.kind ≤ 255
theorem ROk.kd {N : WM} (h : ROk N) : ∀ x ∈ N.things, (thc x.2).all (·.oneCell') = true ∧ 0 ≤ x.2.kind ∧ x.2.kind ≤ 255 := fun x hx => ⟨(h.cell x hx).1, by have := (h.cell x hx).2.1; omega, (h.cell x hx).2.2⟩
theorem ROk.one {N : WM} (h : ROk N) (r : Int) : (thc (at7 N r)).all (·.oneCell') = true := by
  rcases at7_mem (M := N) (r := r) with e | ⟨x, hx, e⟩
  · rw [e, thc_lt]; simp [go_sem]
  · rw [e]; exact (h.cell x hx).1
set_option maxRecDepth 8000 in
theorem wrap7_no (w : World) (k : Int) (h14 : k ≠ 14) (h15 : k ≠ 15) (h16 : k ≠ 16) : Calls Tryz.prog 146 #[.int .i64 k] w fun e w' => e = .returned (.bool false) ∧ w = w' := by
  have b14 : (k == 14) = false := by simpa using h14
  have b15 : (k == 15) = false := by simpa using h15
  have b16 : (k == 16) = false := by simpa using h16
  go_enter Tryz.func146, Tryz.ntmps146
  go_wp2_with fail
  go_ret
  exact ⟨rfl, rfl⟩
set_option maxHeartbeats 8000000 in
set_option maxRecDepth 20000 in
theorem asked7_0 {w : World} {q : Nat} {N : WM} {G : Nat → Prop} (hR : IsR w q N G) (hN : ROk N) (t : Th) (r : Int) (hk : 0 ≤ t.kind ∧ t.kind ≤ 255)
    (hks : t.kind ≠ 6 ∧ t.kind ≠ 7 ∧ t.kind ≠ 9 ∧ t.kind ≠ 11 ∧ t.kind ≠ 13 ∧ t.kind ≠ 14 ∧ t.kind ≠ 15 ∧ t.kind ≠ 16) (rs : List Int) (hrl : rs.length ≤ 100000)
    (hrefs : ∀ w', Below w.heap.size w w' → Calls Tryz.prog 179 #[.agg (thc t)] w' fun e w'' => ∃ u, e = .returned u ∧ RefRow w'' w'.heap.size u rs ∧ Below w'.heap.size w' w'')
    (hall : ∀ x ∈ rs, (N.at x).isSome = true) :
    Calls Tryz.prog 82 #[.pointer (some ⟨q, 0, none⟩), .int .i64 r, .agg (thc t)] w fun e w' => e = .returned (.int .i64 0) ∧ Below w.heap.size w w' := by
  have hwk : IntKind.i64.wrap t.kind = t.kind := by simp [IntKind.wrap, IntKind.signed, IntKind.bits]; omega
  obtain ⟨h6, h7, h9, h11, h13, h14, h15, h16⟩ := hks
  have b6 : (t.kind == 6) = false := by simpa using h6
  have b7 : (t.kind == 7) = false := by simpa using h7
  have b9 : (t.kind == 9) = false := by simpa using h9
  have b11 : (t.kind == 11) = false := by simpa using h11
  have b13 : (t.kind == 13) = false := by simpa using h13
  have b14 : (t.kind == 14) = false := by simpa using h14
  have b15 : (t.kind == 15) = false := by simpa using h15
  have b16 : (t.kind == 16) = false := by simpa using h16
  have HRf := (show Hid _ from hrefs)
  have HKd : Hid (∀ w', Below w.heap.size w w' → ∀ x ∈ rs, Calls Tryz.prog 147 #[.pointer (some ⟨q, 0, none⟩), .int .i64 x] w' fun e w'' => ∃ k, e = .returned (.int .i64 k) ∧ (k == 0) = false ∧ Below w'.heap.size w' w'') := fun w' hb x hx => by
    refine (kind7_W (hR.below hb) hN.len x hN.kd).mono ?_
    rintro e w'' ⟨rfl, hb'⟩
    refine ⟨_, rfl, ?_, hb'⟩
    obtain ⟨u, hu⟩ := Option.isSome_iff_exists.1 (hall x hx)
    have h1 := (hN.cell (x, u) (at_mem hu)).2.1
    have : (at7 N x).kind ≠ 0 := by unfold at7; rw [hu]; simp only [Option.getD_some] at *; omega
    simpa using this
  have HAt : Hid (∀ w', Below w.heap.size w w' → ∀ x, Calls Tryz.prog 47 #[.pointer (some ⟨q, 0, none⟩), .int .i64 x] w' fun e w'' => e = .returned (.tuple #[.agg (thc (at7 N x)), .bool (N.at x).isSome]) ∧ Below w'.heap.size w' w'') := fun w' hb x => at7_W (hR.below hb) hN.len x fun y hy => (hN.cell y hy).1
  have HL : Hid (rs.length ≤ 100000 ∧ ∀ x, (thc (at7 N x)).all (·.oneCell') = true) := ⟨hrl, hN.one⟩
  have H0 : Hid (Below w.heap.size w (w.alloc (.cells (thc t) 46)) ∧ (w.alloc (.cells (thc t) 46)).heap[w.heap.size]? = some (.cells (thc t) 46 (0, 0))) := ⟨(Below.refl _ w).alloc (Nat.le_refl _) _, blk_new _ _⟩
  clear hR hN hrefs hall hrl h6 h7 h9 h11 h13 h14 h15 h16 hk
  go_enter Tryz.func82, Tryz.ntmps82
  go_upto_region 1 with fail
  revert H0
  generalize w.alloc _ = w0
  intro H0
  have l0 := loadWhat_blk H0.out.2 rfl
  go_wp2_with fail
  refine Calls.mono (HRf.out w0 H0.out.1) ?_
  rintro e w1 ⟨u, rfl, hr1, hb1⟩
  have H1 : Hid (Below w.heap.size w w1 ∧ w1.heap[w.heap.size]? = some (.cells (thc t) 46 (0, 0)) ∧ RefRow w1 w0.heap.size u rs) := ⟨H0.out.1.trans (hb1.mono H0.out.1.size), below_blk hb1 H0.out.2, hr1⟩
  obtain ⟨n, hn⟩ : ∃ n, n = rs.length := ⟨_, rfl⟩
  obtain ⟨p, c, rfl⟩ : ∃ p c, u = .slice p n c := by
    obtain ⟨h1, ⟨rfl, h0⟩ | ⟨g, cap, cur, rfl, -⟩⟩ := hr1
    · exact ⟨none, 0, by rw [hn, h0]⟩
    · exact ⟨_, _, by rw [hn]⟩
  have HN : Hid (n = rs.length) := hn
  clear hr1 hb1 H0 l0 HRf hn
  go_wp2_with fail
  go_loopw [8] (fun vi wr => ∃ i : Nat, vi = .int .i64 i ∧ i ≤ n ∧ Hid (Below w1.heap.size w1 wr)) (fun vi _ => n - (intOf vi).toNat)
  case atStart => exact ⟨0, rfl, Nat.zero_le _, Below.refl _ _⟩
  case round =>
    obtain ⟨i, rfl, hi, HB⟩ := hrel
    have HBw : Hid (Below w.heap.size w wr) := H1.out.1.trans (HB.out.mono H1.out.1.size)
    by_cases hin : i < n
    · have hiz : (i : Int) < (n : Int) := by omega
      have hi0 : (0 : Int) ≤ (i : Int) := by omega
      obtain ⟨x, hx⟩ : ∃ x, rs[i]? = some x := ⟨_, List.getElem?_eq_getElem (by have := HN.out; omega)⟩
      have hrow : wr.ownsRow w0.heap.size 25 1 (.slice p n c) rs.length (rs.map (Value.int .i64)) := refRow_on H1.out.2.2 HB.out
      obtain ⟨g, c', hs, hcx, -, -⟩ := ownsRow_int hrow hx
      have hp : p = some ⟨g, 0, none⟩ := by injection hs
      subst hp
      have HC := (show Hid _ from HKd.out wr HBw.out x (List.mem_of_getElem? hx))
      have hwi : wrap64 ((i : Int) + 1) = (i : Int) + 1 := by have := HL.out.1; have := HN.out; unfold wrap64; omega
      clear hrow hs hx
      go_wp2_with fail
      refine Calls.mono HC.out ?_
      rintro e w3 ⟨k, rfl, hk0, hb3⟩
      have HB3 : Hid (Below w1.heap.size w1 w3) := HB.out.trans (hb3.mono HB.out.size)
      clear hb3 HB HBw HC hcx
      go_wp2_with fail
      go_roundw
      case rel => exact ⟨i + 1, by go_num, by omega, HB3.out⟩
      case measure => rw [hwi]; simp [intOf]; omega
    · have hiz : ¬ (i : Int) < (n : Int) := by omega
      obtain rfl : i = n := by omega
      have hkk : ¬ (i : Int) < (i : Int) := by omega
      have H4 : Hid (Below w.heap.size w wr ∧ wr.heap[w.heap.size]? = some (.cells (thc t) 46 (0, 0))) := ⟨HBw.out, below_blk HB.out H1.out.2.1⟩
      clear HB HBw H1 HKd
      have c0 : wr.cell? ⟨w.heap.size, 0, none⟩ = some (.int .u8 t.kind) := by rw [cell_blk H4.out.2]; rfl
      have c10 : wr.cell? ⟨w.heap.size, 10, none⟩ = some (.int .i64 t.tgt) := by rw [cell_blk H4.out.2]; rfl
      go_wp2_with fail
      refine Calls.mono (HAt.out wr H4.out.1 t.tgt) ?_
      rintro e w5 ⟨rfl, hb5⟩
      have H5 : Hid (Below w.heap.size w w5 ∧ w5.heap[w.heap.size]? = some (.cells (thc t) 46 (0, 0))) := ⟨H4.out.1.trans (hb5.mono H4.out.1.size), below_blk hb5 H4.out.2⟩
      clear hb5 H4 c0 c10
      have ho := HL.out.2 t.tgt
      generalize at7 N t.tgt = o at ho ⊢
      generalize (N.at t.tgt).isSome = B1
      obtain ⟨w6, hst, hb6, hg6, -⟩ := boxed_what' w5 (thc o) rfl ho
      have H6 : Hid (Below w.heap.size w w6 ∧ w6.heap[w.heap.size]? = some (.cells (thc t) 46 (0, 0))) := ⟨H5.out.1.trans (hb6.mono H5.out.1.size), below_blk hb6 H5.out.2⟩
      have c11 : w6.cell? ⟨w.heap.size, 11, none⟩ = some (.int .i64 t.bi) := by rw [cell_blk H6.out.2]; rfl
      clear hb6 hg6 ho H5
      go_wp2_with fail
      refine Calls.mono (HAt.out w6 H6.out.1 t.bi) ?_
      rintro e w7 ⟨rfl, hb7⟩
      have H7 : Hid (Below w.heap.size w w7 ∧ w7.heap[w.heap.size]? = some (.cells (thc t) 46 (0, 0))) := ⟨H6.out.1.trans (hb7.mono H6.out.1.size), below_blk hb7 H6.out.2⟩
      clear hb7 H6 c11 hst HAt
      have ho := HL.out.2 t.bi
      generalize at7 N t.bi = o2 at ho ⊢
      generalize (N.at t.bi).isSome = B2
      obtain ⟨w8, hst, hb8, hg8, -⟩ := boxed_what' w7 (thc o2) rfl ho
      have HB8 : Hid (Below w.heap.size w w8) := H7.out.1.trans (hb8.mono H7.out.1.size)
      clear hb8 hg8 ho H7
      go_wp2_with fail
      refine (wrap7_no _ _ (by simpa using b14) (by simpa using b15) (by simpa using b16)).mono ?_
      rintro e _ ⟨rfl, rfl⟩
      go_wp2_with fail
      go_ret
      exact ⟨rfl, HB8.out⟩
set_option maxHeartbeats 8000000 in
set_option maxRecDepth 20000 in
theorem other7_no {w : World} {q : Nat} {N : WM} {G : Nat → Prop} (hR : IsR w q N G) (hN : ROk N) (r k of : Int) (hno : ∀ x ∈ N.things, x.1 ≠ r ∧ (x.2.kind = k → x.2.tgt ≠ of)) :
    Calls Tryz.prog 180 #[.pointer (some ⟨q, 0, none⟩), .int .i64 r, .int .i64 k, .int .i64 of, .bool false] w fun e w' => e = .returned (.bool false) ∧ Below w.heap.size w w' := by
  obtain ⟨sP, sC, sT, sM, hV⟩ := hR
  obtain ⟨n, hn⟩ : ∃ n, n = N.things.length := ⟨_, rfl⟩
  obtain ⟨p0, c0, hsT⟩ : ∃ p c, sT = .slice p n c := by
    obtain ⟨h1, ⟨rfl, h0⟩ | ⟨g, cap, cur, rfl, -⟩⟩ := hV.rt
    · exact ⟨none, 0, by rw [hn, h0]⟩
    · exact ⟨_, _, by rw [hn]⟩
  subst hsT
  have HV := (show Hid (RVw w q N G sP sC (.slice p0 n c0) sM) from hV)
  have HN : Hid (n = N.things.length ∧ n ≤ 100000) := ⟨hn, by have := hN.len; omega⟩
  have HNO : Hid (∀ x ∈ N.things, (x.1 ≠ r ∧ (x.2.kind = k → x.2.tgt ≠ of)) ∧ (thc x.2).all (·.oneCell') = true ∧ IntKind.i64.wrap x.2.kind = x.2.kind) := fun x hx => ⟨hno x hx, (hN.cell x hx).1, by have := (hN.cell x hx).2; simp [IntKind.wrap, IntKind.signed, IntKind.bits]; omega⟩
  clear hV hn hN hno
  go_enter Tryz.func180, Tryz.ntmps180
  go_wp2_with fail
  go_loopw [11] (fun vi wr => ∃ i : Nat, vi = .int .i64 i ∧ i ≤ n ∧ Hid (Below w.heap.size w wr)) (fun vi _ => n - (intOf vi).toNat)
  case atStart => exact ⟨0, rfl, Nat.zero_le _, Below.refl _ _⟩
  case round =>
    obtain ⟨i, rfl, hi, HB⟩ := hrel
    have HV1 := (show Hid _ from HV.out.below HB.out)
    have d2 : wr.cell? ⟨q, 2, none⟩ = some (.slice p0 n c0) := by rw [cell_blk HV1.out.blk]; rfl
    by_cases hin : i < n
    · have hiz : (i : Int) < (n : Int) := by omega
      obtain ⟨x, hx⟩ : ∃ x, N.things[i]? = some x := ⟨_, List.getElem?_eq_getElem (by have := HN.out.1; omega)⟩
      obtain ⟨⟨hr, hkt⟩, hone, hwk⟩ := HNO.out x (List.mem_of_getElem? hx)
      obtain ⟨g, c, hs, hg, hc⟩ := HV1.out.ent hx
      have hp0 : p0 = some ⟨g, 0, none⟩ := by injection hs
      subst hp0
      have hldw := loadWhat_mid (w := wr) (b := g) (o := i * 17 + 1) (t := x.2) (fun k v hv => by
        have := hc (k + 1) v (by rw [← hv]; show (_ :: (thc x.2).toList)[k + 1]? = _; simp)
        rw [show i * 17 + 1 + k = i * 17 + (k + 1) by omega]
        exact this)
      obtain ⟨w6, hst, hb6, hg6, -⟩ := boxed_what' wr (thc x.2) rfl hone
      have k0 : w6.cell? ⟨g, i * 17, none⟩ = some (.int .i64 x.1) := (hb6.cell (p := ⟨g, i * 17, none⟩) hg).trans (hc 0 _ rfl)
      have k1 : w6.cell? ⟨wr.heap.size, 0, none⟩ = some (.int .u8 x.2.kind) := by rw [cell_blk hg6]; rfl
      have k2 : w6.cell? ⟨wr.heap.size, 10, none⟩ = some (.int .i64 x.2.tgt) := by rw [cell_blk hg6]; rfl
      have d6 : w6.cell? ⟨q, 2, none⟩ = some (.slice (some ⟨g, 0, none⟩) n c0) := by rw [cell_blk (below_blk hb6 HV1.out.blk)]; rfl
      have HB6 : Hid (Below w.heap.size w w6) := HB.out.trans (hb6.mono HB.out.size)
      have hwi : wrap64 ((i : Int) + 1) = (i : Int) + 1 := by have := HN.out.2; unfold wrap64; omega
      have hrb : (x.1 == r) = false := by simpa using hr
      have hr' : ¬ x.1 = r := hr
      clear hs hc hx hb6 hg6 HB HV1 hone hr
      by_cases hk : x.2.kind = k
      · have htb : (x.2.tgt == of) = false := by simpa using hkt hk
        have hkb : (x.2.kind == k) = true := by simpa using hk
        clear hkt hk
        go_wp2_with fail
        go_roundw
        case rel => exact ⟨i + 1, by go_num, by omega, HB6.out⟩
        case measure => rw [hwi]; simp [intOf]; omega
      · have hkb : (x.2.kind == k) = false := by simpa using hk
        clear hkt hk
        go_wp2_with fail
        go_roundw
        case rel => exact ⟨i + 1, by go_num, by omega, HB6.out⟩
        case measure => rw [hwi]; simp [intOf]; omega
    · have hiz : ¬ (i : Int) < (n : Int) := by omega
      obtain rfl : i = n := by omega
      have hkk : ¬ (i : Int) < (i : Int) := by omega
      go_wp2_with fail
      go_ret
      exact ⟨rfl, HB.out⟩
set_option maxHeartbeats 8000000 in
set_option maxRecDepth 20000 in
theorem asked7_11 {w : World} {q : Nat} {N : WM} {G : Nat → Prop} (hR : IsR w q N G) (hN : ROk N) (t : Th) (r : Int) 
    (hk11 : t.kind = 11) {u : Th} (hof : N.at t.tgt = some u) (hu : u.kind = 10 ∧ u.home = t.home) (hno : ∀ x ∈ N.things, x.1 ≠ r ∧ (x.2.kind = 11 → x.2.tgt ≠ t.tgt)) (rs : List Int) (hrl : rs.length ≤ 100000)
    (hrefs : ∀ w', Below w.heap.size w w' → Calls Tryz.prog 179 #[.agg (thc t)] w' fun e w'' => ∃ u, e = .returned u ∧ RefRow w'' w'.heap.size u rs ∧ Below w'.heap.size w' w'')
    (hall : ∀ x ∈ rs, (N.at x).isSome = true) :
    Calls Tryz.prog 82 #[.pointer (some ⟨q, 0, none⟩), .int .i64 r, .agg (thc t)] w fun e w' => e = .returned (.int .i64 0) ∧ Below w.heap.size w w' := by
  have hwk : IntKind.i64.wrap t.kind = t.kind := by simp [IntKind.wrap, IntKind.signed, IntKind.bits]; omega
  have b6 : (t.kind == 6) = false := by rw [hk11]; rfl
  have b7 : (t.kind == 7) = false := by rw [hk11]; rfl
  have b9 : (t.kind == 9) = false := by rw [hk11]; rfl
  have b11 : (t.kind == 11) = true := by rw [hk11]; rfl
  have b13 : (t.kind == 13) = false := by rw [hk11]; rfl
  have b14 : (t.kind == 14) = false := by rw [hk11]; rfl
  have b15 : (t.kind == 15) = false := by rw [hk11]; rfl
  have b16 : (t.kind == 16) = false := by rw [hk11]; rfl
  have HOt : Hid (∀ w', Below w.heap.size w w' → Calls Tryz.prog 180 #[.pointer (some ⟨q, 0, none⟩), .int .i64 r, .int .i64 11, .int .i64 t.tgt, .bool false] w' fun e w'' => e = .returned (.bool false) ∧ Below w'.heap.size w' w'') := fun w' hb => other7_no (hR.below hb) hN r 11 t.tgt hno
  have HU : Hid (at7 N t.tgt = u ∧ (N.at t.tgt).isSome = true ∧ u.kind = 10 ∧ u.home = t.home) := ⟨by unfold at7; rw [hof]; rfl, by rw [hof]; rfl, hu.1, hu.2⟩
  have HRf := (show Hid _ from hrefs)
  have HKd : Hid (∀ w', Below w.heap.size w w' → ∀ x ∈ rs, Calls Tryz.prog 147 #[.pointer (some ⟨q, 0, none⟩), .int .i64 x] w' fun e w'' => ∃ k, e = .returned (.int .i64 k) ∧ (k == 0) = false ∧ Below w'.heap.size w' w'') := fun w' hb x hx => by
    refine (kind7_W (hR.below hb) hN.len x hN.kd).mono ?_
    rintro e w'' ⟨rfl, hb'⟩
    refine ⟨_, rfl, ?_, hb'⟩
    obtain ⟨u, hu⟩ := Option.isSome_iff_exists.1 (hall x hx)
    have h1 := (hN.cell (x, u) (at_mem hu)).2.1
    have : (at7 N x).kind ≠ 0 := by unfold at7; rw [hu]; simp only [Option.getD_some] at *; omega
    simpa using this
  have HAt : Hid (∀ w', Below w.heap.size w w' → ∀ x, Calls Tryz.prog 47 #[.pointer (some ⟨q, 0, none⟩), .int .i64 x] w' fun e w'' => e = .returned (.tuple #[.agg (thc (at7 N x)), .bool (N.at x).isSome]) ∧ Below w'.heap.size w' w'') := fun w' hb x => at7_W (hR.below hb) hN.len x fun y hy => (hN.cell y hy).1
  have HL : Hid (rs.length ≤ 100000 ∧ ∀ x, (thc (at7 N x)).all (·.oneCell') = true) := ⟨hrl, hN.one⟩
  have H0 : Hid (Below w.heap.size w (w.alloc (.cells (thc t) 46)) ∧ (w.alloc (.cells (thc t) 46)).heap[w.heap.size]? = some (.cells (thc t) 46 (0, 0))) := ⟨(Below.refl _ w).alloc (Nat.le_refl _) _, blk_new _ _⟩
  clear hR hN hrefs hall hrl hk11 hof hu hno
  go_enter Tryz.func82, Tryz.ntmps82
  go_upto_region 1 with fail
  revert H0
  generalize w.alloc _ = w0
  intro H0
  have l0 := loadWhat_blk H0.out.2 rfl
  go_wp2_with fail
  refine Calls.mono (HRf.out w0 H0.out.1) ?_
  rintro e w1 ⟨u, rfl, hr1, hb1⟩
  have H1 : Hid (Below w.heap.size w w1 ∧ w1.heap[w.heap.size]? = some (.cells (thc t) 46 (0, 0)) ∧ RefRow w1 w0.heap.size u rs) := ⟨H0.out.1.trans (hb1.mono H0.out.1.size), below_blk hb1 H0.out.2, hr1⟩
  obtain ⟨n, hn⟩ : ∃ n, n = rs.length := ⟨_, rfl⟩
  obtain ⟨p, c, rfl⟩ : ∃ p c, u = .slice p n c := by
    obtain ⟨h1, ⟨rfl, h0⟩ | ⟨g, cap, cur, rfl, -⟩⟩ := hr1
    · exact ⟨none, 0, by rw [hn, h0]⟩
    · exact ⟨_, _, by rw [hn]⟩
  have HN : Hid (n = rs.length) := hn
  clear hr1 hb1 H0 l0 HRf hn
  go_wp2_with fail
  go_loopw [8] (fun vi wr => ∃ i : Nat, vi = .int .i64 i ∧ i ≤ n ∧ Hid (Below w1.heap.size w1 wr)) (fun vi _ => n - (intOf vi).toNat)
  case atStart => exact ⟨0, rfl, Nat.zero_le _, Below.refl _ _⟩
  case round =>
    obtain ⟨i, rfl, hi, HB⟩ := hrel
    have HBw : Hid (Below w.heap.size w wr) := H1.out.1.trans (HB.out.mono H1.out.1.size)
    by_cases hin : i < n
    · have hiz : (i : Int) < (n : Int) := by omega
      have hi0 : (0 : Int) ≤ (i : Int) := by omega
      obtain ⟨x, hx⟩ : ∃ x, rs[i]? = some x := ⟨_, List.getElem?_eq_getElem (by have := HN.out; omega)⟩
      have hrow : wr.ownsRow w0.heap.size 25 1 (.slice p n c) rs.length (rs.map (Value.int .i64)) := refRow_on H1.out.2.2 HB.out
      obtain ⟨g, c', hs, hcx, -, -⟩ := ownsRow_int hrow hx
      have hp : p = some ⟨g, 0, none⟩ := by injection hs
      subst hp
      have HC := (show Hid _ from HKd.out wr HBw.out x (List.mem_of_getElem? hx))
      have hwi : wrap64 ((i : Int) + 1) = (i : Int) + 1 := by have := HL.out.1; have := HN.out; unfold wrap64; omega
      clear hrow hs hx
      go_wp2_with fail
      refine Calls.mono HC.out ?_
      rintro e w3 ⟨k, rfl, hk0, hb3⟩
      have HB3 : Hid (Below w1.heap.size w1 w3) := HB.out.trans (hb3.mono HB.out.size)
      clear hb3 HB HBw HC hcx
      go_wp2_with fail
      go_roundw
      case rel => exact ⟨i + 1, by go_num, by omega, HB3.out⟩
      case measure => rw [hwi]; simp [intOf]; omega
    · have hiz : ¬ (i : Int) < (n : Int) := by omega
      obtain rfl : i = n := by omega
      have hkk : ¬ (i : Int) < (i : Int) := by omega
      have H4 : Hid (Below w.heap.size w wr ∧ wr.heap[w.heap.size]? = some (.cells (thc t) 46 (0, 0))) := ⟨HBw.out, below_blk HB.out H1.out.2.1⟩
      clear HB HBw H1 HKd
      have c0 : wr.cell? ⟨w.heap.size, 0, none⟩ = some (.int .u8 t.kind) := by rw [cell_blk H4.out.2]; rfl
      have c10 : wr.cell? ⟨w.heap.size, 10, none⟩ = some (.int .i64 t.tgt) := by rw [cell_blk H4.out.2]; rfl
      go_wp2_with fail
      refine Calls.mono (HAt.out wr H4.out.1 t.tgt) ?_
      rintro e w5 ⟨rfl, hb5⟩
      have H5 : Hid (Below w.heap.size w w5 ∧ w5.heap[w.heap.size]? = some (.cells (thc t) 46 (0, 0))) := ⟨H4.out.1.trans (hb5.mono H4.out.1.size), below_blk hb5 H4.out.2⟩
      clear hb5 H4 c0 c10
      have ho := HL.out.2 t.tgt
      rw [HU.out.1] at ho ⊢
      rw [HU.out.2.1]
      obtain ⟨w6, hst, hb6, hg6, -⟩ := boxed_what' w5 (thc u) rfl ho
      have H6 : Hid (Below w.heap.size w w6 ∧ w6.heap[w.heap.size]? = some (.cells (thc t) 46 (0, 0)) ∧ w6.heap[w5.heap.size]? = some (.cells (thc u) 46 (0, 0))) := ⟨H5.out.1.trans (hb6.mono H5.out.1.size), below_blk hb6 H5.out.2, hg6⟩
      have c11 : w6.cell? ⟨w.heap.size, 11, none⟩ = some (.int .i64 t.bi) := by rw [cell_blk H6.out.2.1]; rfl
      clear hb6 hg6 ho H5
      go_wp2_with fail
      refine Calls.mono (HAt.out w6 H6.out.1 t.bi) ?_
      rintro e w7 ⟨rfl, hb7⟩
      have H7 : Hid (Below w.heap.size w w7 ∧ w7.heap[w.heap.size]? = some (.cells (thc t) 46 (0, 0)) ∧ w7.heap[w5.heap.size]? = some (.cells (thc u) 46 (0, 0))) := ⟨H6.out.1.trans (hb7.mono H6.out.1.size), below_blk hb7 H6.out.2.1, below_blk hb7 H6.out.2.2⟩
      clear hb7 H6 c11 hst HAt
      have ho := HL.out.2 t.bi
      generalize at7 N t.bi = o2 at ho ⊢
      generalize (N.at t.bi).isSome = B2
      obtain ⟨w8, hst, hb8, hg8, -⟩ := boxed_what' w7 (thc o2) rfl ho
      have HB8 : Hid (Below w.heap.size w w8) := H7.out.1.trans (hb8.mono H7.out.1.size)
      have c10 : w8.cell? ⟨w.heap.size, 10, none⟩ = some (.int .i64 t.tgt) := by rw [cell_blk (below_blk hb8 H7.out.2.1)]; rfl
      have c1 : w8.cell? ⟨w.heap.size, 1, none⟩ = some (.int .i64 t.home) := by rw [cell_blk (below_blk hb8 H7.out.2.1)]; rfl
      have e0 : w8.cell? ⟨w5.heap.size, 0, none⟩ = some (.int .u8 10) := by rw [cell_blk (below_blk hb8 H7.out.2.2), ← HU.out.2.2.1]; rfl
      have e1 : w8.cell? ⟨w5.heap.size, 1, none⟩ = some (.int .i64 t.home) := by rw [cell_blk (below_blk hb8 H7.out.2.2), ← HU.out.2.2.2]; rfl
      clear hb8 hg8 ho H7
      go_wp2_with fail
      refine Calls.mono (HOt.out w8 HB8.out) ?_
      rintro e w9 ⟨rfl, hb9⟩
      have HB9 : Hid (Below w.heap.size w w9) := HB8.out.trans (hb9.mono HB8.out.size)
      clear hb9 HB8 HOt c10 c1 e0 e1 hst
      go_wp2_with fail
      go_ret
      exact ⟨rfl, HB9.out⟩
end Go.Proofs.YthaliljaglldjaaGreat
