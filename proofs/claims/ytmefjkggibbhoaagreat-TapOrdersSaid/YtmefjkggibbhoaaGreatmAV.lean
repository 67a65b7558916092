/- A part of the proof, several texts in one: TowW. -/
import Derived.Test.YtmefjkggibbhoaaGreatmAP
import Derived.Test.YtmefjkggibbhoaaGreatmAQ
import Derived.Test.YtmefjkggibbhoaaGreatmAT
import Derived.Test.YtmefjkggibbhoaaGreatmAU
import Derived.Deep.DeepCutAuto
import Derived.Deep.CutBlock
/- Towers: the walk. -/
namespace Go.Proofs.YtmefjkggibbhoaaGreat
open Go.RowKit Go.ChangeMaps Go.MapKept

/-- The tallies by their taps. -/
def tlf (tl : Int → Int) (key : Value) : Option Value :=
  match key with
  | .int .i64 r => if tl r = 0 then none else some (.int .i64 (tl r))
  | _ => none
theorem tlf_put {tl : Int → Int} {r n : Int} (hn : n ≠ 0) : tlf (fun q => if q = r then n else tl q) (.int .i64 r) = some (.int .i64 n) ∧ ∀ k, k ≠ .int .i64 r → tlf (fun q => if q = r then n else tl q) k = tlf tl k := by
  refine ⟨by simp [tlf, hn], fun k hk => ?_⟩
  unfold tlf
  split
  · rename_i q
    have : q ≠ r := fun e => hk (by rw [e])
    simp [this]
  · rfl
theorem tlf_none {tl : Int → Int} {r : Int} (h : tl r = 0) : tlf (fun q => if q = r then 0 else tl q) = tlf tl := by
  funext k
  unfold tlf
  split
  · rename_i q
    by_cases e : q = r
    · subst e; simp [h]
    · simp [e]
  · rfl
/-- The list l, block g, the map of the tallies, block mb, and the blocks Z, beside the world. -/
abbrev TS (Z : Nat → Prop) (g m cap mb : Nat) (b : Nat) : Prop := (Value.slice (some ⟨g, 0, none⟩) m cap).ownBlock = some b ∨ (b = mb ∨ Z b)
/-- What else stays: the map is the call's own; the blocks Z are as they were in ws. -/
abbrev TZ (Z : Nat → Prop) (ws w0 w : World) (g mb : Nat) : Prop := w0.heap.size ≤ mb ∧ Kept Z ws w ∧ ∀ b, Z b → b < ws.heap.size ∧ b ≠ mb ∧ b ≠ g
/-- A tower, as far as it has come. -/
def TowAt (Z : Nat → Prop) (ws w0 w : World) (p : Nat) (l : List Int) (tl : Int → Int) (first : Int) (B g m cap mb : Nat) : Prop :=
  ∃ M, OwnS w0 w p M (TS Z g m cap mb) ∧ Tw M l tl first B ∧ w.ownsRow w0.heap.size 35 1 (.slice (some ⟨g, 0, none⟩) m cap) m (l.map (Value.int .i64)) ∧ MapLe Tryz.prog 35 w mb (tlf tl) B ∧ TZ Z ws w0 w g mb
/-- A wrapper more, before it is written down. -/
def TowNew (Z : Nat → Prop) (ws w0 w : World) (p : Nat) (l : List Int) (tl : Int → Int) (r n first : Int) (B g m cap mb : Nat) : Prop :=
  ∃ M, OwnS w0 w p M (TS Z g m cap mb) ∧ Tw M (l ++ [r]) (fun q => if q = r then n else tl q) first (B + 2) ∧ w.ownsRow w0.heap.size 35 1 (.slice (some ⟨g, 0, none⟩) m cap) m (l.map (Value.int .i64)) ∧ MapLe Tryz.prog 35 w mb (tlf tl) B ∧ TZ Z ws w0 w g mb ∧ (Lit.int .i64 r).wf = true ∧ tl r = 0
theorem Kept.mono {S T : Nat → Prop} {w w' : World} (h : Kept S w w') (hT : ∀ b, T b → S b) : Kept T w w' := ⟨h.1, fun b hb => h.2 b (hT b hb)⟩
theorem TZ.on {Z : Nat → Prop} {ws w0 w w' : World} {g m cap mb : Nat} (h : TZ Z ws w0 w g mb) (hk : Kept (TS Z g m cap mb) w w') : TZ Z ws w0 w' g mb := ⟨h.1, h.2.1.trans (hk.mono fun _ hb => .inr (.inr hb)), h.2.2⟩
theorem row_is {w : World} {base g m cap : Nat} {e : TypeId} {xs : List Value} (h : w.ownsRow base e 1 (.slice (some ⟨g, 0, none⟩) m cap) m xs) : ∃ cur, w.heap[g]? = some (.cells cur e (0, 0)) := by
  rcases h.2 with ⟨h, -⟩ | ⟨g', cap', cur, h1, -, h2, -⟩
  · cases h
  · cases h1
    exact ⟨cur, h2⟩
section
variable {Z : Nat → Prop} {ws w0 w w' : World} {p : Nat} {l : List Int} {tl : Int → Int} {r n first : Int} {B g m cap mb : Nat}
theorem TowNew.of {M' : WM} {F F' : Nat → Prop} (h2 : ∀ b, F b → w0.heap.size ≤ b) (h3 : Below w0.heap.size w0 w) (h4 : ∀ b, TS Z g m cap mb b → ¬ F b ∧ b < w.heap.size) (hR : w.ownsRow w0.heap.size 35 1 (.slice (some ⟨g, 0, none⟩) m cap) m (l.map (Value.int .i64)))
    (hM : MapLe Tryz.prog 35 w mb (tlf tl) B) (hmb : TZ Z ws w0 w g mb) (hW : IsW w' p M' F') (hg : Grew F w F' w') (hT : Tw M' (l ++ [r]) (fun q => if q = r then n else tl q) first (B + 2)) (hr : (Lit.int .i64 r).wf = true) (hz : tl r = 0) : TowNew Z ws w0 w' p l tl r n first B g m cap mb := by
  obtain ⟨h5, h6⟩ := OwnS.turn (S := TS Z g m cap mb) h2 h3 h4 hW hg
  exact ⟨M', h5, hT, h6.row hR (fun b hb => .inl hb), hM.of_block (h6.2 mb (.inr (.inl rfl))), hmb.on h6, hr, hz⟩
/-- The map's store. -/
theorem TowNew.store (h : TowNew Z ws w0 w p l tl r n first B g m cap mb) (hn : n ≠ 0) (hB : (B : Int) ≤ 1099511627776) : ∃ w1, (Instr.mapUpdate 32 (.map (some mb)) (.int .i64 r) (.int .i64 n)).run Tryz.prog w = .ok () w1 ∧
    ∃ M, OwnS w0 w1 p M (TS Z g m cap mb) ∧ Tw M (l ++ [r]) (fun q => if q = r then n else tl q) first (B + 2) ∧ w1.ownsRow w0.heap.size 35 1 (.slice (some ⟨g, 0, none⟩) m cap) m (l.map (Value.int .i64)) ∧ MapLe Tryz.prog 35 w1 mb (tlf fun q => if q = r then n else tl q) (B + 2) ∧ TZ Z ws w0 w1 g mb := by
  obtain ⟨M, h1, h2, h3, ⟨k, hk, h4⟩, h5, h6, -⟩ := h
  obtain ⟨w1, hrun, hm, ht⟩ := h4.store keyedRef Tryz.underlying32 (by unfold maxLen; omega) (key_ref h6) (.int .i64 n) (tlf_put (tl := tl) hn).1 (tlf_put (tl := tl) hn).2
  have hT := Turned.of ht
  obtain ⟨cur, hcur⟩ := row_is h3
  obtain ⟨es, c, hes⟩ := h4.is
  have hgm : g ≠ mb := fun e => by rw [e, hes] at hcur; cases hcur
  refine ⟨w1, hrun, M, h1.turned hT.2 (fun b hb => .inr (.inl hb)) (fun b hb => by rw [hb]; exact h5.1), h2, ?_, ⟨_, by split <;> omega, hm⟩, h5.1, h5.2.1.trans ⟨hT.2.size, fun b hb => hT.block (h5.2.2 b hb).2.1⟩, h5.2.2⟩
  refine ⟨h3.1, ?_⟩
  rcases h3.2 with ⟨h, -⟩ | ⟨g', cap', cur', e1, e2, e3, e4⟩
  · cases h
  · cases e1
    exact .inr ⟨g, cap, cur', rfl, e2, (hT.block hgm).trans e3, e4⟩
/-- The list's append. -/
theorem TowAt.grown (M : WM) {tl' : Int → Int} {B' g' cap' : Nat} {first' : Int} (h1 : OwnS w0 w p M (TS Z g m cap mb)) (h2 : Tw M (l ++ [r]) tl' first' B') (h3 : w.ownsRow w0.heap.size 35 1 (.slice (some ⟨g, 0, none⟩) m cap) m (l.map (Value.int .i64))) (h4 : MapLe Tryz.prog 35 w mb (tlf tl') B') (h5 : TZ Z ws w0 w g mb)
    (hg : w.grownBy w' (Value.slice (some ⟨g, 0, none⟩) m cap).ownBlock) (hr : w'.ownsRow w0.heap.size 35 1 (.slice (some ⟨g', 0, none⟩) (m + 1) cap') (m + 1) ((l ++ [r]).map (Value.int .i64))) (ho : (Value.slice (some ⟨g', 0, none⟩) (m + 1) cap').ownBlock = (Value.slice (some ⟨g, 0, none⟩) m cap).ownBlock ∨ (Value.slice (some ⟨g', 0, none⟩) (m + 1) cap').ownBlock = some (w.heap.size + 1)) :
    TowAt Z ws w0 w' p (l ++ [r]) tl' first' B' g' (m + 1) cap' mb := by
  obtain ⟨cur, hcur⟩ := row_is h3
  obtain ⟨es, c, hes⟩ := h4.is
  have hgm : mb ≠ g := fun e => by rw [← e, hes] at hcur; cases hcur
  refine ⟨M, OwnS.appended h1 h3 hg hr ho, h2, hr, h4.of_block (hg.block mb (blk_lt hes) (fun e => hgm (Option.some.inj e))), h5.1, h5.2.1.trans ⟨hg.size, fun b hb => hg.block b (Nat.lt_of_lt_of_le (h5.2.2 b hb).1 h5.2.1.1) (fun e => (h5.2.2 b hb).2.2 (Option.some.inj e))⟩, fun b hb => ⟨(h5.2.2 b hb).1, (h5.2.2 b hb).2.1, fun e => ?_⟩⟩
  rcases ho with ho | ho
  · exact (h5.2.2 b hb).2.2 (e.trans (Option.some.inj ho))
  · have h6 : g' = w.heap.size + 1 := Option.some.inj ho
    have h7 := (h5.2.2 b hb).1
    have h8 := h5.2.1.1
    omega
theorem TowAt.below (h : TowAt Z ws w0 w p l tl first B g m cap mb) (hb : Below w.heap.size w w') : TowAt Z ws w0 w' p l tl first B g m cap mb := by
  obtain ⟨M, h1, h2, h3, h4, h5⟩ := h
  obtain ⟨h6, h7⟩ := h1.below hb
  exact ⟨M, h6, h2, h7.row h3 (fun b hb => .inl hb), h4.of_block (h7.2 mb (.inr (.inl rfl))), h5.on h7⟩
end

/-- Behind one level. -/
def Mid (Z : Nat → Prop) (ws w0 w : World) (p : Nat) (l : List Int) (tl : Int → Int) (x first0 : Int) (B g m cap mb : Nat) (r n first : Int) : Prop :=
  (r = x ∧ n = 0 ∧ first = first0 ∧ TowAt Z ws w0 w p l tl first (B + 2) g m cap mb) ∨ (r ≠ x ∧ TowNew Z ws w0 w p l tl r n first B g m cap mb)
theorem TowAt.more {Z : Nat → Prop} {ws w0 w : World} {p : Nat} {l : List Int} {tl : Int → Int} {first : Int} {B B' g m cap mb : Nat} (h : TowAt Z ws w0 w p l tl first B g m cap mb) (hB : B ≤ B') : TowAt Z ws w0 w p l tl first B' g m cap mb := by
  obtain ⟨M, h1, h2, h3, ⟨k, hk, h4⟩, h5⟩ := h
  exact ⟨M, h1, h2.more hB, h3, ⟨k, by omega, h4⟩, h5⟩
theorem aux_ok {M : WM} (hM : M.ok) (hl : M.last + 1 ≤ 1099511627776) {t : Th} {h : Int} (hk : t = tallyT h 0 ∨ t = lt 13 h 0 0 0 0 0 0 0 false) (home : 0 ≤ h ∧ h < M.made.length) (room : M.made.getD h.toNat 0 < 512) : (M.add t).ok := by
  rcases hk with rfl | rfl
  · exact WM.add_ok hM {
      wf := ⟨by show (1 : Int) ≤ 3 ∧ (3 : Int) ≤ 16; decide, rfl, rfl, by show (0 : Int) ≤ 0 ∧ (0 : Int) ≤ 255; decide⟩
      last := hl
      home := fun _ => home
      made := fun _ => room
      wrap := fun e => absurd (show wrapsB 3 = true from e) (by decide)
      gate := fun e => absurd (show (3 : Int) = 15 from e) (by decide)
      purse := fun e => absurd (show (3 : Int) = 9 from e) (by decide)
      facet := fun e => absurd (show (3 : Int) = 14 from e) (by decide) }
  · exact WM.add_ok hM {
      wf := ⟨by show (1 : Int) ≤ 13 ∧ (13 : Int) ≤ 16; decide, rfl, rfl, by show (0 : Int) ≤ 0 ∧ (0 : Int) ≤ 255; decide⟩
      last := hl
      home := fun _ => home
      made := fun _ => room
      wrap := fun e => absurd (show wrapsB 13 = true from e) (by decide)
      gate := fun e => absurd (show (13 : Int) = 15 from e) (by decide)
      purse := fun e => absurd (show (13 : Int) = 9 from e) (by decide)
      facet := fun e => absurd (show (13 : Int) = 14 from e) (by decide) }
theorem lite_lt (k h n tg bi s : Int) (fu : Bool) : Lite (lt k h 0 0 n 0 tg bi s fu) := ⟨_, _, _, _, _, _, _, _, _, _, rfl, plain0⟩
section
variable {M : WM} {l : List Int} {tl : Int → Int} {first : Int} {B : Nat}
theorem Tw.room' (h : Tw M l tl first B) {s : Int} (hs : 0 ≤ s ∧ s ≤ 1) : M.made.getD s.toNat 0 ≤ 1 + B ∧ 0 ≤ s ∧ s < M.made.length := by
  have h1 := h.mlen
  rcases (show s = 0 ∨ s = 1 by omega) with rfl | rfl
  · exact ⟨h.room.1, by omega, by omega⟩
  · exact ⟨h.room.2, by omega, by omega⟩
/-- A tap with a tally of its own. -/
theorem Tw.tapNew (hM : M.ok) (hl : M.last + 1 ≤ 1099511627776) (h : Tw M l tl first B) {x s : Int} (htop : l[l.length - 1]? = some x) (hs : 0 ≤ s ∧ s ≤ 1) (hB : B ≤ 200) :
    Tw ((M.add (tallyT s 0)).add (tapT s x (M.last + 1))) (l ++ [M.last + 2]) (fun r => if r = M.last + 2 then M.last + 1 else tl r) first (B + 2) := by
  obtain ⟨h1, h2, h3⟩ := h.room' hs
  have hM1 : (M.add (tallyT s 0)).ok := aux_ok hM hl (.inl rfl) ⟨h2, h3⟩ (by omega)
  have h4 := (h.aux hM (t := tallyT s 0) (.inr ⟨s, rfl⟩) (lite_lt _ _ _ _ _ _ _)).wrap hM1 (t := tapT s x (M.last + 1)) (tly := M.last + 1) htop rfl (.inl ⟨rfl, rfl, by have := hM.last; omega, s, rfl, WM.add_at_new hM _⟩) (lite_lt _ _ _ _ _ _ _)
  rw [show (M.add (tallyT s 0)).last + 1 = M.last + 2 by show M.last + 1 + 1 = _; omega] at h4
  exact h4
/-- A gate with a switch of its own. -/
theorem gate_eq (hM : M.ok) {s : Int} (hM1 : (M.add (lt 13 s 0 0 0 0 0 0 0 false)).ok) (x : Int) : makeM (M.add (lt 13 s 0 0 0 0 0 0 0 false)) (lt 15 s 0 0 0 0 x (M.last + 1) 0 false) = ((M.add (lt 13 s 0 0 0 0 0 0 0 false)).add (lt 15 s 0 0 0 0 x (M.last + 1) 0 false)).set (M.last + 1) (lt 13 s 0 0 0 0 (M.last + 2) 0 0 false) := by
  have h1 := WM.add_at_old hM1 (lt 15 s 0 0 0 0 x (M.last + 1) 0 false) (WM.add_at_new hM (lt 13 s 0 0 0 0 0 0 0 false))
  unfold makeM
  rw [if_pos rfl]
  unfold gateM
  simp only
  rw [h1]
  show WM.set _ _ (lt 13 s 0 0 0 0 (M.last + 1 + 1) 0 0 false) = _
  rw [show M.last + 1 + 1 = M.last + 2 by omega]
theorem Tw.gateNew (hM : M.ok) (h : Tw M l tl first B) {x s : Int} (hM1 : (M.add (lt 13 s 0 0 0 0 0 0 0 false)).ok) (htop : l[l.length - 1]? = some x) :
    Tw (((M.add (lt 13 s 0 0 0 0 0 0 0 false)).add (lt 15 s 0 0 0 0 x (M.last + 1) 0 false)).set (M.last + 1) (lt 13 s 0 0 0 0 (M.last + 2) 0 0 false)) (l ++ [M.last + 2]) (fun r => if r = M.last + 2 then 0 else tl r) first (B + 2) := by
  have h4 := (h.aux hM (t := lt 13 s 0 0 0 0 0 0 0 false) (.inl rfl) (lite_lt _ _ _ _ _ _ _)).wrap hM1 (t := lt 15 s 0 0 0 0 x (M.last + 1) 0 false) (tly := 0) htop rfl (.inr ⟨.inr rfl, rfl⟩) (lite_lt _ _ _ _ _ _ _)
  rw [show (M.add (lt 13 s 0 0 0 0 0 0 0 false)).last + 1 = M.last + 2 by show M.last + 1 + 1 = _; omega] at h4
  exact h4.switch (u := lt 13 s 0 0 0 0 0 0 0 false) (WM.add_at_old hM1 _ (WM.add_at_new hM _)) rfl (lite_lt _ _ _ _ _ _ _)
end

set_option maxHeartbeats 8000000 in
set_option maxRecDepth 100000 in
theorem tower_W {Z : Nat → Prop} {ws w0 : World} {p : Nat} (hO : OwnS w0 ws p (WM.new [0]) Z) (la : Option Addr) (c n : Nat) (lv : List Int) (hl : IntArg .u8 w0 la lv) (hv : Hid (∀ x ∈ lv, 0 ≤ x ∧ x ≤ 255)) (hn : Hid (n = lv.length)) :
    Calls Tryz.prog 9 #[.pointer (some ⟨p, 0, none⟩), .slice la n c] ws fun e w' => ∃ g m cap mb, e = .returned (.tuple #[.slice (some ⟨g, 0, none⟩) m cap, .map (some mb), .bool true]) ∧ ∃ l tl first, m = l.length ∧ TowAt Z ws w0 w' p l tl first 80 g m cap mb := by
  have Hl := (show Hid (IntArg .u8 w0 la lv) from hl)
  have HO := (show Hid (OwnS w0 ws p (WM.new [0]) Z) from hO)
  have hmm := @run_makeMap Tryz.prog
  clear hl hO
  go_enter Tryz.func9, Tryz.ntmps9
  go_wp2_with fail
  obtain ⟨F, hW, h2, h3, h4⟩ := HO.out
  refine (Make_1 hW (by decide) (h := 0) (by decide) plain0).mono ?_
  rintro e w2 (⟨-, rfl, F', hW', hg⟩ | ⟨hx, -, -⟩)
  rotate_left
  · exact absurd (by decide) hx
  rw [makeM, if_neg (by simp)] at hW'
  have hO2 := OwnS.turn h2 h3 h4 hW' hg
  have HO2 : Hid (OwnS w0 w2 p ((WM.new [0]).add (lt 1 0 0 0 0 0 0 0 0 false)) Z ∧ Kept Z ws w2 ∧ ∀ b, Z b → b < ws.heap.size) := ⟨hO2.1, hO2.2, fun b hb => (h4 b hb).2⟩
  clear HO hW h2 h3 h4 hW' hg hO2
  simp only [show (WM.new [0]).last + 1 = 1 from rfl]
  have hb4 : Below w2.heap.size w2 ((w2.alloc (.cells #[.int .i64 1] 35)).alloc (.map #[] 0)) := ((Below.refl _ w2).alloc (Nat.le_refl _) _).alloc (by simp) _
  have HT4 : Hid (TowAt Z ws w0 ((w2.alloc (.cells #[.int .i64 1] 35)).alloc (.map #[] 0)) p [1] (fun _ => 0) 0 0 w2.heap.size 1 1 (w2.heap.size + 1)) := by
    obtain ⟨⟨F, hW, h2, h3, h4⟩, h5, h6⟩ := HO2.out
    refine ⟨_, ⟨F, hW.below hb4, h2, h3.trans (hb4.mono h3.size), fun b hb => ?_⟩, Tw.start, ⟨rfl, .inr ⟨w2.heap.size, 1, #[.int .i64 1], rfl, h3.size, blk2_old w2 _ _, Nat.le_refl _, by unfold maxLen; omega, rfl, rfl⟩⟩, ⟨0, Nat.le_refl _, ?_⟩, by have := h3.size; omega, h5.trans ⟨hb4.size, fun b hb => hb4.block b (h4 b hb).2⟩, fun b hb => ⟨h6 b hb, by have := h6 b hb; have := h5.1; omega, by have := h6 b hb; have := h5.1; omega⟩⟩
    · rcases hb with hb | rfl | hb
      · simp only [Value.ownBlock, Option.some.injEq] at hb
        subst hb
        exact ⟨fun h => by have := hW.lt _ h; omega, by simp; omega⟩
      · exact ⟨fun h => by have := hW.lt _ h; omega, by simp⟩
      · exact ⟨(h4 b hb).1, Nat.lt_of_lt_of_le (h4 b hb).2 hb4.size⟩
    · have := HasMap.made (w2.alloc (.cells #[.int .i64 1] 35)) Tryz.prog 35
      simp only [World.size_alloc] at this
      exact this.congr (fun key kl _ => by unfold tlf; split <;> simp)
  clear hb4 HO2
  go_upto_region 4 with fail
  revert HT4
  generalize (w2.alloc _).alloc _ = w4
  generalize w2.heap.size = g0
  intro HT4
  generalize hmb : g0 + 1 = mb
  rw [hmb] at HT4
  clear hmb w2
  go_wp2_with fail
  go_loopw [9, 11, 12] (fun vl vf vi wr => ∃ (k m : Nat) (l : List Int) (tl : Int → Int) (first : Int) (g cap : Nat), vl = .slice (some ⟨g, 0, none⟩) m cap ∧ vf = .int .i64 first ∧ vi = .int .i64 k ∧ k ≤ 40 ∧ m ≤ 1 + 2 * k ∧ Hid (m = l.length) ∧ Hid (TowAt Z ws w0 wr p l tl first (2 * k) g m cap mb)) (fun _ _ vi _ => 40 - (intOf vi).toNat)
  case atStart => exact ⟨0, 1, [1], fun _ => 0, 0, g0, 1, rfl, rfl, rfl, by omega, by omega, rfl, HT4⟩
  case round =>
    clear HT4
    obtain ⟨k, m, l, tl, first, g, cap, rfl, rfl, rfl, hk, hmk, Hm, HT⟩ := hrel
    by_cases hkn : k < n
    · have hkz : (k : Int) < (n : Int) := by omega
      by_cases hk40 : k < 40
      · have hkz2 : (k : Int) < 40 := by omega
        obtain ⟨y, hyk⟩ : ∃ y, lv[k]? = some y := ⟨_, List.getElem?_eq_getElem (by have := hn.out; omega)⟩
        obtain ⟨hy0, hy1⟩ := hv.out y (List.mem_of_getElem? hyk)
        obtain ⟨bq, oq, rfl, hcy⟩ : ∃ bq oq, la = some ⟨bq, oq, none⟩ ∧ wr.cell? ⟨bq, oq + k, none⟩ = some (.int .u8 y) := by
          rcases Hl.out with h | ⟨bq, oq, h1, h2, h3⟩
          · rw [h] at hyk; simp at hyk
          · obtain ⟨M, hS, -⟩ := HT.out
            exact ⟨bq, oq, h1, (hS.base.cell (p := ⟨bq, oq + k, none⟩) h2).trans (h3 k y hyk)⟩
        obtain ⟨x, m', hx, hm', hcx⟩ : ∃ x m', l[l.length - 1]? = some x ∧ m = m' + 1 ∧ wr.cell? ⟨g, m', none⟩ = some (.int .i64 x) := by
          obtain ⟨M, hS, hTw, hR, -⟩ := HT.out
          obtain ⟨x, hx, -⟩ := hTw.top
          have hne := hTw.ne
          have hm := Hm.out
          refine ⟨x, m - 1, hx, by omega, ?_⟩
          obtain ⟨a, cap', e, hc⟩ := way_cells hR
          cases e
          obtain ⟨g', e, -, -, hc⟩ := hc (m - 1) (by omega)
          cases e
          rw [hc, List.getElem?_map, show m - 1 = l.length - 1 by omega, hx]
          rfl
        subst hm'
        have hme : (((m' + 1 : Nat) : Int) - 1) = (m' : Int) := by omega
        have hml : m' < m' + 1 := Nat.lt_succ_self m'
        have Hx := (show Hid (l[l.length - 1]? = some x) from hx)
        clear hyk hx
        go_upto_block 2 with fail
        clear hcy hcx hme
        have hs : 0 ≤ y / 4 % 2 ∧ y / 4 % 2 ≤ 1 := by omega
        have hq : 0 ≤ y % 4 ∧ y % 4 ≤ 3 := by omega
        revert hs hq
        generalize y / 4 % 2 = s
        generalize y % 4 = q4
        intro hs hq
        go_cut [11, 15, 16, 17] (fun vfi vf vr vn wx => ∃ r n' fi, vfi = .int .i64 fi ∧ vf = .int .i64 0 ∧ vr = .int .i64 r ∧ vn = .int .i64 n' ∧ Hid (Mid Z ws w0 wx p l tl x first (2 * k) g (m' + 1) cap mb r n' fi))
        case first =>
          clear hn hkn hkz hk40 hkz2 hml Hl hv
          obtain ⟨hs0, hs1⟩ := hs
          rcases (show q4 = 0 ∨ q4 = 1 ∨ q4 = 2 ∨ q4 = 3 by omega) with rfl | rfl | rfl | rfl
          · go_wp2_with fail
            obtain ⟨M, ⟨F, hW, h2, h3, h4⟩, hTw, hR, hM, hmb⟩ := HT.out
            obtain ⟨hroom, home⟩ := hTw.room' ⟨hs0, hs1⟩
            obtain ⟨t, ht⟩ := hTw.at Hx.out
            have hlast := hTw.last
            have hl0 := hW.ok.last
            refine (tMake_W hW hTw.lite (by omega) home (by omega) ht).mono ?_
            rintro e w5 ⟨rfl, F', hW', hg⟩
            have HX : Hid (Mid Z ws w0 w5 p l tl x first (2 * k) g (m' + 1) cap mb (M.last + 2) (M.last + 1) first) := .inr ⟨by have := hTw.range x (List.mem_of_getElem? Hx.out); omega, TowNew.of h2 h3 h4 hR hM hmb hW' hg (hTw.tapNew hW.ok (by omega) Hx.out ⟨hs0, hs1⟩ (by omega)) (WalkArith.wf_i64 (by omega)) (hTw.tl0 _ fun h => by have := hTw.range _ h; omega)⟩
            generalize M.last + 2 = r at HX ⊢
            generalize M.last + 1 = n' at HX ⊢
            clear hW h2 h3 h4 hTw hR hM hmb hroom home ht hlast hl0 hW' hg
            go_wp2_with fail
            go_meet
            case rel => exact ⟨_, _, _, rfl, rfl, rfl, rfl, HX⟩
          · by_cases hf0 : first = 0
            · subst hf0
              go_wp2_with fail
              obtain ⟨M, ⟨F, hW, h2, h3, h4⟩, hTw, hR, hM, hmb⟩ := HT.out
              obtain ⟨hroom, home⟩ := hTw.room' (s := 0) (by decide)
              obtain ⟨t, ht⟩ := hTw.at Hx.out
              have hlast := hTw.last
              have hl0 := hW.ok.last
              have hM1 : (M.add (tallyT 0 0)).ok := aux_ok hW.ok (by omega) (.inl rfl) home (by omega)
              refine (tMake_W hW hTw.lite (by omega) home (by omega) ht).mono ?_
              rintro e w5 ⟨rfl, F', hW', hg⟩
              have HX : Hid (Mid Z ws w0 w5 p l tl x 0 (2 * k) g (m' + 1) cap mb (M.last + 2) (M.last + 1) (M.last + 1)) := .inr ⟨by have := hTw.range x (List.mem_of_getElem? Hx.out); omega, TowNew.of h2 h3 h4 hR hM hmb hW' hg { hTw.tapNew hW.ok (by omega) Hx.out (by decide) (by omega) with first := .inr (WM.add_at_old hM1 _ (WM.add_at_new hW.ok _)) } (WalkArith.wf_i64 (by omega)) (hTw.tl0 _ fun h => by have := hTw.range _ h; omega)⟩
              generalize M.last + 2 = r at HX ⊢
              generalize M.last + 1 = n' at HX ⊢
              clear hW h2 h3 h4 hTw hR hM hmb hroom home ht hlast hl0 hW' hg hM1
              go_wp2_with fail
              go_meet
              case rel => exact ⟨_, _, _, rfl, rfl, rfl, rfl, HX⟩
            · go_wp2_with fail
              obtain ⟨M, ⟨F, hW, h2, h3, h4⟩, hTw, hR, hM, hmb⟩ := HT.out
              obtain ⟨hroom, home⟩ := hTw.room' (s := 0) (by decide)
              obtain ⟨t, ht⟩ := hTw.at Hx.out
              have hlast := hTw.last
              have hl0 := hW.ok.last
              have hfi := hTw.first.resolve_left hf0
              refine (With_W hW (by omega) home (by omega) ht hfi).mono ?_
              rintro e w5 hm
              obtain ⟨rfl, F', hW', hg⟩ := hm.out
              have HX : Hid (Mid Z ws w0 w5 p l tl x first (2 * k) g (m' + 1) cap mb (M.last + 1) first first) := .inr ⟨by have := hTw.range x (List.mem_of_getElem? Hx.out); omega, TowNew.of h2 h3 h4 hR hM hmb hW' hg ((hTw.wrap hW.ok (t := tapT 0 x first) (tly := first) Hx.out rfl (.inl ⟨rfl, rfl, hf0, 0, rfl, hfi⟩) (lite_lt _ _ _ _ _ _ _)).more (by omega)) (WalkArith.wf_i64 (by omega)) (hTw.tl0 _ fun h => by have := hTw.range _ h; omega)⟩
              generalize M.last + 1 = r at HX ⊢
              clear hW h2 h3 h4 hTw hR hM hmb hroom home ht hlast hl0 hW' hg hm hfi
              go_wp2_with fail
              go_meet
              case rel => exact ⟨_, _, _, rfl, rfl, rfl, rfl, HX⟩
          · go_wp2_with fail
            obtain ⟨M, ⟨F, hW, h2, h3, h4⟩, hTw, hR, hM, hmb⟩ := HT.out
            obtain ⟨hroom, home⟩ := hTw.room' ⟨hs0, hs1⟩
            obtain ⟨t, ht⟩ := hTw.at Hx.out
            have hlast := hTw.last
            have hl0 := hW.ok.last
            have hM1 : (M.add (lt 13 s 0 0 0 0 0 0 0 false)).ok := aux_ok hW.ok (by omega) (.inr rfl) home (by omega)
            refine (Make_13 hW (by omega) home).mono ?_
            rintro e w5 (⟨-, rfl, F', hW', hg⟩ | ⟨hx, -, -⟩)
            rotate_left
            · exact absurd (by omega) hx
            rw [makeM, if_neg (by simp)] at hW'
            have HW' := (show Hid (IsW w5 p (M.add (lt 13 s 0 0 0 0 0 0 0 false)) F') from hW')
            have HG := (show Hid (Grew F wr F' w5) from hg)
            have HM1 := (show Hid (M.add (lt 13 s 0 0 0 0 0 0 0 false)).ok from hM1)
            have HW := (show Hid (IsW wr p M F) from hW)
            have HL := (show Hid (1 ≤ M.last + 1 ∧ M.last + 1 ≤ 1 + 2 * k + 1) from ⟨by omega, by omega⟩)
            have HO := (show Hid _ from And.intro h2 (And.intro h3 (And.intro h4 (And.intro hTw (And.intro hR (And.intro hM hmb))))))
            have Hro := (show Hid _ from And.intro hroom home)
            have Ht := (show Hid (M.at x = some t) from ht)
            clear hW hW' hg hM1 h2 h3 h4 hTw hR hM hmb hroom home ht hlast
            revert HL
            generalize hsw : M.last + 1 = sw
            intro HL
            clear hl0
            go_wp2_with fail
            subst hsw
            obtain ⟨h2, h3, h4, hTw, hR, hM, hmb⟩ := HO.out
            obtain ⟨q1, q2⟩ := HL.out
            have hok := HW.out.ok
            have hTw1 := hTw.aux hok (t := lt 13 s 0 0 0 0 0 0 0 false) (.inl rfl) (lite_lt _ _ _ _ _ _ _)
            obtain ⟨hroom1, home1⟩ := hTw1.room' ⟨hs0, hs1⟩
            have e2 : (M.add (lt 13 s 0 0 0 0 0 0 0 false)).last + 1 = M.last + 2 := by show M.last + 1 + 1 = _; omega
            refine (Make_15 (h := s) HW'.out (by rw [e2]; omega) home1 (tg := x) (bi := M.last + 1) (hok.at_wf Ht.out) (WalkArith.wf_i64 (by omega)) (WM.add_at_new hok _) rfl rfl rfl (WM.add_at_old hok _ Ht.out)).mono ?_
            rintro e w6 (⟨-, rfl, F6, hW6, hg6⟩ | ⟨hx, -, -⟩)
            rotate_left
            · exact absurd (by omega) hx
            rw [gate_eq hok HM1.out x] at hW6
            have HX : Hid (Mid Z ws w0 w6 p l tl x first (2 * k) g (m' + 1) cap mb (M.last + 2) 0 first) := .inr ⟨by have := hTw.range x (List.mem_of_getElem? Hx.out); omega, TowNew.of h2 h3 h4 hR hM hmb hW6 (HG.out.trans' hg6) (hTw.gateNew hok HM1.out Hx.out) (WalkArith.wf_i64 (by omega)) (hTw.tl0 _ fun h => by have := hTw.range _ h; omega)⟩
            rw [e2]
            generalize M.last + 2 = r at HX ⊢
            generalize M.last + 1 = sw
            clear HW' HG HM1 HW HL HO Hro Ht h2 h3 h4 hTw hR hM hmb q1 q2 hok hTw1 hroom1 home1 e2 hW6 hg6
            go_wp2_with fail
            go_meet
            case rel => exact ⟨_, _, _, rfl, rfl, rfl, rfl, HX⟩
          · go_wp2_with fail
            obtain ⟨M, ⟨F, hW, h2, h3, h4⟩, hTw, hR, hM, hmb⟩ := HT.out
            obtain ⟨v, hv63, hv0, -⟩ := hTw.able _ x Hx.out
            obtain ⟨t, ht⟩ := hTw.at Hx.out
            refine (Able_W hW (hW.ok.at_wf ht) hv63).mono ?_
            rintro e w5 ⟨rfl, hb5⟩
            obtain ⟨⟨F5, hW5, h25, h35, h45⟩, hk5⟩ := OwnS.below (S := TS Z g (m' + 1) cap mb) ⟨F, hW, h2, h3, h4⟩ hb5
            have hR5 := hk5.row hR (fun b hb => .inl hb)
            have hM5 := hM.of_block (hk5.2 mb (.inr (.inl rfl)))
            replace hmb := hmb.on hk5
            have hkd : M.kindOf x = t.kind := by unfold WM.kindOf; rw [ht]; rfl
            have HZ := (show Hid _ from And.intro hW5 (And.intro h25 (And.intro h35 (And.intro h45 (And.intro hTw (And.intro hR5 (And.intro hM5 (And.intro hmb (And.intro ht hv63)))))))))
            clear hW h2 h3 h4 hR hM hb5 hk5 hW5 h25 h35 h45 hTw hR5 hM5 hmb ht hv63
            go_wp2_with fail
            refine (Kind_W HZ.out.1 (HZ.out.1.ok.at_wf HZ.out.2.2.2.2.2.2.2.2.1)).mono ?_
            rintro e _ ⟨rfl, rfl⟩
            rw [hkd]
            have HX0 : Hid (Mid Z ws w0 w5 p l tl x first (2 * k) g (m' + 1) cap mb x 0 first) := by
              obtain ⟨hW5, h25, h35, h45, hTw, hR5, hM5, hmb, -⟩ := HZ.out
              exact .inl ⟨rfl, rfl, rfl, TowAt.more ⟨M, ⟨F5, hW5, h25, h35, h45⟩, hTw, hR5, hM5, hmb⟩ (by omega)⟩
            by_cases h14 : t.kind = 14
            · rw [h14]
              clear hkd h14 HZ
              go_wp2_with fail
              go_meet
              case rel => exact ⟨_, _, _, rfl, rfl, rfl, rfl, HX0⟩
            · have h14b : (t.kind != 14) = true := by simpa using h14
              rcases hv0 with rfl | rfl
              · clear hkd h14 HZ
                go_wp2_with fail
                go_meet
                case rel => exact ⟨_, _, _, rfl, rfl, rfl, rfl, HX0⟩
              · clear HX0
                go_wp2_with fail
                obtain ⟨hW5, h25, h35, h45, hTw, hR5, hM5, hmb, ht, hv63⟩ := HZ.out
                have hlast := hTw.last
                have hl0 := hW5.ok.last
                refine (Facet_new hW5 (s := 0) (hW5.ok.at_wf ht) rfl ht h14 hv63 (by decide) (by decide) (hTw.free hW5.ok Hx.out) (by decide) (by omega)).mono ?_
                rintro e w6 ⟨rfl, F', hW', hg⟩
                have HX : Hid (Mid Z ws w0 w6 p l tl x first (2 * k) g (m' + 1) cap mb (M.last + 1) 0 first) := .inr ⟨by have := hTw.range x (List.mem_of_getElem? Hx.out); omega, TowNew.of h25 h35 h45 hR5 hM5 hmb hW' hg ((hTw.wrap hW5.ok (t := ft x 0) (tly := 0) Hx.out rfl (.inr ⟨.inl ⟨rfl, rfl⟩, rfl⟩) (lite_lt _ _ _ _ _ _ _)).more (by omega)) (WalkArith.wf_i64 (by omega)) (hTw.tl0 _ fun h => by have := hTw.range _ h; omega)⟩
                generalize M.last + 1 = r at HX ⊢
                clear HZ hW5 h25 h35 h45 hTw hR5 hM5 hmb ht hv63 hlast hl0 hW' hg h14 hkd
                go_wp2_with fail
                go_meet
                case rel => exact ⟨_, _, _, rfl, rfl, rfl, rfl, HX⟩
        obtain ⟨r, n', fi, rfl, rfl, rfl, rfl, HMid⟩ := hcut
        clear HT hml
        generalize hm1 : m' + 1 = m1 at hmk Hm HMid ⊢
        clear hm1
        rcases HMid.out with ⟨hrx, hn0, hfi, hTo⟩ | ⟨hrx, hTN⟩
        · subst hrx hn0 hfi
          have HTo := (show Hid (TowAt Z ws w0 wc p l tl fi (2 * k + 2) g m1 cap mb) from hTo)
          clear hTo HMid
          go_wp2_with fail
          go_roundw
          case rel => exact ⟨k + 1, m1, l, tl, fi, g, cap, rfl, rfl, by go_num, by omega, by omega, Hm, HTo⟩
          case measure =>
            show 40 - ((k : Int) + 1).toNat < 40 - (k : Int).toNat
            omega
        · have HTN := (show Hid (TowNew Z ws w0 wc p l tl r n' fi (2 * k) g m1 cap mb) from hTN)
          have hrb : (r != x) = true := by simpa using hrx
          clear hTN HMid
          have Hnn := (show Hid ((m1 : Int) ≤ 1099511627776) from (show ((m1 : Int) ≤ 1099511627776) by omega))
          by_cases hn0 : n' = 0
          · subst hn0
            obtain ⟨M, h1, h2, h3, h4, h5, h6, h7⟩ := HTN.out
            have HR := (show Hid (wc.ownsRow w0.heap.size 35 1 (.slice (some ⟨g, 0, none⟩) m1 cap) m1 (l.map (Value.int .i64))) from h3)
            have Hbs := (show Hid (w0.heap.size ≤ wc.heap.size) from h1.base.size)
            have HM4 := (show Hid (MapLe Tryz.prog 35 wc mb (tlf fun q => if q = r then 0 else tl q) (2 * k + 2)) from by rw [tlf_none h7]; obtain ⟨kk, h8, h9⟩ := h4; exact ⟨kk, by omega, h9⟩)
            have H12 := (show Hid _ from And.intro h1 (And.intro h2 h5))
            clear h1 h2 h3 h4 h5 h6 h7
            revert HR
            generalize hV : Value.slice (some ⟨g, 0, none⟩) m1 cap = V
            intro HR
            go_wp2_with (at_builtin; refine append_refS rfl _ _ rfl w0.heap.size V l m1 rfl HR r rfl Hnn Hbs ?_; intro v' w1 hrow1 hg1 hown1; obtain ⟨g5, cap5, h5⟩ := row_succ hrow1.out; subst h5)
            subst hV
            have HTo : Hid (TowAt Z ws w0 w1 p (l ++ [r]) (fun q => if q = r then 0 else tl q) fi (2 * (k + 1)) g5 (m1 + 1) cap5 mb) := TowAt.grown M H12.out.1 H12.out.2.1 HR.out HM4.out H12.out.2.2 hg1.out hrow1.out hown1.out
            clear H12 HR HM4 HTN Hbs hrow1 hg1 hown1
            go_roundw
            case rel => exact ⟨k + 1, m1 + 1, l ++ [r], _, fi, g5, cap5, rfl, rfl, by go_num, by omega, by omega, (by have := Hm.out; show m1 + 1 = (l ++ [r]).length; simp; omega), HTo⟩
            case measure =>
              show 40 - ((k : Int) + 1).toNat < 40 - (k : Int).toNat
              omega
          · obtain ⟨w5, hrun, M, h1, h2, h3, h4, h5⟩ := HTN.out.store hn0 (by omega)
            have HR := (show Hid (w5.ownsRow w0.heap.size 35 1 (.slice (some ⟨g, 0, none⟩) m1 cap) m1 (l.map (Value.int .i64))) from h3)
            have Hbs := (show Hid (w0.heap.size ≤ w5.heap.size) from h1.base.size)
            have HM4 := (show Hid (MapLe Tryz.prog 35 w5 mb (tlf fun q => if q = r then n' else tl q) (2 * k + 2)) from h4)
            have H12 := (show Hid _ from And.intro h1 (And.intro h2 h5))
            have hnb : (n' != 0) = true := by simpa using hn0
            clear h1 h2 h3 h4 h5 HTN
            revert HR
            generalize hV : Value.slice (some ⟨g, 0, none⟩) m1 cap = V
            intro HR
            go_wp2_with (at_builtin; refine append_refS rfl _ _ rfl w0.heap.size V l m1 rfl HR r rfl Hnn Hbs ?_; intro v' w1 hrow1 hg1 hown1; obtain ⟨g5, cap5, h5⟩ := row_succ hrow1.out; subst h5)
            subst hV
            have HTo : Hid (TowAt Z ws w0 w1 p (l ++ [r]) (fun q => if q = r then n' else tl q) fi (2 * (k + 1)) g5 (m1 + 1) cap5 mb) := TowAt.grown M H12.out.1 H12.out.2.1 HR.out HM4.out H12.out.2.2 hg1.out hrow1.out hown1.out
            clear H12 HR HM4 Hbs hrow1 hg1 hown1 hrun
            go_roundw
            case rel => exact ⟨k + 1, m1 + 1, l ++ [r], _, fi, g5, cap5, rfl, rfl, by go_num, by omega, by omega, (by have := Hm.out; show m1 + 1 = (l ++ [r]).length; simp; omega), HTo⟩
            case measure =>
              show 40 - ((k : Int) + 1).toNat < 40 - (k : Int).toNat
              omega
      · obtain rfl : k = 40 := by omega
        go_wp2_with fail
        go_ret3
        first | exact ⟨g, m, cap, mb, rfl, l, tl, first, Hm, HT⟩ | exact ⟨g, m, cap, mb, rfl, l, Hm, tl, first, HT⟩
    · have hkz : ¬ (k : Int) < (n : Int) := by omega
      go_wp2_with fail
      go_ret3
      have HT' := HT.out.more (B' := 80) (by omega)
      first | exact ⟨g, m, cap, mb, rfl, l, tl, first, Hm, HT'⟩ | exact ⟨g, m, cap, mb, rfl, l, Hm, tl, first, HT'⟩
end Go.Proofs.YtmefjkggibbhoaaGreat
