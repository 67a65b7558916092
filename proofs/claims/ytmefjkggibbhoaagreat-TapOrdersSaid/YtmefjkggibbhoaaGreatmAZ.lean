/- A part of the proof, several texts in one: OrdB, Lives13. -/
import Derived.Test.YtmefjkggibbhoaaGreatmAQ
import Derived.Test.YtmefjkggibbhoaaGreatmAW
import Derived.Test.YtmefjkggibbhoaaGreatmAY
import Derived.Test.YtmefjkggibbhoaaGreatmAE
import Derived.Test.YtmefjkggibbhoaaGreatmAR
/- TapOrders: in memory. -/
namespace Go.Proofs.YtmefjkggibbhoaaGreat
open Go.RowKit Go.ChangeMaps Go.MapKept

theorem row_keeps {w w' : World} {S : Nat → Prop} {base s n : Nat} {e : TypeId} {v : Value} {xs : List Value} (h : w.ownsRow base e s v n xs) (hk : Keeps S w w') (hv : ∀ b, v.ownBlock = some b → ¬ S b) : w'.ownsRow base e s v n xs := by
  refine ⟨h.1, ?_⟩
  rcases h.2 with h0 | ⟨g, cap, cur, rfl, h1, h2, h3⟩
  · exact .inl h0
  · exact .inr ⟨g, cap, cur, rfl, h1, (hk.block g (blk_lt h2) (hv g rfl)).trans h2, h3⟩
theorem row_set {w : World} {base g n cap : Nat} {e : TypeId} {xs : List Value} (h : w.ownsRow base e 1 (.slice (some ⟨g, 0, none⟩) n cap) n xs) (i : Nat) (v : Value) : (w.setCell ⟨g, i, none⟩ v).ownsRow base e 1 (.slice (some ⟨g, 0, none⟩) n cap) n (xs.set i v) := by
  refine ⟨by rw [List.length_set]; exact h.1, ?_⟩
  rcases h.2 with ⟨h0, -⟩ | ⟨g', cap', cur, e0, h1, h2, h3, h4, h5, h6⟩
  · cases h0
  · cases e0
    refine .inr ⟨g, cap, cur.setIfInBounds i v, rfl, h1, blk_setCell h2 i v, h3, h4, by simpa using h5, ?_⟩
    rw [Array.toList_setIfInBounds, List.take_set, h6]
theorem row_free {w : World} {base g n cap : Nat} {e : TypeId} {xs : List Value} (h : w.ownsRow base e 1 (.slice (some ⟨g, 0, none⟩) n cap) n xs) (i : Nat) : w.frozen? ⟨g, i, none⟩ = false := by
  rcases h.2 with ⟨h0, -⟩ | ⟨g', cap', cur, e0, h1, h2, -⟩
  · cases h0
  · cases e0
    exact frozen_blk h2 i

/-- Both worlds, as far as they have come; the list l; the order os. -/
structure OrS (w0 : World) (p q : Nat) (M : WM) (l : List Int) (g m cap : Nat) (vo : Value) (os Wa Wb : List Int) (w : World) : Prop where
  b : Below w0.heap.size w0 w
  own : ∃ F G : Nat → Prop, IsW w p (M.pass Wa) F ∧ IsW w q (M.pass Wb) G ∧ (∀ b, F b → w0.heap.size ≤ b) ∧ (∀ b, G b → w0.heap.size ≤ b) ∧ (∀ b, F b → ¬ G b) ∧ (¬ F g ∧ ¬ G g) ∧ ∀ b, vo.ownBlock = some b → ¬ F b ∧ ¬ G b
  row : w.ownsRow w0.heap.size 35 1 (.slice (some ⟨g, 0, none⟩) m cap) m (l.map (Value.int .i64))
  ord : w.ownsRow w0.heap.size 5 1 vo os.length (os.map (Value.int .u8))
section
variable {w0 w w' : World} {p q : Nat} {M : WM} {l : List Int} {tl : Int → Int} {g m cap mb : Nat} {vo : Value} {os Wa Wb : List Int}
theorem OrS.below (h : OrS w0 p q M l g m cap vo os Wa Wb w) (hb : Below w.heap.size w w') : OrS w0 p q M l g m cap vo os Wa Wb w' := by
  obtain ⟨F, G, h1, h2, r⟩ := h.own
  exact ⟨h.b.trans (hb.mono h.b.size), ⟨F, G, h1.below hb, h2.below hb, r⟩, row_below h.row hb, row_below h.ord hb⟩
theorem OrS.start {w1 w2 : World} {G : Nat → Prop} (hS : OwnS w0 w p M (TS NoB g m cap mb)) (hR : w.ownsRow w0.heap.size 35 1 (.slice (some ⟨g, 0, none⟩) m cap) m (l.map (Value.int .i64))) (hb1 : Below w.heap.size w w1) (hq : IsW w1 q M G) (hG : ∀ b, G b → w.heap.size ≤ b)
    (hb2 : Below w1.heap.size w1 w2) (ho : w2.ownsRow w1.heap.size 5 1 vo os.length (os.map (Value.int .u8))) : OrS w0 p q M l g m cap vo os [] [] w2 := by
  obtain ⟨F, hW, h2, h3, h4⟩ := hS
  have hb : Below w.heap.size w w2 := hb1.trans (hb2.mono hb1.size)
  have hs := h3.size
  have hz := hb1.size
  refine ⟨h3.trans (hb.mono h3.size), ⟨F, G, hW.below hb, hq.below hb2, h2, fun b hb => Nat.le_trans hs (hG b hb), fun b hF hG' => by have := hW.lt b hF; have := hG b hG'; omega, ⟨(h4 g (.inl rfl)).1, fun e => by have := hG g e; have := (h4 g (.inl rfl)).2; omega⟩, fun b hb => ?_⟩, row_below hR hb, ?_⟩
  · have h5 : w1.heap.size ≤ b := by
      rcases ho.2 with ⟨e, -⟩ | ⟨g', cap', cur, e, hg', -⟩
      · rw [e] at hb; cases hb
      · rw [e] at hb
        have := Option.some.inj hb
        simp at this
        omega
    exact ⟨fun hF => by have := hW.lt b hF; omega, fun hG' => by have := hq.lt b hG'; omega⟩
  · refine ⟨ho.1, ?_⟩
    rcases ho.2 with h0 | ⟨g', cap', cur, e, hg', r⟩
    · exact .inl h0
    · exact .inr ⟨g', cap', cur, e, by omega, r⟩
theorem OrS.cell (h : OrS w0 p q M l g m cap vo os Wa Wb w) {k : Nat} {x : Int} (hm : m = l.length) (hx : l[k]? = some x) : w.cell? ⟨g, k, none⟩ = some (.int .i64 x) := by
  have hk := (List.getElem?_eq_some_iff.1 hx).1
  rw [h.row.cellAt k (by omega), List.getElem?_map, hx]
  rfl
theorem OrS.at (h : OrS w0 p q M l g m cap vo os Wa Wb w) {k : Nat} {x : Int} (hx : os[k]? = some x) : ∃ go co, vo = .slice (some ⟨go, 0, none⟩) os.length co ∧ w.cell? ⟨go, k, none⟩ = some (.int .u8 x) ∧ w.frozen? ⟨go, k, none⟩ = false := by
  have hk := (List.getElem?_eq_some_iff.1 hx).1
  have ho := h.ord
  rcases ho.2 with ⟨-, h0⟩ | ⟨go, co, cur, rfl, -⟩
  · omega
  · refine ⟨go, co, rfl, ?_, row_free ho k⟩
    rw [ho.cellAt k (by omega), List.getElem?_map, hx]
    rfl
theorem OrS.two {ao : Option Addr} {co n i j : Nat} {a b : Int} (h : OrS w0 p q M l g m cap (.slice ao n co) os Wa Wb w) (ha : os[i]? = some a) (hb : os[j]? = some b) :
    ∃ go, ao = some ⟨go, 0, none⟩ ∧ w.cell? ⟨go, i, none⟩ = some (.int .u8 a) ∧ w.frozen? ⟨go, i, none⟩ = false ∧ w.cell? ⟨go, j, none⟩ = some (.int .u8 b) ∧ w.frozen? ⟨go, j, none⟩ = false ∧
      (w.setCell ⟨go, i, none⟩ (.int .u8 b)).cell? ⟨go, j, none⟩ = some (.int .u8 b) ∧ (w.setCell ⟨go, i, none⟩ (.int .u8 b)).frozen? ⟨go, j, none⟩ = false := by
  obtain ⟨go, co1, e1, c1, f1⟩ := h.at ha
  obtain ⟨go2, co2, e2, c2, f2⟩ := h.at hb
  injection e1 with e1 e1n e1c
  subst e1
  injection e2 with e2 e2n e2c
  injection e2 with e2
  injection e2 with e2
  subst e2
  refine ⟨go, rfl, c1, f1, c2, f2, ?_, ?_⟩
  · have ho := h.ord
    rw [e1n] at ho
    have h3 := row_set ho i (.int .u8 b)
    have hj := (List.getElem?_eq_some_iff.1 hb).1
    rw [h3.cellAt j (by omega), List.getElem?_set]
    by_cases e : i = j
    · subst e
      simp [hj]
    · rw [if_neg e, List.getElem?_map, hb]
      rfl
  · have ho := h.ord
    rw [e1n] at ho
    exact row_free (row_set ho i (.int .u8 b)) j
/-- Two of the order exchanged. -/
theorem OrS.swap {go co n : Nat} {i j : Nat} {a b : Int} (h : OrS w0 p q M l g m cap (.slice (some ⟨go, 0, none⟩) n co) os Wa Wb w) (hn : os.length = n) :
    OrS w0 p q M l g m cap (.slice (some ⟨go, 0, none⟩) n co) (swapL os i j a b) Wa Wb ((w.setCell ⟨go, i, none⟩ (.int .u8 b)).setCell ⟨go, j, none⟩ (.int .u8 a)) := by
  subst hn
  obtain ⟨F, G, h1, h2, h3, h4, h5, h6, h7⟩ := h.own
  have ho := h.ord
  have hk : Keeps (fun x => x = go) w ((w.setCell ⟨go, i, none⟩ (.int .u8 b)).setCell ⟨go, j, none⟩ (.int .u8 a)) := (Keeps.setCell w ⟨go, i, none⟩ _ rfl).trans (Keeps.setCell _ ⟨go, j, none⟩ _ rfl) (fun _ _ h => h.symm) (fun _ _ h => h.symm)
  have hgo := h7 go rfl
  have hlow : w0.heap.size ≤ go := (ho.lt go rfl).1
  refine ⟨h.b.trans (hk.below h.b.size (fun x e => by subst e; exact hlow)), ⟨F, G, h1.keeps hk (fun b hb e => hgo.1 (e ▸ hb)), h2.keeps hk (fun b hb e => hgo.2 (e ▸ hb)), h3, h4, h5, h6, h7⟩, row_keeps h.row hk (fun b hb e => ?_), ?_⟩
  · subst e
    rcases row_ne_rowS (by decide) h.row ho with e | e
    · cases e
    · exact e hb
  · have := row_set (row_set ho i (.int .u8 b)) j (.int .u8 a)
    rw [swapL_len]
    have e : (swapL os i j a b).map (Value.int .u8) = ((os.map (Value.int .u8)).set i (.int .u8 b)).set j (.int .u8 a) := by
      unfold swapL
      rw [List.map_set, List.map_set]
    rw [e]
    exact this
/-- A pass, on the one side and the other. -/
theorem OrS.passA (h : OrS w0 p q M l g m cap vo os Wa Wb w) (hC : Cw M l tl fun _ => 0) (hx : ∀ y ∈ Wa, y ∈ l) (lx : Wa.length ≤ 1000000) {k : Nat} {x y : Int} (hk : x % (m : Int) = (k : Int)) (hy : l[k]? = some y) :
    Calls Tryz.prog 12 #[.pointer (some ⟨p, 0, none⟩), .int .i64 y] w fun e w' => e = .returned (.int .i64 0) ∧ OrS w0 p q M l g m cap vo os (Wa ++ wayOf l m x) Wb w' := by
  obtain ⟨F, G, h1, h2, h3, h4, h5, h6, h7⟩ := h.own
  have hC' := hC.pass Wa hx (fun n => by show (0 : Int) ≤ 0 ∧ (0 : Int) + _ ≤ _; omega)
  obtain ⟨t, ht⟩ := hC'.at hy
  refine (Pass_W h1 (hC'.tw h1.ok fun n => ?_) (hC'.way k y hy) ht).mono ?_
  · have := fold_le tl (fun _ => 0) Wa n
    omega
  rintro e w' ⟨rfl, hW', hK⟩
  refine ⟨rfl, h.b.trans (hK.below h.b.size h3), ⟨F, G, ?_, h2.keeps hK (fun b hb hF => h5 b hF hb), h3, h4, h5, h6, h7⟩, row_keeps h.row hK (fun b hb hF => ?_), row_keeps h.ord hK (fun b hb hF => (h7 b hb).1 hF)⟩
  · rw [pass_append]
    have : wayOf l m x = (l.take (k + 1)).reverse := by unfold wayOf; rw [hk]; rfl
    rw [this]
    exact hW'
  · cases hb
    exact h6.1 hF
theorem OrS.passB (h : OrS w0 p q M l g m cap vo os Wa Wb w) (hC : Cw M l tl fun _ => 0) (hx : ∀ y ∈ Wb, y ∈ l) (lx : Wb.length ≤ 1000000) {k : Nat} {x y : Int} (hk : x % (m : Int) = (k : Int)) (hy : l[k]? = some y) :
    Calls Tryz.prog 12 #[.pointer (some ⟨q, 0, none⟩), .int .i64 y] w fun e w' => e = .returned (.int .i64 0) ∧ OrS w0 p q M l g m cap vo os Wa (Wb ++ wayOf l m x) w' := by
  obtain ⟨F, G, h1, h2, h3, h4, h5, h6, h7⟩ := h.own
  have hC' := hC.pass Wb hx (fun n => by show (0 : Int) ≤ 0 ∧ (0 : Int) + _ ≤ _; omega)
  obtain ⟨t, ht⟩ := hC'.at hy
  refine (Pass_W h2 (hC'.tw h2.ok fun n => ?_) (hC'.way k y hy) ht).mono ?_
  · have := fold_le tl (fun _ => 0) Wb n
    omega
  rintro e w' ⟨rfl, hW', hK⟩
  refine ⟨rfl, h.b.trans (hK.below h.b.size h4), ⟨F, G, h1.keeps hK (fun b hb hG => h5 b hb hG), ?_, h3, h4, h5, h6, h7⟩, row_keeps h.row hK (fun b hb hG => ?_), row_keeps h.ord hK (fun b hb hG => (h7 b hb).2 hG)⟩
  · rw [pass_append]
    have : wayOf l m x = (l.take (k + 1)).reverse := by unfold wayOf; rw [hk]; rfl
    rw [this]
    exact hW'
  · cases hb
    exact h6.2 hG
end
end Go.Proofs.YtmefjkggibbhoaaGreat
/- lives of posternlaw13: it is true. -/
namespace Go.Proofs.YtmefjkggibbhoaaGreat
open Go.RowKit Go.ChangeMaps Go.MapKept

def TM1 : WM := (WM.new []).add (lt 1 0 0 0 0 0 0 0 0 false)
def TM2 : WM := (TM1.add (tallyT 0 0)).add (tapT 0 1 (TM1.last + 1))
def TM3 : WM := TM2.set 2 (tallyT 0 1)
theorem ttree : TreeOk [] := ⟨by decide, fun i p h => by simp at h⟩
theorem tths2 : TM2.things = [(1, lt 1 0 0 0 0 0 0 0 0 false), (2, tallyT 0 0), (3, tapT 0 1 2)] := rfl
theorem tths3 : TM3.things = [(1, lt 1 0 0 0 0 0 0 0 0 false), (2, tallyT 0 1), (3, tapT 0 1 2)] := rfl
theorem tlight1 : ∀ r t, TM1.at r = some t → Lite t := fun r t h => by
  have := at_mem h
  rw [show TM1.things = [(1, lt 1 0 0 0 0 0 0 0 0 false)] from rfl] at this
  simp only [List.mem_cons, List.not_mem_nil, or_false, Prod.mk.injEq] at this
  obtain ⟨-, rfl⟩ := this
  exact ⟨_, _, _, _, _, _, _, _, _, _, rfl, plain0⟩
theorem ttw {M : WM} {c : Int} (hths : M.things = [(1, lt 1 0 0 0 0 0 0 0 0 false), (2, tallyT 0 c), (3, tapT 0 1 2)]) (hm : M.made.length = 1) (hc : 0 ≤ c ∧ c ≤ 9007199254740992) : TW M := fun r t h hk => by
  have := at_mem h
  rw [hths] at this
  simp only [List.mem_cons, List.not_mem_nil, or_false, Prod.mk.injEq] at this
  rcases this with ⟨-, rfl⟩ | ⟨-, rfl⟩ | ⟨-, rfl⟩
  · cases hk
  · cases hk
  · refine ⟨0, 1, 2, 0, c, rfl, ?_, by rw [hm]; decide, hc⟩
    show M.things.lookup 2 = _
    rw [hths]
    rfl
theorem tway3 (M : WM) {c : Int} (hths : M.things = [(1, lt 1 0 0 0 0 0 0 0 0 false), (2, tallyT 0 c), (3, tapT 0 1 2)]) : WayIs M 3 [3, 1] ∧ WayIs M 1 [1] := by
  have h1 : M.at 1 = some (lt 1 0 0 0 0 0 0 0 0 false) := by
    show M.things.lookup 1 = _
    rw [hths]
    rfl
  have h3 : M.at 3 = some (tapT 0 1 2) := by
    show M.things.lookup 3 = _
    rw [hths]
    rfl
  have hw1 : WayIs M 1 [1] := WayIs.mk_base h1 rfl
  exact ⟨WayIs.mk_wrap h3 rfl hw1, hw1⟩
theorem tpass2 : TM2.pass [3, 1] = TM3 := by
  have h3 : TM2.at 3 = some (tapT 0 1 2) := rfl
  have h2 : TM2.at 2 = some (tallyT 0 0) := rfl
  show (TM2.cnt 3).cnt 1 = _
  rw [cnt_tap h3 h2]
  exact cnt_not (t := lt 1 0 0 0 0 0 0 0 0 false) rfl (by decide)
theorem tpass3 : TM3.pass [1] = TM3 := show TM3.cnt 1 = TM3 from cnt_not (t := lt 1 0 0 0 0 0 0 0 0 false) rfl (by decide)
theorem ttaps : TM3.tapsL [3, 1] = [3] := rfl

set_option maxHeartbeats 4000000 in
set_option maxRecDepth 8000 in
theorem lives13_W (w : World) : Calls Tryz.prog 7 #[] w fun e w' => e = .returned (.bool true) ∧ Below w.heap.size w w' := by
  go_enter Tryz.func7, Tryz.ntmps7
  go_wp2_with fail
  refine (New_W w none 0 [] (.inl rfl)).mono ?_
  rintro e w1 hpost
  obtain ⟨p, F, rfl, hW, hF, hb⟩ := (Or.resolve_right hpost (fun h => h.1 ttree)).2
  clear hpost
  have HO : Hid (Own w w1 p (WM.new [])) := ⟨F, hW, fun b h => hF b h, hb⟩
  clear hW hF hb
  go_wp2_with fail
  obtain ⟨F, hW, h2, h3⟩ := HO.out
  refine (Make_1 hW (by decide) (h := 0) (by decide) plain0).mono ?_
  rintro e w2 (⟨-, rfl, F', hW', hg⟩ | ⟨hx, -, -⟩)
  rotate_left
  · exact absurd (by decide) hx
  rw [makeM, if_neg (by simp)] at hW'
  have HO2 : Hid (Own w w2 p TM1) := Own.turn h2 h3 hW' hg
  clear HO hW h2 h3 hW' hg
  simp only [show (WM.new []).last + 1 = 1 from rfl]
  go_wp2_with fail
  obtain ⟨F2, hW, h2, h3⟩ := HO2.out
  refine (tMake_W hW tlight1 (by decide) (h := 0) (r := 1) (by decide) (by decide) (v := lt 1 0 0 0 0 0 0 0 0 false) rfl).mono ?_
  rintro e w3 ⟨rfl, F', hW', hg⟩
  have HO3 : Hid (Own w w3 p TM2) := Own.turn h2 h3 hW' hg
  clear HO2 hW h2 h3 hW' hg
  simp only [show TM1.last + 2 = 3 from rfl, show TM1.last + 1 = 2 from rfl]
  go_wp2_with fail
  obtain ⟨F3, hW, h2, h3⟩ := HO3.out
  refine (Pass_W hW (ttw tths2 rfl (by decide)) (tway3 TM2 tths2).1 (t0 := tapT 0 1 2) rfl).mono ?_
  rintro e w4 ⟨rfl, hW', hk⟩
  rw [tpass2] at hW'
  have HO4 : Hid (Own w w4 p TM3) := ⟨F3, hW', h2, h3.trans (Keeps.below hk h3.size h2)⟩
  clear HO3 hW h2 h3 hW' hk
  go_wp2_with fail
  obtain ⟨F4, hW, h2, h3⟩ := HO4.out
  refine (Pass_W hW (ttw tths3 rfl (by decide)) (tway3 TM3 tths3).2 (t0 := lt 1 0 0 0 0 0 0 0 0 false) rfl).mono ?_
  rintro e w5 ⟨rfl, hW', hk⟩
  rw [tpass3] at hW'
  have HO5 : Hid (Own w w5 p TM3) := ⟨F4, hW', h2, h3.trans (Keeps.below hk h3.size h2)⟩
  clear HO4 hW h2 h3 hW' hk
  go_wp2_with fail
  obtain ⟨F5, hW, h2, h3⟩ := HO5.out
  refine (Count_tap hW (r := 3) (h := 0) (tg := 1) (n := 2) (h' := 0) (c := 1) rfl rfl).mono ?_
  rintro e w6 ⟨rfl, hb⟩
  have HO6 : Hid (Own w w6 p TM3) := HO5.out.below hb
  clear HO5 hW h2 h3 hb
  go_wp2_with fail
  obtain ⟨F6, hW, h2, h3⟩ := HO6.out
  refine (Count_not hW (r := 1) (k := 1) (h := 0) (vk := 0) (vn := 0) (n := 0) (l := 0) (tg := 0) (bi := 0) (s := 0) (fu := false) rfl plain0 (by decide)).mono ?_
  rintro e w7 ⟨rfl, hb⟩
  have HO7 : Hid (Own w w7 p TM3) := HO6.out.below hb
  clear HO6 hW h2 h3 hb
  go_wp2_with fail
  obtain ⟨F7, hW, h2, h3⟩ := HO7.out
  refine (Taps_W hW (tway3 TM3 tths3).1 (t0 := tapT 0 1 2) rfl).mono ?_
  rw [ttaps]
  rintro e w8 ⟨v, rfl, hrow, hb⟩
  obtain ⟨a, cap, rfl, hcells⟩ := way_cells hrow
  obtain ⟨g, rfl, -, -, hc⟩ := hcells 0 (by decide)
  have hc : w8.cell? ⟨g, 0, none⟩ = some (.int .i64 3) := hc
  have HB8 : Hid (Below w.heap.size w w8) := h3.trans (hb.mono h3.size)
  clear HO7 hW h2 h3 hb hcells hrow
  go_wp2_with fail
  go_ret
  exact ⟨rfl, HB8.out⟩
end Go.Proofs.YtmefjkggibbhoaaGreat
