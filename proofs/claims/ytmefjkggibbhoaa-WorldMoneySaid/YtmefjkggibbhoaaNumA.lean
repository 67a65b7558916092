/- WorldNumbers: plain laws on its worlds, and the calls that it makes. -/
import Derived.Test.YtmefjkggibbhoaaDrop
import Derived.Test.YtmefjkggibbhoaaMakeL
import Derived.Test.YtmefjkggibbhoaaLives
import Derived.Deep.Grids
namespace Go.Proofs.Ytmefjkggibbhoaa
open Go.ChangeShapes Go.WideShapes Go.ChangeAt Go.RowKit Go.ChangeMaps Go.MapKept
variable {w : World} {p : Nat} {M : WM} {F : Nat → Prop}

/-- The kinds that WorldNumbers makes. -/
def Kd (k : Int) : Prop := k = 1 ∨ k = 2 ∨ k = 3 ∨ k = 8 ∨ k = 13

theorem Make_K (hW : IsW w p M F) (hl : M.last + 1 ≤ 1099511627776) {k h : Int} (hk : Kd k) (home : 0 ≤ h ∧ h < M.made.length) :
    Calls Try.prog 16 #[.pointer (some ⟨p, 0, none⟩), .agg #[.int .u8 k, .int .i64 h, .int .u8 0, .int .i64 0, .string ⟨#[]⟩, .slice none 0 0, .int .i64 0, .slice none 0 0, .int .i64 0, .int .i64 0, .int .i64 0, .int .i64 0, .int .u8 0, .bool false, .slice none 0 0, .slice none 0 0]] w (MadeL w p M F h (lt k h 0 0 0 0 0 0 0 false)) := by
  rcases hk with rfl | rfl | rfl | rfl | rfl
  · exact Make_1 hW hl home plain0
  · exact Make_2 hW hl home
  · exact Make_3 hW hl home (by decide)
  · exact Make_8 hW hl home (by decide) (by decide)
  · exact Make_13 hW hl home

/-- A world of n sides and one, in which k things have been made. -/
structure NumW (M : WM) (n k : Nat) : Prop where
  made : M.made.length = n + 1
  last : M.last = k
  room : ∀ h : Nat, M.made.getD h 0 ≤ k
  kinds : ∀ r t, M.at r = some t → ∃ kd h, t = lt kd h 0 0 0 0 0 0 0 false ∧ Kd kd

theorem NumW.new (xs : List Int) : NumW (WM.new xs) xs.length 0 where
  made := by simp [WM.new]
  last := rfl
  room h := by
    simp only [WM.new, List.getD_eq_getElem?_getD, List.getElem?_replicate]
    split <;> simp
  kinds r t ht := by simp [WM.new, WM.at] at ht

theorem NumW.facet {n k : Nat} (h : NumW M n k) : ∀ r t, M.at r = some t → t.kind ≠ 14 := fun r t ht => by
  obtain ⟨kd, hm, rfl, hk⟩ := h.kinds r t ht
  rcases hk with rfl | rfl | rfl | rfl | rfl <;> simp
theorem NumW.light {n k : Nat} (h : NumW M n k) : ∀ r t, M.at r = some t → Light t := fun r t ht => by
  obtain ⟨kd, hm, rfl, hk⟩ := h.kinds r t ht
  exact ⟨_, _, _, _, _, _, _, _, _, _, rfl, plain0⟩
theorem NumW.add {n k : Nat} (hM : M.ok) (h : NumW M n k) {kd hm : Int} (hk : Kd kd) : NumW (M.add (lt kd hm 0 0 0 0 0 0 0 false)) n (k + 1) where
  made := (made_len M _).trans h.made
  last := by
    have := h.last
    show M.last + 1 = _
    omega
  room j := by
    have h14 : ¬ kd = 14 := by rcases hk with rfl | rfl | rfl | rfl | rfl <;> decide
    show (if kd = 14 then M.made else M.made.set hm.toNat (M.made.getD hm.toNat 0 + 1)).getD j 0 ≤ _
    rw [if_neg h14, List.getD_eq_getElem?_getD, List.getElem?_set]
    have h1 := h.room hm.toNat
    have h2 := h.room j
    rw [List.getD_eq_getElem?_getD] at h2
    split
    · split
      · simp only [Option.getD_some]; omega
      · simp; omega
    · omega
  kinds r t ht := by
    rw [WM.add_at hM] at ht
    split at ht
    · cases ht
      exact ⟨kd, hm, rfl, hk⟩
    · exact h.kinds r t ht
theorem NumW.delL {n k : Nat} (h : NumW M n k) (l : List Int) : NumW (M.delL l) n k where
  made := h.made
  last := h.last
  room := h.room
  kinds r t ht := h.kinds r t (WM.delL_at_some ht).2
theorem NumW.lean {n k : Nat} (h : NumW M n k) {r : Int} (hr : 0 < r) : ¬ Lean' M [r] := by
  rintro ⟨q, t, hq, -, hc⟩
  obtain ⟨kd, hm, rfl, hk⟩ := h.kinds q t hq
  simp at hc
  omega

theorem fold_same {l : List Int} : ∀ (ds : List Int) (M : WM), (∀ r ∈ ds, ∀ t, M.at r = some t → t.kind ≠ 9 ∧ t.kind ≠ 15) → ds.foldl (WM.gone1 l) M = M
  | [], _, _ => rfl
  | d :: ds, M, h => by
    have h1 : WM.gone1 l M d = M := by
      unfold WM.gone1
      split
      · rename_i t ht
        obtain ⟨h9, h15⟩ := h d (by simp) t ht
        rw [if_neg h9, if_neg h15]
      · rfl
    rw [List.foldl_cons, h1]
    exact fold_same ds M fun r hr => h r (by simp [hr])

/-- Drop of one thing. -/
theorem Drop_one (hW : IsW w p M F) {b c : Nat} {r : Int} (hc : w.cell? ⟨b, 0, none⟩ = some (.int .i64 r)) (hb : b < w.heap.size) (hr : (Lit.int .i64 r).wf = true)
    (nofacet : ∀ r t, M.at r = some t → t.kind ≠ 14) (light : ∀ r t, M.at r = some t → Light t) :
    Calls Try.prog 21 #[.pointer (some ⟨p, 0, none⟩), .slice (some ⟨b, 0, none⟩) 1 c] w (DropPost w p M F [r]) :=
  Drop_W hW (m := 1) (l := [r]) (show 1 = [r].length from rfl) (by decide) (.inr ⟨b, 0, rfl, hb, fun j x hx => by
    match j, hx with
    | 0, hx => simp at hx; subst hx; simpa using hc⟩) (fun x hx => by simp at hx; subst hx; exact hr) nofacet light

theorem NumW.dropped {n k : Nat} (h : NumW M n k) (hW : IsW w p M F) {r : Int} {t : Th} (ht : M.at r = some t) {e : Ending} {w' : World} (hp : DropPost w p M F [r] e w') :
    e = .returned (.int .i64 0) ∧ IsW w' p (M.delL [r]) F ∧ Keeps F w w' := by
  rcases hp with ⟨-, -, q, hq, hn⟩ | ⟨-, ⟨-, -, hl⟩ | ⟨he, -, ds, -, hds, hw, hk⟩⟩
  · simp at hq
    subst hq
    rw [ht] at hn
    cases hn
  · exact absurd hl (h.lean (hW.ok.at_range ht).1)
  · refine ⟨he, ?_, hk⟩
    rw [fold_same ds M (fun q hq u hu => by
      obtain ⟨kd, hm, rfl, hk⟩ := h.kinds q u hu
      rcases hk with rfl | rfl | rfl | rfl | rfl <;> simp), M.delL_congr (l' := ds) (fun x => (hds x).symm)] at hw
    rw [M.delL_congr (l' := ds) (fun x => (hds x).symm)]
    exact hw
theorem dropped_none {r : Int} (hn : M.at r = none) {e : Ending} {w' : World} (hp : DropPost w p M F [r] e w') : e = .returned (.int .i64 5) ∧ Below w.heap.size w w' := by
  rcases hp with ⟨he, hb, -⟩ | ⟨h, -⟩
  · exact ⟨he, hb⟩
  · exact absurd hn (h r (by simp))

theorem index_tab (y : Int) (w : World) : ∃ kd : Int, Kd kd ∧ (Instr.index 32 (.agg #[.int .u8 1, .int .u8 2, .int .u8 3, .int .u8 8, .int .u8 13]) (.int .u8 (y % 5))).run Try.prog w = .ok (.int .u8 kd) w := by
  have : y % 5 = 0 ∨ y % 5 = 1 ∨ y % 5 = 2 ∨ y % 5 = 3 ∨ y % 5 = 4 := by omega
  rcases this with e | e | e | e | e <;> rw [e]
  · exact ⟨1, .inl rfl, by kernel_rfl⟩
  · exact ⟨2, .inr (.inl rfl), by kernel_rfl⟩
  · exact ⟨3, .inr (.inr (.inl rfl)), by kernel_rfl⟩
  · exact ⟨8, .inr (.inr (.inr (.inl rfl))), by kernel_rfl⟩
  · exact ⟨13, .inr (.inr (.inr (.inr rfl))), by kernel_rfl⟩
theorem wf_u8_inv {y : Int} (h : (Lit.int .u8 y).wf = true) : 0 ≤ y ∧ y ≤ 255 := by
  simp [Lit.wf, IntKind.min, IntKind.max, IntKind.signed, IntKind.bits] at h
  omega

/-- The Booleans that a slice holds. -/
def BoolArg (w : World) (pa : Option Addr) (xs : List Bool) : Prop :=
  xs = [] ∨ ∃ b o, pa = some ⟨b, o, none⟩ ∧ b < w.heap.size ∧ ∀ (j : Nat) (x : Bool), xs[j]? = some x → w.cell? ⟨b, o + j, none⟩ = some (.bool x)
theorem open_boolA {H : Type} {enc : TypeId × Value → H} {P : Program} {t e : TypeId} {W : World} {base : Nat} {held : Bool} (ht : P.underlying t = some (.slice e)) (he : P.underlying e = some .bool) (hc : P.cellsOf e = 1)
    {r : Reach} {b0 : Nat} {v : Value} (hval : Value.okWide P W r b0 t v) {d : DataW H} {ps : List MemPlace} (hd : DataW.Trod enc P W base (fun _ => true) held t v d ps) :
    ∃ (pa : Option Addr) (c : Nat) (xs : List Bool), v = .slice pa xs.length c ∧ (xs.length : Int) ≤ maxLen ∧ BoolArg W pa xs := by
  obtain ⟨fuel, hf⟩ := hd
  obtain ⟨a0, len, cap, rfl⟩ := okWide_slice ht hval
  rcases Deep.open_bools ht he hc hf with ⟨hcs, hx⟩ | ⟨a, len', cap', B, hcs, _, hl, hm, hx, hcell⟩
  · simp [Value.cells] at hcs
    obtain ⟨rfl, rfl, rfl⟩ := hcs
    exact ⟨none, 0, [], rfl, by unfold maxLen; simp, .inl rfl⟩
  · simp [Value.cells] at hcs
    obtain ⟨rfl, rfl, rfl⟩ := hcs
    refine ⟨some a, cap, (List.range len).map B, by simp, by simp; omega, ?_⟩
    by_cases h0 : len = 0
    · subst h0
      exact .inl rfl
    · right
      obtain ⟨b, off, spot⟩ := a
      have c0 := hcell 0 (by omega)
      have hspot : spot = none := by simpa [Addr.add] using World.cell?_spot c0
      subst hspot
      refine ⟨b, off, rfl, ?_, fun j x hj => ?_⟩
      · have := World.block_lt_of_cell? _ _ c0
        simpa [Addr.add] using this
      · rw [List.getElem?_map, Option.map_eq_some_iff] at hj
        obtain ⟨i, hi, rfl⟩ := hj
        obtain ⟨hi1, hi2⟩ := List.getElem?_eq_some_iff.1 hi
        simp only [List.length_range] at hi1
        simp only [List.getElem_range] at hi2
        subst hi2
        have hadd : (⟨b, off, none⟩ : Addr).add j = ⟨b, off + j, none⟩ := by unfold Addr.add; split <;> simp_all
        have := hcell j (by omega)
        rwa [hadd] at this
end Go.Proofs.Ytmefjkggibbhoaa
