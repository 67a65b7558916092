/- A part of the proof, several texts in one: PlB, MnA. -/
import Derived.Test.YtcoiccbmcjdheaamAV
/- plain: a thing is made. -/
namespace Go.Proofs.Ytcoiccbmcjdheaa
open Go.RowKit Go.ChangeMaps Go.MapKept
variable {w : World} {p : Nat} {M : WM} {F : Nat → Prop}

theorem Grew.start {w w1 w' : World} {F F' : Nat → Prop} (h : Grew F w1 F' w') (hb : Below w.heap.size w w1) : Grew F w F' w' :=
  ⟨Below.keeps hb h.1, fun b hF => (h.2 b hF).imp id fun h => Nat.le_trans hb.size h⟩
theorem MadeG.start {w1 w' : World} {h : Int} {T : Th → Prop} {e : Ending} (hm : MadeG w1 p M F h T e w') (hb : Below w.heap.size w w1) : MadeG w p M F h T e w' := by
  rcases hm with ⟨h1, h2, t, F', h3, h4, h5⟩ | ⟨h1, h2, h3⟩
  · exact .inl ⟨h1, h2, t, F', h3, h4, h5.start hb⟩
  · exact .inr ⟨h1, h2, hb.trans (h3.mono hb.size)⟩


theorem MadeL.toG {h : Int} {t : Th} {e : Ending} {w' : World} (hm : MadeL w p M F h t e w') : MadeG w p M F h (fun u => u = t) e w' := by
  rcases hm with ⟨h1, h2, F', h4, h5⟩ | h
  · exact .inl ⟨h1, h2, t, F', rfl, h4, h5⟩
  · exact .inr h
theorem refsV0 (vk vn : Int) (h : Plain vk vn) : refsV ⟨vk, vn, ⟨#[]⟩, [], 0⟩ = [] ∧ mayV ⟨vk, vn, ⟨#[]⟩, [], 0⟩ = true := by
  rcases h with ⟨rfl, rfl⟩ | rfl
  · exact ⟨by rfl, by rfl⟩
  · constructor
    · show (if mayV _ then refsN 16 _ else []) = []
      split <;> rfl
    · rfl




/-- A cell. -/
abbrev cellT (h : Int) (v : Val) (raw : Value) : Th := ⟨1, h, v, raw, [], .slice none 0 0, 0, 0, 0, 0, 0, false, .slice none 0 0, .slice none 0 0⟩
set_option maxRecDepth 8000 in
theorem fitsV_1 (w : World) (q : Option Addr) (r h vk vn vr : Int) (vstr : ByteArray) (pv : Option Addr) (nv cv : Nat) : Calls Try.prog 29 #[.pointer q, .int .i64 r, .agg #[.int .u8 1, .int .i64 h, .int .u8 vk, .int .i64 vn, .string vstr, .slice pv nv cv, .int .i64 vr, .slice none 0 0, .int .i64 0, .int .i64 0, .int .i64 0, .int .i64 0, .int .u8 0, .bool false, .slice none 0 0, .slice none 0 0]] w fun e w' => e = .returned (.bool true) ∧ Below w.heap.size w w' := by
  go_enter Try.func29, Try.ntmps29
  go_wp2
  go_ret
  exact ⟨rfl, by go_grown⟩
theorem namesB_cell {h : Int} {v : Val} {raw : Value} (hk : ∀ r ∈ refsV v, (Lit.int .i64 r).wf = true ∧ (M.at r).isSome = true) : namesB M (cellT h v raw) = true ∧ ∀ r ∈ heldL (cellT h v raw), (Lit.int .i64 r).wf = true := by
  have e : heldL (cellT h v raw) = refsV v := by simp [heldL]
  unfold namesB
  rw [e]
  exact ⟨by rw [List.all_eq_true]; exact fun r hr => (hk r hr).2, fun r hr => (hk r hr).1⟩
theorem Make_V1 (hW : IsW w p M F) (hl : M.last + 1 ≤ 1099511627776) {h : Int} (home : 0 ≤ h ∧ h < M.made.length) {F1 : Nat → Prop} (v : Val) (raw : Value) (hS : SlAt w F1 raw v.l) (hm : mayV v = true) (hk : ∀ r ∈ refsV v, (Lit.int .i64 r).wf = true ∧ (M.at r).isSome = true) :
    Calls Try.prog 6 #[.pointer (some ⟨p, 0, none⟩), .agg (thc (cellT h v raw))] w (MadeG w p M F h (fun t => ∃ vl', t = cellT h v vl')) := by
  obtain ⟨pa, c, rfl⟩ := hS.form
  have hL : Lies w F1 (cellT h v (.slice pa v.l.length c)) := ⟨hS, SlAt.nil _ _ _ _, rfl, rfl⟩
  refine Make_G hW (T := fun t => ∃ vl', t = cellT h v vl') (c2 := .int .u8 v.kind) (c3 := .int .i64 v.n) (c4 := .string v.s) (c5 := .slice pa v.l.length c) (c6 := .int .i64 v.r) (c7 := .slice none 0 0) (c14 := .slice none 0 0) (c15 := .slice none 0 0) {
    form := fun w1 hb => formV_1 (hW.below hb) (sideB_iff.2 home) (vYes (hS.on hb) hm) ofYes0
    names := fun w1 hb => by
      have := names_G (hW.below hb) _ (hL.on hb) (Nat.zero_le _) (namesB_cell (M := M) hk).2
      rw [(namesB_cell (M := M) hk).1] at this
      exact this
    fits := fun w1 hb => fitsV_1 w1 _ 0 h _ _ _ _ _ _ _
    own := fun w1 hb => (ownWhat_G _ (hL.on hb) hm (fun x hx => by cases hx) (Nat.zero_le _)).mono fun e w' ⟨vl', vals', he, hb', hd, _, h2, _⟩ => by
      have h3 := h2 rfl
      subst h3
      refine ⟨_, ⟨vl', rfl⟩, he, hb', ⟨hd.v.monoLt fun b hb h2 => ⟨hb, h2⟩, SlT.nil _ _ _ _, rfl, rfl⟩⟩
    k14 := rfl
    k13 := fun e => absurd (show (1 : Int) = 13 from e) (by decide)
    tgw := rfl
    biw := rfl
    home := home
    hA := fun e => absurd (show asksOfB 1 = true from e) (by decide)
    hB := fun e => absurd (show asksByB 1 = true from e) (by decide)
    add := fun hr t ht => by
      obtain ⟨vl', rfl⟩ := ht
      exact ⟨rfl, rfl, rfl, {
        wf := ⟨by show (1 : Int) ≤ 1 ∧ (1 : Int) ≤ 16; decide, rfl, rfl, by show (0 : Int) ≤ 0 ∧ (0 : Int) ≤ 255; decide⟩
        last := hl
        home := fun _ => home
        made := fun _ => hr
        wrap := fun e => absurd (show wrapsB 1 = true from e) (by decide)
        gate := fun e => absurd (show (1 : Int) = 15 from e) (by decide)
        purse := fun e => absurd (show (1 : Int) = 9 from e) (by decide)
        facet := fun e => absurd (show (1 : Int) = 14 from e) (by decide) }⟩ }


end Go.Proofs.Ytcoiccbmcjdheaa
/- WorldMany: Make of a log that holds values, and of one that holds too many. -/
namespace Go.Proofs.Ytcoiccbmcjdheaa
open Go.RowKit Go.ChangeMaps Go.MapKept
variable {w : World} {p : Nat} {M : WM} {F : Nat → Prop}

def OfNo (w : World) (v : Value) : Prop := ∀ w', Below w.heap.size w w' → Calls Try.prog 49 #[v] w' fun e w'' => (∃ E, E ≠ 0 ∧ e = .returned (.tuple #[.agg #[.int .u8 0, .int .i64 0, .string ⟨#[]⟩, .slice none 0 0, .int .i64 0], .int .i64 E])) ∧ Below w'.heap.size w' w''
theorem ofNo {l : List Val} {s : Value} (hS : SlAt w F s l) (hl : l.length ≤ 1024) (ho : ofE l ≠ 0) : OfNo w s := fun w' hb => (Of_G l s (hS.on hb) (by omega)).mono fun _ _ h => by
  obtain ⟨h1, ⟨h2, -⟩ | ⟨h2, h3⟩⟩ := h
  · exact absurd h2 ho
  · exact ⟨⟨_, h2, h3⟩, h1⟩
set_option maxHeartbeats 2000000 in
set_option maxRecDepth 8000 in
theorem formN_2 (hW : IsW w p M F) {h : Int} {ps : Option Addr} {nl cs : Nat} (hs : sideB M h = true) (hV : VYes w #[.int .u8 0, .int .i64 0, .string ⟨#[]⟩, .slice none 0 0, .int .i64 0]) (hO : OfNo w (.slice ps nl cs)) : Calls Try.prog 25 #[.pointer (some ⟨p, 0, none⟩), .agg #[.int .u8 2, .int .i64 h, .int .u8 0, .int .i64 0, .string ⟨#[]⟩, .slice none 0 0, .int .i64 0, .slice ps nl cs, .int .i64 0, .int .i64 0, .int .i64 0, .int .i64 0, .int .u8 0, .bool false, .slice none 0 0, .slice none 0 0]] w fun e w' => e = .returned (.bool false) ∧ Below w.heap.size w w' := by
  have HW : Hid (IsW w p M F) := hW
  have HV : Hid (VYes w #[.int .u8 0, .int .i64 0, .string ⟨#[]⟩, .slice none 0 0, .int .i64 0]) := hV
  have HO : Hid (OfNo w (.slice ps nl cs)) := hO
  clear hW hV hO
  go_enter Try.func25, Try.ntmps25
  go_wp2_with fail
  refine (bare_2 _ h 0 0 0 0 0 0 0 0 ⟨#[]⟩ false none ps none none 0 0 nl cs 0 0 0 0).mono ?_
  rintro e w1 ⟨rfl, hb1⟩
  have B1 := below_blk hb1 (blk_new _ _)
  obtain ⟨a0, a1, a2, a3, a4, a5, a6, a7, a8, a9, a10, a11, a12, a13, a14, a15⟩ := cells16 B1
  have hz1 : w.heap.size < w1.heap.size := by have := hb1.size; simp at this; omega
  have HB1 : Hid (Below w.heap.size w w1) := ((Below.refl _ _).alloc (Nat.le_refl _) _).trans (hb1.mono (by simp; try omega))
  clear hb1
  go_wp2_with fail
  refine Calls.mono (blank0_W _) ?_
  rintro e w2 ⟨rfl, hb2⟩
  have B2 := below_blk hb2 (blk_old _ _ B1)
  clear a0 a1 a2 a3 a4 a5 a6 a7 a8 a9 a10 a11 a12 a13 a14 a15
  obtain ⟨a0, a1, a2, a3, a4, a5, a6, a7, a8, a9, a10, a11, a12, a13, a14, a15⟩ := cells16 B2
  have hz2 : w.heap.size < w2.heap.size := by have := hb2.size; simp at this; omega
  have HB2 : Hid (Below w.heap.size w w2) := (HB1.out.alloc (by first | omega | (simp; try omega)) _).trans (hb2.mono (by first | omega | (simp; try omega)))
  clear hb2 B1 HB1 hz1
  go_wp2_with fail
  refine Calls.mono (blank0_W _) ?_
  rintro e w3 ⟨rfl, hb3⟩
  have B3 := below_blk hb3 B2
  clear a0 a1 a2 a3 a4 a5 a6 a7 a8 a9 a10 a11 a12 a13 a14 a15
  obtain ⟨a0, a1, a2, a3, a4, a5, a6, a7, a8, a9, a10, a11, a12, a13, a14, a15⟩ := cells16 B3
  have hz3 : w.heap.size < w3.heap.size := by have := hb3.size; omega
  have HB3 : Hid (Below w.heap.size w w3) := HB2.out.trans (hb3.mono (by first | omega | (simp; try omega)))
  clear hb3 B2 HB2 hz2
  go_wp2_with fail
  refine (side_W (HW.out.below HB3.out) h).mono ?_
  rw [hs]
  rintro e _ ⟨rfl, rfl⟩
  go_wp2_with fail
  refine Calls.mono (HV.out _ HB3.out) ?_
  rintro e w4 ⟨rfl, hb4⟩
  have B4 := below_blk hb4 B3
  clear a0 a1 a2 a3 a4 a5 a6 a7 a8 a9 a10 a11 a12 a13 a14 a15
  obtain ⟨a0, a1, a2, a3, a4, a5, a6, a7, a8, a9, a10, a11, a12, a13, a14, a15⟩ := cells16 B4
  have hz4 : w.heap.size < w4.heap.size := by have := hb4.size; omega
  have HB4 : Hid (Below w.heap.size w w4) := HB3.out.trans (hb4.mono (by first | omega | (simp; try omega)))
  clear hb4 B3 HB3 hz3
  go_wp2_with fail
  refine Calls.mono (HO.out _ HB4.out) ?_
  rintro e w5 ⟨⟨E, hE, rfl⟩, hb5⟩
  have B5 := below_blk hb5 B4
  clear a0 a1 a2 a3 a4 a5 a6 a7 a8 a9 a10 a11 a12 a13 a14 a15
  obtain ⟨a0, a1, a2, a3, a4, a5, a6, a7, a8, a9, a10, a11, a12, a13, a14, a15⟩ := cells16 B5
  have hz5 : w.heap.size < w5.heap.size := by have := hb5.size; omega
  have HB5 : Hid (Below w.heap.size w w5) := HB4.out.trans (hb5.mono (by first | omega | (simp; try omega)))
  clear hb5 B4 HB4 hz4
  have hE2 : (E == 0) = false := by simpa using hE
  go_wp2_with fail
  have hB := HB5.out
  have hZ : w.heap.size ≤ w5.heap.size := by omega
  go_ret
  exact ⟨rfl, by go_grown⟩


set_option maxRecDepth 8000 in
theorem fitsV_2 (w : World) (q : Option Addr) (r h : Int) (pv : Option Addr) (nv cv : Nat) : Calls Try.prog 29 #[.pointer q, .int .i64 r, .agg #[.int .u8 2, .int .i64 h, .int .u8 0, .int .i64 0, .string ⟨#[]⟩, .slice none 0 0, .int .i64 0, .slice pv nv cv, .int .i64 0, .int .i64 0, .int .i64 0, .int .i64 0, .int .u8 0, .bool false, .slice none 0 0, .slice none 0 0]] w fun e w' => e = .returned (.bool true) ∧ Below w.heap.size w w' := by
  go_enter Try.func29, Try.ntmps29
  go_wp2
  go_ret
  exact ⟨rfl, by go_grown⟩
/-- A log that holds values. -/
abbrev logT (h : Int) (vs : List Val) (vals : Value) : Th := ⟨2, h, ⟨0, 0, ⟨#[]⟩, [], 0⟩, .slice none 0 0, vs, vals, 0, 0, 0, 0, 0, false, .slice none 0 0, .slice none 0 0⟩
theorem Make_V2 (hW : IsW w p M F) (hl : M.last + 1 ≤ 1099511627776) {h : Int} (home : 0 ≤ h ∧ h < M.made.length) {F1 : Nat → Prop} (vs : List Val) (raw : Value) (hS : SlAt w F1 raw vs) (hlen : vs.length ≤ 1024) (hm : ∀ x ∈ vs, mayV x = true ∧ refsV x = []) (ho : ofE vs = 0) :
    Calls Try.prog 6 #[.pointer (some ⟨p, 0, none⟩), .agg (thc (logT h vs raw))] w (MadeG w p M F h (fun t => ∃ vals', t = logT h vs vals')) := by
  obtain ⟨pa, c, rfl⟩ := hS.form
  have hL : Lies w F1 (logT h vs (.slice pa vs.length c)) := ⟨SlAt.nil _ _ _ _, hS, rfl, rfl⟩
  have hheld : heldL (logT h vs (.slice pa vs.length c)) = [] := by
    simp only [heldL]
    rw [(refsV0 0 0 (.inl ⟨rfl, rfl⟩)).1, List.nil_append, List.flatMap_eq_nil_iff]
    exact fun x hx => (hm x hx).2
  have hnB : namesB M (logT h vs (.slice pa vs.length c)) = true := by unfold namesB; rw [hheld]; rfl
  refine Make_G hW (T := fun t => ∃ vals', t = logT h vs vals') (c2 := .int .u8 0) (c3 := .int .i64 0) (c4 := .string ⟨#[]⟩) (c5 := .slice none 0 0) (c6 := .int .i64 0) (c7 := .slice pa vs.length c) (c14 := .slice none 0 0) (c15 := .slice none 0 0) {
    form := fun w1 hb => formV_2 (hW.below hb) (sideB_iff.2 home) vYes0 (ofYes (hS.on hb) hlen ho)
    names := fun w1 hb => by
      have := names_G (hW.below hb) _ (hL.on hb) hlen (fun r hr => by rw [hheld] at hr; cases hr)
      rw [hnB] at this
      exact this
    fits := fun w1 hb => fitsV_2 w1 _ 0 h _ _ _
    own := fun w1 hb => (ownWhat_G _ (hL.on hb) (refsV0 0 0 (.inl ⟨rfl, rfl⟩)).2 (fun x hx => (hm x hx).1) hlen).mono fun e w' ⟨vl', vals', he, hb', hd, h2, _, _⟩ => by
      have h3 := h2 rfl
      subst h3
      exact ⟨_, ⟨vals', rfl⟩, he, hb', ⟨SlT.nil _ _ _ _, hd.vs.monoLt fun b hb h2 => ⟨hb, h2⟩, rfl, rfl⟩⟩
    k14 := rfl
    k13 := fun e => absurd (show (2 : Int) = 13 from e) (by decide)
    tgw := rfl
    biw := rfl
    home := home
    hA := fun e => absurd (show asksOfB 2 = true from e) (by decide)
    hB := fun e => absurd (show asksByB 2 = true from e) (by decide)
    add := fun hr t ht => by
      obtain ⟨vals', rfl⟩ := ht
      exact ⟨rfl, rfl, rfl, {
        wf := ⟨by show (1 : Int) ≤ 2 ∧ (2 : Int) ≤ 16; decide, rfl, rfl, by show (0 : Int) ≤ 0 ∧ (0 : Int) ≤ 255; decide⟩
        last := hl
        home := fun _ => home
        made := fun _ => hr
        wrap := fun e => absurd (show wrapsB 2 = true from e) (by decide)
        gate := fun e => absurd (show (2 : Int) = 15 from e) (by decide)
        purse := fun e => absurd (show (2 : Int) = 9 from e) (by decide)
        facet := fun e => absurd (show (2 : Int) = 14 from e) (by decide) }⟩ }
set_option maxHeartbeats 1000000 in
set_option maxRecDepth 8000 in
theorem Make_NF (hW : IsW w p M F) {h : Int} {pa : Option Addr} {n c : Nat}
    (hform : ∀ w', Below w.heap.size w w' → Calls Try.prog 25 #[.pointer (some ⟨p, 0, none⟩), .agg #[.int .u8 2, .int .i64 h, .int .u8 0, .int .i64 0, .string ⟨#[]⟩, .slice none 0 0, .int .i64 0, .slice pa n c, .int .i64 0, .int .i64 0, .int .i64 0, .int .i64 0, .int .u8 0, .bool false, .slice none 0 0, .slice none 0 0]] w' fun e w'' => e = .returned (.bool false) ∧ Below w'.heap.size w' w'') :
    Calls Try.prog 6 #[.pointer (some ⟨p, 0, none⟩), .agg #[.int .u8 2, .int .i64 h, .int .u8 0, .int .i64 0, .string ⟨#[]⟩, .slice none 0 0, .int .i64 0, .slice pa n c, .int .i64 0, .int .i64 0, .int .i64 0, .int .i64 0, .int .u8 0, .bool false, .slice none 0 0, .slice none 0 0]] w fun e w' => e = .returned (.tuple #[.int .i64 0, .int .i64 70]) ∧ Below w.heap.size w w' := by
  have HW : Hid (IsW w p M F) := hW
  have Hf := (show Hid _ from hform)
  have hb0 : Below w.heap.size w (w.alloc (.cells #[.int .u8 2, .int .i64 h, .int .u8 0, .int .i64 0, .string ⟨#[]⟩, .slice none 0 0, .int .i64 0, .slice pa n c, .int .i64 0, .int .i64 0, .int .i64 0, .int .i64 0, .int .u8 0, .bool false, .slice none 0 0, .slice none 0 0] 40)) := (Below.refl _ _).alloc (Nat.le_refl _) _
  have HB0 := (show Hid _ from hb0)
  clear hW hform hb0
  go_enter Try.func6, Try.ntmps6
  go_wp2_with fail
  refine (none_W (HW.out.below HB0.out)).mono ?_
  rintro e _ ⟨rfl, rfl⟩
  go_wp2_with fail
  refine (Hf.out _ HB0.out).mono ?_
  rintro e w1 ⟨rfl, hb1⟩
  have HB1 : Hid (Below w.heap.size w w1) := HB0.out.trans (hb1.mono HB0.out.size)
  clear hb1
  go_wp2_with fail
  go_ret2
  exact ⟨rfl, HB1.out⟩
end Go.Proofs.Ytcoiccbmcjdheaa
