/- Copy: the new world as far as it has come. -/
import Derived.Test.YtifmifjbebpomaaGreatDoorCopyA
import Derived.Test.YtifmifjbebpomaaGreatDoorRefsW
import Derived.Test.YtifmifjbebpomaaGreatDoorWalkE
import Derived.Test.YtifmifjbebpomaaGreatDoorMake
namespace Go.Proofs.YtifmifjbebpomaaGreatDoor
open Go.RowKit Go.ChangeMaps Go.MapKept

/-- The things vs, and where they lie. -/
def thV (vs : List Int) (bl : Int → Nat) (key : Value) : Option Value :=
  match key with
  | .int .i64 r => if r ∈ vs then some (.pointer (some ⟨bl r, 0, none⟩)) else none
  | _ => none
/-- The facets among the things vs. -/
def faV (M : WM) (vs : List Int) (key : Value) : Option Value :=
  match key with
  | .agg cs => (match cs.toList with | [.int .i64 t, .int .u8 s] => ((M.find t s).filter fun r => decide (r ∈ vs)).map (Value.int .i64) | _ => none)
  | _ => none
def updB (bl : Int → Nat) (x : Int) (g : Nat) (r : Int) : Nat := if r = x then g else bl r

structure CW (w0 w : World) (q : Nat) (M : WM) (pa : Option Addr) (pc g1 cap1 b2 b3 g5 cap5 : Nat) (vs : List Int) (bl : Int → Nat) : Prop where
  b : Below w0.heap.size w0 w
  hq : w.heap[q]? = some (.cells #[.slice pa M.parents.length pc, .slice (some ⟨g1, 0, none⟩) M.cuts.length cap1, .map (some b2), .map (some b3), .int .i64 M.last, .slice (some ⟨g5, 0, none⟩) M.made.length cap5] 38 (0, 0))
  pars : ∀ (j : Nat) (x : Int), M.parents[j]? = some x → ∃ b o, pa = some ⟨b, o, none⟩ ∧ w0.heap.size ≤ b ∧ (∃ cs fr, w.heap[b]? = some (.cells cs 23 fr)) ∧ w.cell? ⟨b, o + j, none⟩ = some (.int .i64 x)
  cut : Row w g1 4 cap1 (M.cuts.map Value.bool)
  mad : Row w g5 3 cap5 (M.made.map (Value.int .i64))
  things : HasMap Tryz.prog 24 w b2 (thV vs bl) vs.length
  facets : MapLe Tryz.prog 190 w b3 (faV M vs) vs.length
  blk : ∀ r t, r ∈ vs → M.at r = some t → w.heap[bl r]? = some (.cells (thc t) 73 (0, 0)) ∧ w0.heap.size ≤ bl r
  inj : ∀ r r', r ∈ vs → r' ∈ vs → bl r = bl r' → r = r'
  low : w0.heap.size ≤ q ∧ w0.heap.size ≤ g1 ∧ w0.heap.size ≤ g5 ∧ w0.heap.size ≤ b2 ∧ w0.heap.size ≤ b3
  ne : b2 ≠ b3
  nd : vs.Nodup
  sub : ∀ r ∈ vs, (M.at r).isSome = true

theorem Rg.obj {w : World} {b r cnt : Nat} {f : Value → Option Value} {L : Int → Bool} (h : Rg w b r f L cnt) : ∃ o, w.heap[r]? = some o ∧ (∀ cs e fr, o ≠ .cells cs e fr) ∧ ∀ es c, o ≠ .map es c := by
  obtain ⟨D, n, left, ⟨es, clock, since, seen, c0, h1, h2, h3, h4, h5, h6⟩, r'⟩ := h
  exact ⟨_, h5, (fun _ _ _ e => by cases e), (fun _ _ e => by cases e)⟩
theorem MapLe.is {P : Program} {k : TypeId} {w : World} {b : Nat} {f : Value → Option Value} {n : Nat} (h : MapLe P k w b f n) : ∃ es clock, w.heap[b]? = some (.map es clock) := by
  obtain ⟨m, -, h⟩ := h
  exact h.is
theorem MapLe.of_block {P : Program} {k : TypeId} {w w' : World} {b : Nat} {f : Value → Option Value} {n : Nat} (h : MapLe P k w b f n) (hb : w'.heap[b]? = w.heap[b]?) : MapLe P k w' b f n := by
  obtain ⟨m, h1, h⟩ := h
  exact ⟨m, h1, h.of_block hb⟩

section
variable {w0 w w' : World} {q : Nat} {M : WM} {pa : Option Addr} {pc g1 cap1 b2 b3 g5 cap5 : Nat} {vs : List Int} {bl : Int → Nat}
/-- Whatever cells there are stay; the maps as they are said to be. -/
theorem CW.turn {vs' : List Int} {bl' : Int → Nat} (h : CW w0 w q M pa pc g1 cap1 b2 b3 g5 cap5 vs bl) (hb : Below w0.heap.size w0 w') (hc : ∀ (b : Nat) (cs : Array Value) (e : TypeId) (fr : Nat × Nat), w.heap[b]? = some (Obj.cells cs e fr) → w'.heap[b]? = some (Obj.cells cs e fr))
    (h2 : HasMap Tryz.prog 24 w' b2 (thV vs' bl') vs'.length) (h3 : MapLe Tryz.prog 190 w' b3 (faV M vs') vs'.length)
    (hblk : ∀ r t, r ∈ vs' → M.at r = some t → w'.heap[bl' r]? = some (.cells (thc t) 73 (0, 0)) ∧ w0.heap.size ≤ bl' r) (hinj : ∀ r r', r ∈ vs' → r' ∈ vs' → bl' r = bl' r' → r = r') (hnd : vs'.Nodup) (hsub : ∀ r ∈ vs', (M.at r).isSome = true) :
    CW w0 w' q M pa pc g1 cap1 b2 b3 g5 cap5 vs' bl' where
  b := hb
  hq := hc _ _ _ _ h.hq
  pars j x hx := by
    obtain ⟨b, o, e1, e2, ⟨cs, fr, e3⟩, e4⟩ := h.pars j x hx
    have e5 := hc _ _ _ _ e3
    exact ⟨b, o, e1, e2, ⟨cs, fr, e5⟩, (World.cell?_of_block (a := ⟨b, o + j, none⟩) (e5.trans e3.symm)).trans e4⟩
  cut := by
    obtain ⟨cur, e1, r⟩ := h.cut
    exact ⟨cur, hc _ _ _ _ e1, r⟩
  mad := by
    obtain ⟨cur, e1, r⟩ := h.mad
    exact ⟨cur, hc _ _ _ _ e1, r⟩
  things := h2
  facets := h3
  blk := hblk
  inj := hinj
  low := h.low
  ne := h.ne
  nd := hnd
  sub := hsub
theorem CW.same (h : CW w0 w q M pa pc g1 cap1 b2 b3 g5 cap5 vs bl) (hb : Below w0.heap.size w0 w') (hc : ∀ (b : Nat) (o : Obj), w.heap[b]? = some o → ((∃ cs e fr, o = .cells cs e fr) ∨ ∃ es c, o = .map es c) → w'.heap[b]? = some o) : CW w0 w' q M pa pc g1 cap1 b2 b3 g5 cap5 vs bl := by
  obtain ⟨es2, c2, e2⟩ := h.things.is
  obtain ⟨es3, c3, e3⟩ := h.facets.is
  exact h.turn hb (fun b cs e fr hx => hc _ _ hx (.inl ⟨_, _, _, rfl⟩)) (h.things.of_block ((hc _ _ e2 (.inr ⟨_, _, rfl⟩)).trans e2.symm)) (h.facets.of_block ((hc _ _ e3 (.inr ⟨_, _, rfl⟩)).trans e3.symm))
    (fun r t hr ht => ⟨hc _ _ (h.blk r t hr ht).1 (.inl ⟨_, _, _, rfl⟩), (h.blk r t hr ht).2⟩) h.inj h.nd h.sub
theorem CW.below (h : CW w0 w q M pa pc g1 cap1 b2 b3 g5 cap5 vs bl) (hb : Below w.heap.size w w') : CW w0 w' q M pa pc g1 cap1 b2 b3 g5 cap5 vs bl :=
  h.same (h.b.trans (hb.mono h.b.size)) (fun _ _ hx _ => below_blk hb hx)
/-- The loop's own block turns. -/
theorem CW.next {r : Nat} {o : Obj} (h : CW w0 w q M pa pc g1 cap1 b2 b3 g5 cap5 vs bl) (hr : w.heap[r]? = some o) (h1 : ∀ cs e fr, o ≠ .cells cs e fr) (h2 : ∀ es c, o ≠ .map es c) (h0 : w0.heap.size ≤ r) (hk : Keeps (fun y => y = r) w w') :
    CW w0 w' q M pa pc g1 cap1 b2 b3 g5 cap5 vs bl :=
  h.same (h.b.trans (Keeps.below hk h.b.size (fun x e => by subst e; exact h0))) (fun b o' hx ho => (hk.block b (blk_lt hx) (fun e => by
    subst e
    rw [hr] at hx
    cases hx
    rcases ho with ⟨cs, e, fr, e'⟩ | ⟨es, c, e'⟩
    · exact h1 _ _ _ e'
    · exact h2 _ _ e')).trans hx)
theorem CW.none (h : CW w0 w q M pa pc g1 cap1 b2 b3 g5 cap5 vs bl) : w.cell? ⟨q, 2, none⟩ = some (.map (some b2)) ∧ w.cell? ⟨q, 3, none⟩ = some (.map (some b3)) := by
  constructor
  · rw [cell_blk h.hq]; rfl
  · rw [cell_blk h.hq]; rfl
theorem thV_snoc (x : Int) (g : Nat) : thV (vs ++ [x]) (updB bl x g) (.int .i64 x) = some (.pointer (some ⟨g, 0, none⟩)) ∧ ∀ k, k ≠ .int .i64 x → thV (vs ++ [x]) (updB bl x g) k = thV vs bl k := by
  refine ⟨by simp [thV, updB], fun k hk => ?_⟩
  unfold thV
  split
  · rename_i r
    have hr : r ≠ x := fun e => hk (by rw [e])
    simp [updB, hr]
  · rfl
theorem faV_plain {x : Int} {t : Th} (hM : M.ok) (ht : M.at x = some t) (hk : t.kind ≠ 14) : faV M (vs ++ [x]) = faV M vs := by
  funext key
  unfold faV
  split
  · split
    · rename_i a b hl
      congr 1
      cases hf : M.find a b with
      | none => rfl
      | some r =>
        obtain ⟨u, hu, hk', -⟩ := WM.find_at hM hf
        have : r ≠ x := fun e => by subst e; rw [ht] at hu; cases hu; exact hk hk'
        simp [Option.filter, this]
    · rfl
  · rfl
theorem faV_facet {x : Int} {t : Th} (hM : M.ok) (ht : M.at x = some t) (hk : t.kind = 14) : faV M (vs ++ [x]) (fkey t.tgt t.set) = some (.int .i64 x) ∧ ∀ k, k ≠ fkey t.tgt t.set → faV M (vs ++ [x]) k = faV M vs k := by
  have hfind : M.find t.tgt t.set = some x := by
    cases hf : M.find t.tgt t.set with
    | none => exact (WM.find_none hf ht hk rfl rfl).elim
    | some r =>
      obtain ⟨u, hu, h1, h2, h3⟩ := WM.find_at hM hf
      exact congrArg some (hM.facet r u x t hu ht h1 hk h2 h3)
  refine ⟨by simp [faV, fkey, hfind, Option.filter], fun k hk' => ?_⟩
  unfold faV
  split
  · rename_i cs
    split
    · rename_i a b hl
      congr 1
      cases hf : M.find a b with
      | none => rfl
      | some r =>
        obtain ⟨u, hu, h1, h2, h3⟩ := WM.find_at hM hf
        have : r ≠ x := fun e => by
          subst e
          rw [ht] at hu
          cases hu
          apply hk'
          obtain ⟨l⟩ := cs
          have hl : l = [.int .i64 a, .int .u8 b] := hl
          subst hl
          show Value.agg _ = fkey _ _
          rw [fkey, h2, h3]
        simp [Option.filter, this]
    · rfl
  · rfl
/-- A thing is laid: its block g is new, the map of things has it, then the facets'. -/
theorem CW.add {x : Int} {t : Th} {w2 w3 w4 : World} {g : Nat} (h : CW w0 w q M pa pc g1 cap1 b2 b3 g5 cap5 vs bl) (ht : M.at x = some t) (hx : x ∉ vs) (hb : Below w.heap.size w w2) (hg : w.heap.size ≤ g) (hgb : w2.heap[g]? = some (.cells (thc t) 73 (0, 0)))
    (h3 : Turned w2 w3 b2) (hm : HasMap Tryz.prog 24 w3 b2 (thV (vs ++ [x]) (updB bl x g)) (vs.length + 1)) (h4 : (Turned w3 w4 b3 ∨ w4 = w3) ∧ MapLe Tryz.prog 190 w4 b3 (faV M (vs ++ [x])) (vs.length + 1)) :
    CW w0 w4 q M pa pc g1 cap1 b2 b3 g5 cap5 (vs ++ [x]) (updB bl x g) := by
  have hW2 := h.below hb
  obtain ⟨es2, c2, e2⟩ := hW2.things.is
  obtain ⟨es3, c3, e3⟩ := hW2.facets.is
  have hne := h.ne
  have k3 : ∀ (b : Nat) (cs : Array Value) (e : TypeId) (fr : Nat × Nat), w2.heap[b]? = some (Obj.cells cs e fr) → w3.heap[b]? = some (Obj.cells cs e fr) := fun b cs e fr hb' => (h3.block (fun e' => by subst e'; rw [e2] at hb'; cases hb')).trans hb'
  have e3' : w3.heap[b3]? = some (.map es3 c3) := (h3.block (fun e => hne e.symm)).trans e3
  have k4 : ∀ b, b ≠ b3 → w4.heap[b]? = w3.heap[b]? := fun b hb' => by
    rcases h4.1 with h4 | h4
    · exact h4.block hb'
    · rw [h4]
  have k4' : ∀ (b : Nat) (cs : Array Value) (e : TypeId) (fr : Nat × Nat), w3.heap[b]? = some (Obj.cells cs e fr) → w4.heap[b]? = some (Obj.cells cs e fr) := fun b cs e fr hb' => (k4 b (fun e' => by subst e'; rw [e3'] at hb'; cases hb')).trans hb'
  have hB3 : Below w0.heap.size w0 w3 := hW2.b.trans (Keeps.below h3.2 hW2.b.size (fun y e => by subst e; exact h.low.2.2.2.1))
  have hB4 : Below w0.heap.size w0 w4 := by
    rcases h4.1 with h4 | h4
    · exact hB3.trans (Keeps.below h4.2 hB3.size (fun y e => by subst e; exact h.low.2.2.2.2))
    · rw [h4]; exact hB3
  have hlt : ∀ r t, r ∈ vs → M.at r = some t → bl r < w.heap.size := fun r t hr ht => blk_lt (h.blk r t hr ht).1
  refine hW2.turn hB4 (fun b cs e fr hx' => k4' _ _ _ _ (k3 _ _ _ _ hx')) (by simpa using hm.of_block (k4 b2 hne)) (by simpa using h4.2) (fun r u hr hu => ?_) (fun r r' hr hr' e => ?_) ?_ (fun r hr => ?_)
  · by_cases e : r = x
    · subst e
      rw [ht] at hu
      cases hu
      simp only [updB, if_true]
      exact ⟨k4' _ _ _ _ (k3 _ _ _ _ hgb), Nat.le_trans h.b.size hg⟩
    · simp only [updB, e, if_false]
      have hr : r ∈ vs := by simpa [e] using hr
      exact ⟨k4' _ _ _ _ (k3 _ _ _ _ (hW2.blk r u hr hu).1), (hW2.blk r u hr hu).2⟩
  · have key : ∀ r, r ∈ vs ++ [x] → r ≠ x → r ∈ vs ∧ bl r < w.heap.size := fun r hr e => by
      have hr : r ∈ vs := by simpa [e] using hr
      obtain ⟨u, hu⟩ := Option.isSome_iff_exists.1 (h.sub r hr)
      exact ⟨hr, hlt r u hr hu⟩
    by_cases e1 : r = x <;> by_cases e2 : r' = x
    · rw [e1, e2]
    · have := (key r' hr' e2).2
      simp only [updB, e1, e2, if_true, if_false] at e
      omega
    · have := (key r hr e1).2
      simp only [updB, e1, e2, if_true, if_false] at e
      omega
    · simp only [updB, e1, e2, if_false] at e
      exact h.inj r r' (key r hr e1).1 (key r' hr' e2).1 e
  · rw [List.nodup_append]
    refine ⟨h.nd, by simp, fun a ha b hb' => ?_⟩
    simp at hb'
    subst hb'
    intro e
    exact hx (e ▸ ha)
  · rcases List.mem_append.1 hr with hr | hr
    · exact h.sub r hr
    · simp at hr
      subst hr
      rw [ht]
      rfl
theorem thV_all (hall : ∀ r t, M.at r = some t → r ∈ vs) (hsub : ∀ r ∈ vs, (M.at r).isSome = true) (key : Value) : thf M bl key = thV vs bl key := by
  unfold thf thV
  split
  · rename_i r
    cases hr : M.at r with
    | none =>
      have : r ∉ vs := fun hv => by
        have := hsub r hv
        rw [hr] at this
        cases this
      simp [this]
    | some t => simp [hall r t hr]
  · rename_i hne
    split
    · exact (hne _ rfl).elim
    · rfl
theorem faV_all (hM : M.ok) (hall : ∀ r t, M.at r = some t → r ∈ vs) (key : Value) : faf M key = faV M vs key := by
  unfold faf faV
  cases key with
  | agg cs =>
    simp only
    split
    · rename_i a b hl
      cases hf : M.find a b with
      | none => simp [hl, hf]
      | some r =>
        obtain ⟨u, hu, -⟩ := WM.find_at hM hf
        simp [hl, hf, Option.filter, hall r u hu]
    · rename_i hne
      split
      · rename_i hl
        exact (hne _ _ hl).elim
      · rfl
  | _ => rfl
/-- All things of a light world have been laid: a world. -/
theorem CW.done (hM : M.ok) (light : ∀ r t, M.at r = some t → Deep w (fun _ => False) t) (h : CW w0 w q M pa pc g1 cap1 b2 b3 g5 cap5 vs bl) (hall : ∀ r t, M.at r = some t → r ∈ vs) (hlen : vs.length = M.things.length) (hlast : (M.things.length : Int) ≤ M.last) :
    IsW w q M (fun b => w0.heap.size ≤ b ∧ b < w.heap.size) := by
  obtain ⟨m, hm, hfac⟩ := h.facets
  refine ⟨pa, pc, g1, cap1, g5, cap5, b2, b3, m, bl, ?_⟩
  have hc := h.cut
  have hd := h.mad
  obtain ⟨cur1, e1, -⟩ := h.cut
  obtain ⟨cur5, e5, -⟩ := h.mad
  obtain ⟨l1, l2, l3, l4, l5⟩ := h.low
  exact {
    hp := h.hq
    pars := fun j x hx => by
      obtain ⟨b, o, a1, a2, ⟨cs, fr, a3⟩, a4⟩ := h.pars j x hx
      exact ⟨b, o, a1, ⟨a2, blk_lt a3⟩, ⟨cs, fr, a3⟩, a4⟩
    cut := hc
    mad := hd
    things := by
      rw [← hlen]
      exact h.things.congr fun key kl hk => thV_all hall (fun r hr => h.sub r hr) key
    facets := hfac.congr fun key kl hk => faV_all hM hall key
    fnle := by omega
    blk := fun r t ht => ⟨(h.blk r t (hall r t ht) ht).1, ⟨(h.blk r t (hall r t ht) ht).2, blk_lt (h.blk r t (hall r t ht) ht).1⟩, (light r t ht).of_blocks (fun b cs e fr hF _ _ => hF.elim) (fun b hF => hF.elim)⟩
    inj := fun r r' t t' ht ht' e => h.inj r r' (hall r t ht) (hall r' t' ht') e
    own := ⟨⟨l1, blk_lt h.hq⟩, ⟨l2, blk_lt e1⟩, ⟨l3, blk_lt e5⟩, ⟨l4, h.things.lt⟩, ⟨l5, hfac.lt⟩⟩
    tf := h.ne
    lt := fun b hb => hb.2
    ok := hM }
end
end Go.Proofs.YtifmifjbebpomaaGreatDoor
