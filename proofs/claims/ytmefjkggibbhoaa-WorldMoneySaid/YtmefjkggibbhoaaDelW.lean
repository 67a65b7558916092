/- Many things go at once: in memory. -/
import Derived.Test.YtmefjkggibbhoaaSetW
import Derived.Test.YtmefjkggibbhoaaDel
import Derived.Test.YtmefjkggibbhoaaRange
namespace Go.Proofs.Ytmefjkggibbhoaa
open Go.RowKit Go.ChangeMaps Go.MapKept
variable {w : World} {p : Nat} {M : WM} {F : Nat → Prop} {pa : Option Addr} {pc cg cc mg mc tb fb fn : Nat} {bl : Int → Nat}

theorem thf_delL (M : WM) (l : List Int) (r : Int) (bl : Int → Nat) : thf (M.delL (l ++ [r])) bl (.int .i64 r) = none ∧ ∀ x, x ≠ .int .i64 r → thf (M.delL (l ++ [r])) bl x = thf (M.delL l) bl x := by
  rw [WM.delL_snoc]
  exact thf_del (M.delL l) r bl
theorem faf_delL {l : List Int} (hM : M.ok) (hk : ∀ r t, M.at r = some t → t.kind ≠ 14) (key : Value) : faf (M.delL l) key = faf M key := by
  unfold faf
  split
  · split
    · rw [WM.delL_find hM hk]
    · rfl
  · rfl

theorem WV.goneL (h : WV w p M F pa pc cg cc mg mc tb fb fn bl) (hk : ∀ r t, M.at r = some t → t.kind ≠ 14) {l : List Int} (hl : ¬ Lean' M l) {w' : World} (hsz : w.heap.size ≤ w'.heap.size)
    (hoth : ∀ b, F b → b ≠ tb → w'.heap[b]? = w.heap[b]?) (htb : HasMap Try.prog 30 w' tb (thf (M.delL l) bl) (M.delL l).things.length) : WV w' p (M.delL l) F pa pc cg cc mg mc tb fb fn bl := by
  obtain ⟨mcur, hm⟩ := h.mad.is
  obtain ⟨ccur, hc⟩ := h.cut.is
  obtain ⟨tes, tcl, ht⟩ := h.things.is
  exact {
    hp := (hoth p h.own.1 (h.ne_of_obj h.hp ht (by simp))).trans h.hp
    pars := fun j x hx => by
      obtain ⟨b, o, h1, h2, ⟨cs, fr, h3⟩, h4⟩ := h.pars j x hx
      have k := hoth b h2 (h.ne_of_obj h3 ht (by simp))
      exact ⟨b, o, h1, h2, ⟨cs, fr, k.trans h3⟩, (World.cell?_of_block (a := ⟨b, o + j, none⟩) k).trans h4⟩
    cut := h.cut.of_block (hoth cg h.own.2.1 (h.ne_of_obj hc ht (by simp)))
    mad := h.mad.of_block (hoth mg h.own.2.2.1 (h.ne_of_obj hm ht (by simp)))
    things := htb
    facets := (h.facets.of_block (hoth fb h.own.2.2.2.2 (Ne.symm h.tf))).congr (fun key _ _ => faf_delL h.ok hk key)
    fnle := h.fnle
    blk := fun q v hv => by
      obtain ⟨h1, h2, h3⟩ := h.blk q v (WM.delL_at_some hv).2
      exact ⟨(hoth _ h2 (h.ne_of_obj h1 ht (by simp))).trans h1, h2, h3.of_blocks (fun b cs e fr hFb hb he => hoth b hFb (h.ne_of_obj hb ht (by simp))) fun _ h => h⟩
    inj := fun q q' v v' hv hv' e => h.inj q q' v v' (WM.delL_at_some hv).2 (WM.delL_at_some hv').2 e
    own := h.own
    tf := h.tf
    lt := fun b hb => Nat.lt_of_lt_of_le (h.lt b hb) hsz
    ok := WM.delL_ok h.ok hl }

/-- One cell of a thing is written. -/
theorem WV.cellSet (h : WV w p M F pa pc cg cc mg mc tb fb fn bl) {r : Int} {u t : Th} (hs : SetOk M r u t) {i : Nat} {v : Value} (ht : (thc u).setIfInBounds i v = thc t)
    (hl : t.v = u.v ∧ t.vl = u.vl ∧ t.vs = u.vs ∧ t.vals = u.vals ∧ t.code = u.code ∧ t.names = u.names) : WV (w.setCell ⟨bl r, i, none⟩ v) p (M.set r t) F pa pc cg cc mg mc tb fb fn bl := by
  obtain ⟨hB, hF, hD⟩ := h.blk r u hs.was
  have ho : ∀ b, b ≠ bl r → (w.setCell ⟨bl r, i, none⟩ v).heap[b]? = w.heap[b]? := fun b hb => Below.heap_setCell w ⟨bl r, i, none⟩ v b hb
  refine h.turn hs (by simp [World.setCell]) (by rw [blk_setCell hB i v, ht]) (fun b _ hb => ho b hb) (fun _ h => h) (fun b hb => by have := h.lt b hb; simpa [World.setCell] using this) ?_
  have hD' : Deep w F t := by
    obtain ⟨h1, h2, h3, h4, h5, h6⟩ := hl
    exact ⟨by rw [h1, h2]; exact hD.v, by rw [h3, h4]; exact hD.vs, by rw [h5]; exact hD.code, by rw [h6]; exact hD.names⟩
  refine hD'.of_blocks (fun b cs e fr hFb hb he => ho b fun x => ?_) (fun _ h => h)
  subst x
  rw [hB] at hb
  cases hb
  simp [deepTy] at he
theorem WV.drew (h : WV w p M F pa pc cg cc mg mc tb fb fn bl) : WV w.drew p M F pa pc cg cc mg mc tb fb fn bl := h.of_blocks (Nat.le_refl _) (fun _ _ => rfl)
theorem min_if (a b : Int) : (if b < a then b else a) = min a b := by
  split <;> omega
theorem set_lost {u : Th} (v : Int) : (thc u).setIfInBounds 9 (.int .i64 v) = thc { u with lost := v } := rfl
theorem set_tgt {u : Th} (v : Int) : (thc u).setIfInBounds 10 (.int .i64 v) = thc { u with tgt := v } := rfl

/-- The map of those that go. -/
def gof (l : List Int) (key : Value) : Option Value :=
  match key with
  | .int .i64 r => if r ∈ l then some (.int .i64 1) else none
  | _ => none
theorem gof_snoc (l : List Int) (r : Int) : gof (l ++ [r]) (.int .i64 r) = some (.int .i64 1) ∧ ∀ x, x ≠ .int .i64 r → gof (l ++ [r]) x = gof l x := by
  refine ⟨by simp [gof], fun x hx => ?_⟩
  unfold gof
  split
  · rename_i q
    have hne : q ≠ r := fun e => hx (by rw [e])
    simp [hne]
  · rfl
theorem gof_some {l : List Int} {x : Int} {v : Value} (h : gof l (.int .i64 x) = some v) : x ∈ l := by
  simp only [gof] at h
  split at h
  · assumption
  · cases h

/-- Those that have gone so far, and those still to come. -/
structure Ds (l : List Int) (L : Int → Bool) (ds : List Int) : Prop where
  nd : ds.Nodup
  mem : ∀ x ∈ ds, x ∈ l ∧ L x = false
  all : ∀ x, (Lit.int .i64 x).wf = true → x ∈ l → L x = false → x ∈ ds
theorem Ds.start {l : List Int} {L : Int → Bool} (h : ∀ x, (Lit.int .i64 x).wf = true → L x = (gof l (.int .i64 x)).isSome) : Ds l L [] where
  nd := List.nodup_nil
  mem := fun x hx => by cases hx
  all := fun x hw hx hL => by
    rw [h x hw] at hL
    simp [gof, hx] at hL
theorem Ds.step {l : List Int} {L : Int → Bool} {ds : List Int} (h : Ds l L ds) {x : Int} (hx : x ∈ l) (hL : L x = true) : Ds l (fun z => L z && !decide (z = x)) (ds ++ [x]) where
  nd := by
    rw [List.nodup_append]
    refine ⟨h.nd, by simp, fun a ha b hb => ?_⟩
    simp at hb
    subst hb
    intro e
    subst e
    rw [(h.mem a ha).2] at hL
    cases hL
  mem := fun y hy => by
    rcases List.mem_append.1 hy with hy | hy
    · exact ⟨(h.mem y hy).1, by simp [(h.mem y hy).2]⟩
    · simp at hy
      subst hy
      exact ⟨hx, by simp⟩
  all := fun y hw hy hLy => by
    by_cases e : y = x
    · simp [e]
    · have := h.all y hw hy (by simpa [e] using hLy)
      simp [this]
theorem Ds.done {l : List Int} {L : Int → Bool} {ds : List Int} (h : Ds l L ds) (hwf : ∀ x ∈ l, (Lit.int .i64 x).wf = true) (hL : ∀ x, (Lit.int .i64 x).wf = true → L x = false) : ds.Nodup ∧ ∀ x, x ∈ ds ↔ x ∈ l :=
  ⟨h.nd, fun x => ⟨fun hx => (h.mem x hx).1, fun hx => h.all x (hwf x hx) hx (hL x (hwf x hx))⟩⟩

theorem fold_at {l : List Int} {q : Int} (hq : q ∈ l) : ∀ (ds : List Int) {M : WM}, M.ok → (ds.foldl (WM.gone1 l) M).at q = M.at q
  | [], _, _ => rfl
  | d :: ds, M, hM => by
    rw [List.foldl_cons, fold_at hq ds (WM.gone1_ok hM l d), WM.gone1_at hM hq]
theorem fold_lean {l : List Int} : ∀ (ds : List Int) {M : WM}, M.ok → ¬ Lean' M l → ¬ Lean' (ds.foldl (WM.gone1 l) M) l
  | [], _, _, h => h
  | d :: ds, M, hM, h => by
    rw [List.foldl_cons]
    exact fold_lean ds (WM.gone1_ok hM l d) (WM.gone1_lean hM h)
theorem fold_kind {l : List Int} : ∀ (ds : List Int) {M : WM}, M.ok → (∀ q t, M.at q = some t → t.kind ≠ 14) → ∀ q t, (ds.foldl (WM.gone1 l) M).at q = some t → t.kind ≠ 14
  | [], _, _, h => h
  | d :: ds, M, hM, h => by
    rw [List.foldl_cons]
    exact fold_kind ds (WM.gone1_ok hM l d) (WM.gone1_kind hM h)

/-- The memory of Drop as those that go are gone over. -/
structure G4 (w : World) (p : Nat) (M : WM) (F : Nat → Prop) (pa : Option Addr) (pc cg cc mg mc tb fb fn : Nat) (bl : Int → Nat) (l : List Int) (r : Nat) (L : Int → Bool) (cnt : Nat) (ds : List Int) (wr : World) : Prop where
  rg : Rg wr w.heap.size r (gof l) L cnt
  k : Keeps F w wr
  cell : wr.heap[w.heap.size + 1]? = some (.cells #[.map (some w.heap.size)] 104 (0, 0))
  map : ∃ n, HasMap Try.prog 30 wr w.heap.size (gof l) n
  wv : WV wr p (ds.foldl (WM.gone1 l) M) F pa pc cg cc mg mc tb fb fn bl
  flt : ∀ b, F b → b < w.heap.size
  rlt : w.heap.size + 1 < r
theorem zeroInt (w : World) : (zeroValue 3).run Try.prog w = .ok (.int .i64 0) w := by kernel_rfl
section
variable {l : List Int} {r : Nat} {L : Int → Bool} {cnt : Nat} {ds : List Int} {wr : World}
theorem G4.look (h : G4 w p M F pa pc cg cc mg mc tb fb fn bl l r L cnt ds wr) {x : Int} (hx : (Lit.int .i64 x).wf = true) : (Instr.lookup 104 (.map (some w.heap.size)) (.int .i64 x) false).run Try.prog wr = .ok (.int .i64 (if x ∈ l then 1 else 0)) wr := by
  obtain ⟨n, h2⟩ := h.map
  rw [h2.look keyedRef Try.underlying104 (zeroInt wr) (key_ref hx)]
  simp only [gof]
  split <;> rfl
/-- Nothing but F has turned. -/
theorem G4.turned (h : G4 w p M F pa pc cg cc mg mc tb fb fn bl l r L cnt ds wr) {w' : World} (hk : Keeps F wr w') {ds' : List Int} (hwv : WV w' p (ds'.foldl (WM.gone1 l) M) F pa pc cg cc mg mc tb fb fn bl) : G4 w p M F pa pc cg cc mg mc tb fb fn bl l r L cnt ds' w' where
  rg := h.rg.of_blocks (hk.block _ h.rg.ltb (fun e => by have := h.flt _ e; omega)) (hk.block _ h.rg.lt (fun e => by have := h.flt _ e; have := h.rlt; omega))
  k := h.k.trans hk (fun _ _ h => h) (fun _ _ h => h)
  cell := (hk.block _ (blk_lt h.cell) (fun e => by have := h.flt _ e; omega)).trans h.cell
  map := by
    obtain ⟨n, h2⟩ := h.map
    exact ⟨n, h2.of_block (hk.block _ h2.lt (fun e => by have := h.flt _ e; omega))⟩
  wv := hwv
  flt := h.flt
  rlt := h.rlt
/-- The next one. -/
theorem G4.next (h : G4 w p M F pa pc cg cc mg mc tb fb fn bl l r L cnt ds wr) {w' : World} {L' : Int → Bool} {cnt' : Nat} (hrg : Rg w' w.heap.size r (gof l) L' cnt') (hk : Keeps (fun y => y = r) wr w') :
    G4 w p M F pa pc cg cc mg mc tb fb fn bl l r L' cnt' ds w' where
  rg := hrg
  k := ⟨hk.os.trans h.k.os, hk.tape.trans h.k.tape, hk.output.trans h.k.output, Nat.le_trans h.k.size hk.size, fun b hb hF => (hk.block b (Nat.lt_of_lt_of_le hb h.k.size) (by have := h.rlt; omega)).trans (h.k.block b hb hF)⟩
  cell := (hk.block _ (blk_lt h.cell) (by have := h.rlt; omega)).trans h.cell
  map := by
    obtain ⟨n, h2⟩ := h.map
    exact ⟨n, h2.of_block (hk.block _ h2.lt (by have := h.rlt; omega))⟩
  wv := h.wv.keeps hk (fun b hb e => by have := h.flt b hb; have := h.rlt; omega)
  flt := h.flt
  rlt := h.rlt
theorem G4.below (h : G4 w p M F pa pc cg cc mg mc tb fb fn bl l r L cnt ds wr) {w' : World} (hb : Below wr.heap.size wr w') : G4 w p M F pa pc cg cc mg mc tb fb fn bl l r L cnt ds w' where
  rg := h.rg.below hb
  k := h.k.then_below hb
  cell := below_blk hb h.cell
  map := by
    obtain ⟨n, h2⟩ := h.map
    exact ⟨n, h2.of_block (hb.block _ h2.lt)⟩
  wv := h.wv.below hb
  flt := h.flt
  rlt := h.rlt
end

/-- The memory of Drop as things go. -/
structure G5 (w wo : World) (F : Nat → Prop) (tb : Nat) (bl : Int → Nat) (N : WM) (l : List Int) (r : Nat) (L : Int → Bool) (cnt : Nat) (es : List Int) (wr : World) : Prop where
  rg : Rg wr w.heap.size r (gof l) L cnt
  k : Keeps F w wr
  sz : wo.heap.size ≤ wr.heap.size
  oth : ∀ b, F b → b ≠ tb → wr.heap[b]? = wo.heap[b]?
  things : HasMap Try.prog 30 wr tb (thf (N.delL es) bl) (N.delL es).things.length
  rlt : w.heap.size + 1 < r
section
variable {wo : World} {N : WM} {l : List Int} {r : Nat} {L : Int → Bool} {cnt : Nat} {es : List Int} {wr : World}
theorem G5.next (h : G5 w wo F tb bl N l r L cnt es wr) (flt : ∀ b, F b → b < w.heap.size) (htb : F tb) {w' : World} {L' : Int → Bool} {cnt' : Nat} (hrg : Rg w' w.heap.size r (gof l) L' cnt') (hk : Keeps (fun y => y = r) wr w') : G5 w wo F tb bl N l r L' cnt' es w' where
  rg := hrg
  k := ⟨hk.os.trans h.k.os, hk.tape.trans h.k.tape, hk.output.trans h.k.output, Nat.le_trans h.k.size hk.size, fun b hb hF => (hk.block b (Nat.lt_of_lt_of_le hb h.k.size) (by have := h.rlt; omega)).trans (h.k.block b hb hF)⟩
  sz := Nat.le_trans h.sz hk.size
  oth := fun b hF hb => (hk.block b (Nat.lt_of_lt_of_le (flt b hF) h.k.size) (by have := flt b hF; have := h.rlt; omega)).trans (h.oth b hF hb)
  things := h.things.of_block (hk.block _ h.things.lt (by have := flt _ htb; have := h.rlt; omega))
  rlt := h.rlt
theorem G5.drop (h : G5 w wo F tb bl N l r L cnt es wr) (hN : N.ok) (flt : ∀ b, F b → b < w.heap.size) (htb : F tb) {x : Int} (hx : (Lit.int .i64 x).wf = true) (ty : TypeId) :
    ∃ w', (Builtin.delete_ #[87, 30] ty #[.map (some tb), .int .i64 x]).run Try.prog wr = .ok (.tuple #[]) w' ∧ G5 w wo F tb bl N l r L cnt (es ++ [x]) w' := by
  obtain ⟨w', hrun, hm, ht⟩ := h.things.drop keyedRef Try.underlying87 (key_ref hx) ty (thf_delL N es x bl).1 (thf_delL N es x bl).2
  have hT := Turned.of ht
  have hlt := flt _ htb
  refine ⟨w', hrun, ?_⟩
  exact {
    rg := h.rg.of_blocks (hT.block (by omega)) (hT.block (by have := h.rlt; omega))
    k := h.k.trans hT.2 (fun _ _ h => h) (fun x _ hx => hx ▸ htb)
    sz := by have := hT.1; have := h.sz; omega
    oth := fun b hF hb => (hT.block hb).trans (h.oth b hF hb)
    things := by
      rw [WM.delL_len hN]
      have : (thf (N.delL es) bl (.int .i64 x)).isSome = ((N.delL es).at x).isSome := by simp [thf]
      rw [this] at hm
      exact hm
    rlt := h.rlt }
end
end Go.Proofs.Ytmefjkggibbhoaa
