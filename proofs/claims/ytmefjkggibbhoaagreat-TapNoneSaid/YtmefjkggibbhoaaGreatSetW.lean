/- A thing that is turned, a thing that goes: in memory. -/
import Derived.Test.YtmefjkggibbhoaaGreatLay
import Derived.Test.YtmefjkggibbhoaaGreatSet
namespace Go.Proofs.YtmefjkggibbhoaaGreat
open Go.RowKit Go.ChangeMaps Go.MapKept
variable {w : World} {p : Nat} {M : WM} {F : Nat → Prop} {pa : Option Addr} {pc cg cc mg mc tb fb fn : Nat} {bl : Int → Nat}

theorem thf_set (M : WM) (r : Int) (t : Th) (bl : Int → Nat) (key : Value) : thf (M.set r t) bl key = thf M bl key := by
  unfold thf
  split
  · rw [WM.set_at]
    split
    · cases M.at _ <;> rfl
    · rfl
  · rfl
theorem faf_set {r : Int} {u t : Th} (hM : M.ok) (h : SetOk M r u t) (key : Value) : faf (M.set r t) key = faf M key := by
  unfold faf
  split
  · split
    · rw [WM.set_find hM h]
    · rfl
  · rfl

theorem WV.turn (h : WV w p M F pa pc cg cc mg mc tb fb fn bl) {r : Int} {u t : Th} (hs : SetOk M r u t) {w' : World} (_ : w.heap.size ≤ w'.heap.size) (hB : w'.heap[bl r]? = some (.cells (thc t) 53 (0, 0)))
    (hoth : ∀ b, F b → b ≠ bl r → w'.heap[b]? = w.heap[b]?) {F' : Nat → Prop} (hF : ∀ b, F b → F' b) (hlt : ∀ b, F' b → b < w'.heap.size) (hd : Deep w' F' t) : WV w' p (M.set r t) F' pa pc cg cc mg mc tb fb fn bl := by
  have hBr := (h.blk r u hs.was).1
  have keep : ∀ b o, F b → w.heap[b]? = some o → (∀ (cs : Array Value) (fr : Nat × Nat), o ≠ Obj.cells cs 53 fr) → w'.heap[b]? = w.heap[b]? := fun b o hFb hb ho => by
    refine hoth b hFb fun e => ?_
    subst e
    rw [hBr] at hb
    cases hb
    exact ho _ _ rfl
  obtain ⟨mcur, hm⟩ := h.mad.is
  obtain ⟨ccur, hc⟩ := h.cut.is
  obtain ⟨tes, tcl, ht⟩ := h.things.is
  obtain ⟨fes, fcl, hf⟩ := h.facets.is
  exact {
    hp := (keep p _ h.own.1 h.hp (by simp)).trans h.hp
    pars := fun j x hx => by
      obtain ⟨b, o, h1, h2, ⟨cs, fr, h3⟩, h4⟩ := h.pars j x hx
      have k := keep b _ h2 h3 (by simp)
      exact ⟨b, o, h1, hF _ h2, ⟨cs, fr, k.trans h3⟩, (World.cell?_of_block (a := ⟨b, o + j, none⟩) k).trans h4⟩
    cut := h.cut.of_block (keep cg _ h.own.2.1 hc (by simp))
    mad := h.mad.of_block (keep mg _ h.own.2.2.1 hm (by simp))
    things := by
      rw [WM.set_len]
      exact (h.things.of_block (keep tb _ h.own.2.2.2.1 ht (by simp))).congr (fun key _ _ => thf_set M r t bl key)
    facets := (h.facets.of_block (keep fb _ h.own.2.2.2.2 hf (by simp))).congr (fun key _ _ => faf_set h.ok hs key)
    fnle := h.fnle
    blk := fun q v hv => by
      rcases WM.set_at_some hv with ⟨rfl, rfl, -⟩ | ⟨hne, hv⟩
      · exact ⟨hB, hF _ (h.blk _ _ hs.was).2.1, hd⟩
      · obtain ⟨h1, h2, h3⟩ := h.blk q v hv
        have hbl : bl q ≠ bl r := fun e => hne (h.inj q r v u hv hs.was e)
        refine ⟨(hoth _ h2 hbl).trans h1, hF _ h2, h3.of_blocks (fun b cs e fr hFb hb he => keep b _ hFb hb fun cs' fr' x => ?_) hF⟩
        cases x
        simp [deepTy] at he
    inj := fun q q' v v' hv hv' e => by
      have key : ∀ {q v}, (M.set r t).at q = some v → ∃ x, M.at q = some x := fun {q v} hv => by
        rcases WM.set_at_some hv with ⟨-, -, x⟩ | ⟨-, hv⟩
        · exact x
        · exact ⟨_, hv⟩
      obtain ⟨x, hx⟩ := key hv
      obtain ⟨y, hy⟩ := key hv'
      exact h.inj q q' x y hx hy e
    own := ⟨hF _ h.own.1, hF _ h.own.2.1, hF _ h.own.2.2.1, hF _ h.own.2.2.2.1, hF _ h.own.2.2.2.2⟩
    tf := h.tf
    lt := hlt
    ok := WM.set_ok h.ok hs }

theorem thf_del (M : WM) (r : Int) (bl : Int → Nat) : thf (M.del r) bl (.int .i64 r) = none ∧ ∀ x, x ≠ .int .i64 r → thf (M.del r) bl x = thf M bl x := by
  refine ⟨by simp [thf, WM.del_at], fun x hx => ?_⟩
  unfold thf
  split
  · rename_i q
    have hne : q ≠ r := fun e => hx (by rw [e])
    rw [WM.del_at, if_neg hne]
  · rfl
theorem faf_del {r : Int} {u : Th} (hM : M.ok) (hu : M.at r = some u) (hk : u.kind ≠ 14) (key : Value) : faf (M.del r) key = faf M key := by
  unfold faf
  split
  · split
    · rw [WM.del_find hM hu hk]
    · rfl
  · rfl

theorem WV.gone (h : WV w p M F pa pc cg cc mg mc tb fb fn bl) {r : Int} {u : Th} (hu : M.at r = some u) (hk : u.kind ≠ 14) (hl : Loose M r) {w' : World} (hsz : w.heap.size ≤ w'.heap.size)
    (hoth : ∀ b, F b → b ≠ tb → w'.heap[b]? = w.heap[b]?) (htb : HasMap Tryz.prog 35 w' tb (thf (M.del r) bl) (M.things.length - 1)) : WV w' p (M.del r) F pa pc cg cc mg mc tb fb fn bl := by
  obtain ⟨mcur, hm⟩ := h.mad.is
  obtain ⟨ccur, hc⟩ := h.cut.is
  obtain ⟨tes, tcl, ht⟩ := h.things.is
  exact {
    hp := (hoth p h.own.1 (h.ne_of_obj h.hp ht (by simp))).trans h.hp
    pars := fun j x hx => by
      obtain ⟨b, o, h1, h2, ⟨cs, fr, h3⟩, h4⟩ := h.pars j x hx
      have k := hoth b h2 (h.ne_of_obj h3 ht (by simp))
      exact ⟨b, o, h1, h2, ⟨cs, fr, k.trans h3⟩, (World.cell?_of_block (a := ⟨b, o + j, none⟩) k).trans h4⟩
    cut := h.cut.of_block (hoth cg h.own.2.1 (h.ne_of_obj hc ht (by simp)))
    mad := h.mad.of_block (hoth mg h.own.2.2.1 (h.ne_of_obj hm ht (by simp)))
    things := by
      have := WM.del_len h.ok hu
      rw [show (M.del r).things.length = M.things.length - 1 by omega]
      exact htb
    facets := (h.facets.of_block (hoth fb h.own.2.2.2.2 (Ne.symm h.tf))).congr (fun key _ _ => faf_del h.ok hu hk key)
    fnle := h.fnle
    blk := fun q v hv => by
      obtain ⟨h1, h2, h3⟩ := h.blk q v (WM.del_at_some hv).2
      exact ⟨(hoth _ h2 (h.ne_of_obj h1 ht (by simp))).trans h1, h2, h3.of_blocks (fun b cs e fr hFb hb he => hoth b hFb (h.ne_of_obj hb ht (by simp))) fun _ h => h⟩
    inj := fun q q' v v' hv hv' e => h.inj q q' v v' (WM.del_at_some hv).2 (WM.del_at_some hv').2 e
    own := h.own
    tf := h.tf
    lt := fun b hb => Nat.lt_of_lt_of_le (h.lt b hb) hsz
    ok := WM.del_ok h.ok hl }
end Go.Proofs.YtmefjkggibbhoaaGreat
