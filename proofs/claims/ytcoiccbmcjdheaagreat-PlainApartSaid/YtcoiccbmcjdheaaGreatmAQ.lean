/- A part of the proof, several texts in one: Set, SetW, LayW. -/
import Derived.Test.YtcoiccbmcjdheaaGreatmAE
import Derived.Test.YtcoiccbmcjdheaaGreatmAP
import Derived.Test.YtcoiccbmcjdheaaGreatmAH
/- Plain laws on a world as data: a thing that is turned, a thing that goes. -/
set_option linter.unusedSimpArgs false
namespace Go.Proofs.YtcoiccbmcjdheaaGreat

/-- The thing r is turned to t. -/
def WM.set (M : WM) (r : Int) (t : Th) : WM := { M with things := M.things.map fun x => if x.1 = r then (x.1, t) else x }

theorem lookup_map_set (l : List (Int × Th)) (r : Int) (t : Th) (q : Int) : (l.map fun x => if x.1 = r then (x.1, t) else x).lookup q = if q = r then (l.lookup q).map fun _ => t else l.lookup q := by
  induction l with
  | nil => simp
  | cons x l ih =>
    obtain ⟨a, b⟩ := x
    rw [List.map_cons]
    by_cases ha : a = r
    · subst ha
      rw [if_pos rfl, List.lookup_cons, List.lookup_cons, ih]
      by_cases e : q = a
      · subst e; simp
      · simp [e, show (q == a) = false by simpa using e]
    · rw [if_neg ha, List.lookup_cons, List.lookup_cons, ih]
      by_cases e : q = a
      · subst e; simp [ha]
      · simp [show (q == a) = false by simpa using e]
theorem WM.set_at (M : WM) (r : Int) (t : Th) (q : Int) : (M.set r t).at q = if q = r then (M.at q).map fun _ => t else M.at q := lookup_map_set M.things r t q
theorem WM.set_at_ne (M : WM) {r : Int} (t : Th) {q : Int} (h : q ≠ r) : (M.set r t).at q = M.at q := by rw [WM.set_at, if_neg h]
theorem WM.set_at_self {M : WM} {r : Int} {u : Th} (t : Th) (h : M.at r = some u) : (M.set r t).at r = some t := by rw [WM.set_at, if_pos rfl, h]; rfl
theorem WM.set_at_some {M : WM} {r : Int} {t : Th} {q : Int} {v : Th} (h : (M.set r t).at q = some v) : (q = r ∧ v = t ∧ ∃ u, M.at q = some u) ∨ (q ≠ r ∧ M.at q = some v) := by
  rw [WM.set_at] at h
  split at h
  · rename_i e
    rw [Option.map_eq_some_iff] at h
    obtain ⟨u, hu, rfl⟩ := h
    exact .inl ⟨e, rfl, u, hu⟩
  · rename_i e
    exact .inr ⟨e, h⟩
theorem WM.set_len (M : WM) (r : Int) (t : Th) : (M.set r t).things.length = M.things.length := by simp [WM.set]

/-- What is asked where a thing is turned: what it is stays as it was, but for a switch's gate. -/
structure SetOk (M : WM) (r : Int) (u t : Th) : Prop where
  was : M.at r = some u
  kind : t.kind = u.kind
  home : t.home = u.home
  tgt : t.kind ≠ 13 → t.tgt = u.tgt
  tgtw : (Lit.int .i64 t.tgt).wf = true
  bi : t.bi = u.bi
  set : t.set = u.set

theorem find_map_set (r : Int) (t : Th) (P : Int × Th → Bool) : ∀ (l : List (Int × Th)), (∀ x ∈ l, x.1 = r → P (x.1, t) = P x) → ((l.map fun x => if x.1 = r then (x.1, t) else x).find? P).map (·.1) = (l.find? P).map (·.1)
  | [], _ => rfl
  | x :: l, h => by
    have ih := find_map_set r t P l fun y hy => h y (by simp [hy])
    have hx := h x (by simp)
    rw [List.map_cons, List.find?_cons, List.find?_cons]
    by_cases e : x.1 = r
    · rw [if_pos e, hx e]
      cases P x with
      | true => rfl
      | false => exact ih
    · rw [if_neg e]
      cases P x with
      | true => rfl
      | false => exact ih
theorem WM.set_find {M : WM} {r : Int} {u t : Th} (hM : M.ok) (h : SetOk M r u t) (a b : Int) : (M.set r t).find a b = M.find a b := by
  refine find_map_set r t _ M.things fun x hx hr => ?_
  have hu : M.at x.1 = some x.2 := hM.at_of_mem hx
  rw [hr, h.was] at hu
  cases hu
  show (t.kind == 14 && t.tgt == a && t.set == b) = (x.2.kind == 14 && x.2.tgt == a && x.2.set == b)
  rw [h.kind, h.set]
  by_cases h14 : x.2.kind = 14
  · rw [h.tgt (by rw [h.kind, h14]; decide)]
  · rw [show (x.2.kind == 14) = false by simpa using h14]
    rfl

theorem WM.set_ok {M : WM} {r : Int} {u t : Th} (hM : M.ok) (h : SetOk M r u t) : (M.set r t).ok where
  sides := hM.sides
  cuts := hM.cuts
  made := hM.made
  tree := hM.tree
  keys := by
    show (M.things.map _).Pairwise _
    rw [List.pairwise_map]
    refine hM.keys.imp ?_
    intro x y hxy
    have e : ∀ z : Int × Th, (if z.1 = r then (z.1, t) else z).1 = z.1 := fun z => by split <;> rfl
    rw [e, e]
    exact hxy
  range x hx := by
    obtain ⟨y, hy, rfl⟩ := List.mem_map.1 hx
    have := hM.range y hy
    split <;> exact this
  last := hM.last
  mades := hM.mades
  wf q v hv := by
    rcases WM.set_at_some hv with ⟨rfl, rfl, -⟩ | ⟨-, hv⟩
    · have := hM.wf _ _ h.was
      exact ⟨by rw [h.kind]; exact this.kind, h.tgtw, by rw [h.bi]; exact this.bi, by rw [h.set]; exact this.set⟩
    · exact hM.wf q v hv
  homes q v hv hk := by
    rcases WM.set_at_some hv with ⟨rfl, rfl, -⟩ | ⟨-, hv⟩
    · have := hM.homes _ _ h.was (by rw [← h.kind]; exact hk)
      rw [← h.home] at this
      exact this
    · exact hM.homes q v hv hk
  wrap := by
    obtain ⟨rk, h1, h2⟩ := hM.wrap
    refine ⟨rk, h1, fun q v hv hw => ?_⟩
    have key : ∃ x, M.at v.tgt = some x ∧ rk v.tgt < rk q := by
      rcases WM.set_at_some hv with ⟨rfl, rfl, -⟩ | ⟨-, hv⟩
      · have hk : wrapsB u.kind = true := by rw [← h.kind]; exact hw
        have h13 : v.kind ≠ 13 := by rintro e; rw [e] at hw; cases hw
        obtain ⟨⟨x, hx⟩, h4⟩ := h2 _ _ h.was hk
        rw [← h.tgt h13] at hx h4
        exact ⟨x, hx, h4⟩
      · obtain ⟨⟨x, hx⟩, h4⟩ := h2 _ _ hv hw
        exact ⟨x, hx, h4⟩
    obtain ⟨x, hx, h4⟩ := key
    refine ⟨?_, h4⟩
    rw [WM.set_at, hx]
    split <;> exact ⟨_, rfl⟩
  gate q v hv hk := by
    have key : ∃ x, M.at v.bi = some x ∧ x.kind = 13 := by
      rcases WM.set_at_some hv with ⟨rfl, rfl, -⟩ | ⟨-, hv⟩
      · obtain ⟨x, hx, h4⟩ := hM.gate _ _ h.was (by rw [← h.kind]; exact hk)
        rw [← h.bi] at hx
        exact ⟨x, hx, h4⟩
      · exact hM.gate _ _ hv hk
    obtain ⟨x, hx, h4⟩ := key
    rw [WM.set_at, hx]
    split
    · rename_i e
      refine ⟨t, rfl, ?_⟩
      rw [e, h.was] at hx
      cases hx
      rw [h.kind, h4]
    · exact ⟨x, rfl, h4⟩
  purse q v hv hk := by
    have key : ∃ x, M.at v.tgt = some x ∧ x.kind = 8 := by
      rcases WM.set_at_some hv with ⟨rfl, rfl, -⟩ | ⟨-, hv⟩
      · obtain ⟨x, hx, h4⟩ := hM.purse _ _ h.was (by rw [← h.kind]; exact hk)
        rw [← h.tgt (by rw [hk]; decide)] at hx
        exact ⟨x, hx, h4⟩
      · exact hM.purse _ _ hv hk
    obtain ⟨x, hx, h4⟩ := key
    rw [WM.set_at, hx]
    split
    · rename_i e
      refine ⟨t, rfl, ?_⟩
      rw [e, h.was] at hx
      cases hx
      rw [h.kind, h4]
    · exact ⟨x, rfl, h4⟩
  facet q v q' v' hv hv' k k' e1 e2 := by
    have key : ∀ {q v}, (M.set r t).at q = some v → v.kind = 14 → ∃ x, M.at q = some x ∧ x.kind = 14 ∧ x.tgt = v.tgt ∧ x.set = v.set := by
      intro q v hv hk
      rcases WM.set_at_some hv with ⟨rfl, rfl, -⟩ | ⟨-, hv⟩
      · exact ⟨u, h.was, by rw [← h.kind]; exact hk, (h.tgt (by rw [hk]; decide)).symm, h.set.symm⟩
      · exact ⟨v, hv, hk, rfl, rfl⟩
    obtain ⟨x, hx, a1, a2, a3⟩ := key hv k
    obtain ⟨y, hy, b1, b2, b3⟩ := key hv' k'
    exact hM.facet q x q' y hx hy a1 b1 (by rw [a2, b2, e1]) (by rw [a3, b3, e2])

/-- The thing r goes. -/
def WM.del (M : WM) (r : Int) : WM := { M with things := M.things.filter fun x => decide (x.1 ≠ r) }
theorem lookup_filter_ne (l : List (Int × Th)) (r q : Int) : (l.filter fun x => decide (x.1 ≠ r)).lookup q = if q = r then none else l.lookup q := by
  induction l with
  | nil => simp
  | cons x l ih =>
    obtain ⟨a, b⟩ := x
    rw [List.filter_cons]
    by_cases ha : a = r
    · subst ha
      simp only [ne_eq, not_true_eq_false, decide_false, Bool.false_eq_true, ↓reduceIte, ih, List.lookup_cons]
      by_cases e : q = a
      · simp [e]
      · simp [e, show (q == a) = false by simpa using e]
    · simp only [ne_eq, ha, not_false_eq_true, decide_true, ↓reduceIte, List.lookup_cons, ih]
      by_cases e : q = a
      · subst e; simp [ha]
      · simp [show (q == a) = false by simpa using e]
theorem WM.del_at (M : WM) (r q : Int) : (M.del r).at q = if q = r then none else M.at q := lookup_filter_ne M.things r q
theorem WM.del_at_some {M : WM} {r q : Int} {v : Th} (h : (M.del r).at q = some v) : q ≠ r ∧ M.at q = some v := by
  rw [WM.del_at] at h
  split at h
  · cases h
  · exact ⟨by assumption, h⟩

/-- Nobody leans on r. -/
structure Loose (M : WM) (r : Int) : Prop where
  tgt : ∀ q t, M.at q = some t → t.kind ≠ 13 → t.tgt ≠ r
  bi : ∀ q t, M.at q = some t → t.bi ≠ r

theorem WM.del_ok {M : WM} {r : Int} (hM : M.ok) (h : Loose M r) : (M.del r).ok where
  sides := hM.sides
  cuts := hM.cuts
  made := hM.made
  tree := hM.tree
  keys := hM.keys.sublist List.filter_sublist
  range x hx := hM.range x (List.mem_filter.1 hx).1
  last := hM.last
  mades := hM.mades
  wf q v hv := hM.wf q v (WM.del_at_some hv).2
  homes q v hv hk := hM.homes q v (WM.del_at_some hv).2 hk
  wrap := by
    obtain ⟨rk, h1, h2⟩ := hM.wrap
    refine ⟨rk, h1, fun q v hv hw => ?_⟩
    obtain ⟨hq, hv⟩ := WM.del_at_some hv
    obtain ⟨⟨x, hx⟩, h4⟩ := h2 q v hv hw
    have := h.tgt q v hv (by rintro e; rw [e] at hw; cases hw)
    exact ⟨⟨x, by rw [WM.del_at, if_neg this, hx]⟩, h4⟩
  gate q v hv hk := by
    obtain ⟨hq, hv⟩ := WM.del_at_some hv
    obtain ⟨x, hx, h4⟩ := hM.gate q v hv hk
    exact ⟨x, by rw [WM.del_at, if_neg (h.bi q v hv), hx], h4⟩
  purse q v hv hk := by
    obtain ⟨hq, hv⟩ := WM.del_at_some hv
    obtain ⟨x, hx, h4⟩ := hM.purse q v hv hk
    exact ⟨x, by rw [WM.del_at, if_neg (h.tgt q v hv (by rw [hk]; decide)), hx], h4⟩
  facet q v q' v' hv hv' k k' e1 e2 := hM.facet q v q' v' (WM.del_at_some hv).2 (WM.del_at_some hv').2 k k' e1 e2

theorem find_filter_ne (r : Int) (P : Int × Th → Bool) : ∀ (l : List (Int × Th)), (∀ x ∈ l, x.1 = r → P x = false) → (l.filter fun x => decide (x.1 ≠ r)).find? P = l.find? P
  | [], _ => rfl
  | x :: l, h => by
    have ih := find_filter_ne r P l fun y hy => h y (by simp [hy])
    have hx := h x (by simp)
    rw [List.filter_cons, List.find?_cons]
    by_cases e : x.1 = r
    · rw [hx e]
      simp only [e, ne_eq, not_true_eq_false, decide_false, Bool.false_eq_true, ↓reduceIte]
      exact ih
    · simp only [e, ne_eq, not_false_eq_true, decide_true, ↓reduceIte, List.find?_cons]
      rw [ih]
theorem WM.del_find {M : WM} {r : Int} {u : Th} (hM : M.ok) (hu : M.at r = some u) (hk : u.kind ≠ 14) (a b : Int) : (M.del r).find a b = M.find a b := by
  unfold WM.find
  show ((M.things.filter _).find? _).map _ = _
  rw [find_filter_ne]
  intro x hx hr
  have h2 : M.at x.1 = some x.2 := hM.at_of_mem hx
  rw [hr, hu] at h2
  cases h2
  simp [hk]
theorem WM.del_len {M : WM} {r : Int} {u : Th} (hM : M.ok) (hu : M.at r = some u) : (M.del r).things.length + 1 = M.things.length := by
  have hm := at_mem hu
  show (M.things.filter _).length + 1 = _
  have hk := hM.keys
  clear hu hM
  revert hm hk
  induction M.things with
  | nil => intro h; cases h
  | cons x l ih =>
    intro hm hk
    obtain ⟨h1, h2⟩ := List.pairwise_cons.1 hk
    rw [List.filter_cons]
    rcases List.mem_cons.1 hm with e | e
    · have hx : x.1 = r := by rw [← e]
      have hall : l.filter (fun y => decide (y.1 ≠ r)) = l := List.filter_eq_self.2 fun y hy => by
        have := h1 y hy
        simp only [ne_eq, decide_not, Bool.not_eq_eq_eq_not, Bool.not_true, decide_eq_false_iff_not]
        omega
      simp only [hx, ne_eq, not_true_eq_false, decide_false, Bool.false_eq_true, ↓reduceIte]
      rw [hall]
      rfl
    · have hx : ¬ x.1 = r := by
        have := h1 _ e
        simp only at this
        omega
      simp only [ne_eq, hx, not_false_eq_true, decide_true, ↓reduceIte, List.length_cons]
      rw [ih e h2]
end Go.Proofs.YtcoiccbmcjdheaaGreat
/- A thing that is turned, a thing that goes: in memory. -/
namespace Go.Proofs.YtcoiccbmcjdheaaGreat
open Go.RowKit Go.ChangeMaps Go.MapKept
variable {w : World} {p : Nat} {M : WM} {F : Nat → Prop} {pa : Option Addr} {pc cg cc mg mc tb fb fn : Nat} {bl : Int → Nat}

theorem thf_set (M : WM) (r : Int) (t : Th) (bl : Int → Nat) (key : Value) : thf (M.set r t) bl key = thf M bl key := by
  unfold thf
  split
  · rw [WM.set_at]
    split
    · cases M.at _ <;> rfl
    · rfl
  · rfl
theorem faf_set {r : Int} {u t : Th} (hM : M.ok) (h : SetOk M r u t) (key : Value) : faf (M.set r t) key = faf M key := by
  unfold faf
  split
  · split
    · rw [WM.set_find hM h]
    · rfl
  · rfl

theorem WV.turn (h : WV w p M F pa pc cg cc mg mc tb fb fn bl) {r : Int} {u t : Th} (hs : SetOk M r u t) {w' : World} (_ : w.heap.size ≤ w'.heap.size) (hB : w'.heap[bl r]? = some (.cells (thc t) 42 (0, 0)))
    (hoth : ∀ b, F b → b ≠ bl r → w'.heap[b]? = w.heap[b]?) {F' : Nat → Prop} (hF : ∀ b, F b → F' b) (hlt : ∀ b, F' b → b < w'.heap.size) (hd : Deep w' F' t) : WV w' p (M.set r t) F' pa pc cg cc mg mc tb fb fn bl := by
  have hBr := (h.blk r u hs.was).1
  have keep : ∀ b o, F b → w.heap[b]? = some o → (∀ (cs : Array Value) (fr : Nat × Nat), o ≠ Obj.cells cs 42 fr) → w'.heap[b]? = w.heap[b]? := fun b o hFb hb ho => by
    refine hoth b hFb fun e => ?_
    subst e
    rw [hBr] at hb
    cases hb
    exact ho _ _ rfl
  obtain ⟨mcur, hm⟩ := h.mad.is
  obtain ⟨ccur, hc⟩ := h.cut.is
  obtain ⟨tes, tcl, ht⟩ := h.things.is
  obtain ⟨fes, fcl, hf⟩ := h.facets.is
  exact {
    hp := (keep p _ h.own.1 h.hp (by simp)).trans h.hp
    pars := fun j x hx => by
      obtain ⟨b, o, h1, h2, ⟨cs, fr, h3⟩, h4⟩ := h.pars j x hx
      have k := keep b _ h2 h3 (by simp)
      exact ⟨b, o, h1, hF _ h2, ⟨cs, fr, k.trans h3⟩, (World.cell?_of_block (a := ⟨b, o + j, none⟩) k).trans h4⟩
    cut := h.cut.of_block (keep cg _ h.own.2.1 hc (by simp))
    mad := h.mad.of_block (keep mg _ h.own.2.2.1 hm (by simp))
    things := by
      rw [WM.set_len]
      exact (h.things.of_block (keep tb _ h.own.2.2.2.1 ht (by simp))).congr (fun key _ _ => thf_set M r t bl key)
    facets := (h.facets.of_block (keep fb _ h.own.2.2.2.2 hf (by simp))).congr (fun key _ _ => faf_set h.ok hs key)
    fnle := h.fnle
    blk := fun q v hv => by
      rcases WM.set_at_some hv with ⟨rfl, rfl, -⟩ | ⟨hne, hv⟩
      · exact ⟨hB, hF _ (h.blk _ _ hs.was).2.1, hd⟩
      · obtain ⟨h1, h2, h3⟩ := h.blk q v hv
        have hbl : bl q ≠ bl r := fun e => hne (h.inj q r v u hv hs.was e)
        refine ⟨(hoth _ h2 hbl).trans h1, hF _ h2, h3.of_blocks (fun b cs e fr hFb hb he => keep b _ hFb hb fun cs' fr' x => ?_) hF⟩
        cases x
        simp [deepTy] at he
    inj := fun q q' v v' hv hv' e => by
      have key : ∀ {q v}, (M.set r t).at q = some v → ∃ x, M.at q = some x := fun {q v} hv => by
        rcases WM.set_at_some hv with ⟨-, -, x⟩ | ⟨-, hv⟩
        · exact x
        · exact ⟨_, hv⟩
      obtain ⟨x, hx⟩ := key hv
      obtain ⟨y, hy⟩ := key hv'
      exact h.inj q q' x y hx hy e
    own := ⟨hF _ h.own.1, hF _ h.own.2.1, hF _ h.own.2.2.1, hF _ h.own.2.2.2.1, hF _ h.own.2.2.2.2⟩
    tf := h.tf
    lt := hlt
    ok := WM.set_ok h.ok hs }

theorem thf_del (M : WM) (r : Int) (bl : Int → Nat) : thf (M.del r) bl (.int .i64 r) = none ∧ ∀ x, x ≠ .int .i64 r → thf (M.del r) bl x = thf M bl x := by
  refine ⟨by simp [thf, WM.del_at], fun x hx => ?_⟩
  unfold thf
  split
  · rename_i q
    have hne : q ≠ r := fun e => hx (by rw [e])
    rw [WM.del_at, if_neg hne]
  · rfl
theorem faf_del {r : Int} {u : Th} (hM : M.ok) (hu : M.at r = some u) (hk : u.kind ≠ 14) (key : Value) : faf (M.del r) key = faf M key := by
  unfold faf
  split
  · split
    · rw [WM.del_find hM hu hk]
    · rfl
  · rfl

theorem WV.gone (h : WV w p M F pa pc cg cc mg mc tb fb fn bl) {r : Int} {u : Th} (hu : M.at r = some u) (hk : u.kind ≠ 14) (hl : Loose M r) {w' : World} (hsz : w.heap.size ≤ w'.heap.size)
    (hoth : ∀ b, F b → b ≠ tb → w'.heap[b]? = w.heap[b]?) (htb : HasMap Tryz.prog 28 w' tb (thf (M.del r) bl) (M.things.length - 1)) : WV w' p (M.del r) F pa pc cg cc mg mc tb fb fn bl := by
  obtain ⟨mcur, hm⟩ := h.mad.is
  obtain ⟨ccur, hc⟩ := h.cut.is
  obtain ⟨tes, tcl, ht⟩ := h.things.is
  exact {
    hp := (hoth p h.own.1 (h.ne_of_obj h.hp ht (by simp))).trans h.hp
    pars := fun j x hx => by
      obtain ⟨b, o, h1, h2, ⟨cs, fr, h3⟩, h4⟩ := h.pars j x hx
      have k := hoth b h2 (h.ne_of_obj h3 ht (by simp))
      exact ⟨b, o, h1, h2, ⟨cs, fr, k.trans h3⟩, (World.cell?_of_block (a := ⟨b, o + j, none⟩) k).trans h4⟩
    cut := h.cut.of_block (hoth cg h.own.2.1 (h.ne_of_obj hc ht (by simp)))
    mad := h.mad.of_block (hoth mg h.own.2.2.1 (h.ne_of_obj hm ht (by simp)))
    things := by
      have := WM.del_len h.ok hu
      rw [show (M.del r).things.length = M.things.length - 1 by omega]
      exact htb
    facets := (h.facets.of_block (hoth fb h.own.2.2.2.2 (Ne.symm h.tf))).congr (fun key _ _ => faf_del h.ok hu hk key)
    fnle := h.fnle
    blk := fun q v hv => by
      obtain ⟨h1, h2, h3⟩ := h.blk q v (WM.del_at_some hv).2
      exact ⟨(hoth _ h2 (h.ne_of_obj h1 ht (by simp))).trans h1, h2, h3.of_blocks (fun b cs e fr hFb hb he => hoth b hFb (h.ne_of_obj hb ht (by simp))) fun _ h => h⟩
    inj := fun q q' v v' hv hv' e => h.inj q q' v v' (WM.del_at_some hv).2 (WM.del_at_some hv').2 e
    own := h.own
    tf := h.tf
    lt := fun b hb => Nat.lt_of_lt_of_le (h.lt b hb) hsz
    ok := WM.del_ok h.ok hl }
end Go.Proofs.YtcoiccbmcjdheaaGreat
/- Lay of a light thing over a light thing: what it has is turned. -/
namespace Go.Proofs.YtcoiccbmcjdheaaGreat
open Go.RowKit Go.ChangeMaps Go.MapKept
variable {w : World} {p : Nat} {M : WM} {F : Nat → Prop}

set_option maxHeartbeats 2000000 in
set_option maxRecDepth 20000 in
theorem Lay_lt (hW : IsW w p M F) {r k h vk vn n l tg bi s vk' vn' n' l' : Int} {fu' : Bool} (hr : (Lit.int .i64 r).wf = true) (ht : M.at r = some (lt k h vk vn n l tg bi s false)) (hp : Plain vk' vn')
    (hform : ∀ w, IsW w p M F → Calls Tryz.prog 71 #[.pointer (some ⟨p, 0, none⟩), .agg #[.int .u8 k, .int .i64 h, .int .u8 vk', .int .i64 vn', .string ⟨#[]⟩, .slice none 0 0, .int .i64 0, .slice none 0 0, .int .i64 n', .int .i64 l', .int .i64 tg, .int .i64 bi, .int .u8 s, .bool fu', .slice none 0 0, .slice none 0 0]] w fun e w' => e = .returned (.bool true) ∧ Below w.heap.size w w') :
    Calls Tryz.prog 137 #[.pointer (some ⟨p, 0, none⟩), .int .i64 r, .agg #[.int .u8 k, .int .i64 h, .int .u8 vk', .int .i64 vn', .string ⟨#[]⟩, .slice none 0 0, .int .i64 0, .slice none 0 0, .int .i64 n', .int .i64 l', .int .i64 tg, .int .i64 bi, .int .u8 s, .bool fu', .slice none 0 0, .slice none 0 0]] w fun e w' => e = .returned (.int .i64 0) ∧ IsW w' p (M.set r (lt k h vk' vn' n' l' tg bi s fu')) F ∧ Keeps F w w' := by
  have hB0 : Below w.heap.size w (w.alloc (.cells #[.int .u8 k, .int .i64 h, .int .u8 vk', .int .i64 vn', .string ⟨#[]⟩, .slice none 0 0, .int .i64 0, .slice none 0 0, .int .i64 n', .int .i64 l', .int .i64 tg, .int .i64 bi, .int .u8 s, .bool fu', .slice none 0 0, .slice none 0 0] 42)) := (Below.refl _ _).alloc (Nat.le_refl _) _
  have b0 := blk_new w (.cells #[.int .u8 k, .int .i64 h, .int .u8 vk', .int .i64 vn', .string ⟨#[]⟩, .slice none 0 0, .int .i64 0, .slice none 0 0, .int .i64 n', .int .i64 l', .int .i64 tg, .int .i64 bi, .int .u8 s, .bool fu', .slice none 0 0, .slice none 0 0] 42)
  obtain ⟨wa, hwa⟩ : ∃ wa, wa = w.alloc (.cells #[.int .u8 k, .int .i64 h, .int .u8 vk', .int .i64 vn', .string ⟨#[]⟩, .slice none 0 0, .int .i64 0, .slice none 0 0, .int .i64 n', .int .i64 l', .int .i64 tg, .int .i64 bi, .int .u8 s, .bool fu', .slice none 0 0, .slice none 0 0] 42) := ⟨_, rfl⟩
  have HB0 : Hid (Below w.heap.size w wa) := by rw [hwa]; exact hB0
  have Hb0 : Hid (wa.heap[w.heap.size]? = some (.cells #[.int .u8 k, .int .i64 h, .int .u8 vk', .int .i64 vn', .string ⟨#[]⟩, .slice none 0 0, .int .i64 0, .slice none 0 0, .int .i64 n', .int .i64 l', .int .i64 tg, .int .i64 bi, .int .u8 s, .bool fu', .slice none 0 0, .slice none 0 0] 42 (0, 0))) := by rw [hwa]; exact b0
  have Hwa := (show Hid _ from hwa)
  have HW : Hid (IsW w p M F) := hW
  have Hf := (show Hid _ from hform)
  have Ht : Hid (M.at r = some (lt k h vk vn n l tg bi s false)) := ht
  obtain ⟨pa, pc, cg, cc, mg, mc, tb, fb, fn, bl, hV⟩ := hW
  have HV := (show Hid _ from hV)
  have ds : Hid (∀ w', Below wa.heap.size wa w' → w'.cell? ⟨w.heap.size, 0, none⟩ = some (.int .u8 k) ∧ w'.cell? ⟨w.heap.size, 1, none⟩ = some (.int .i64 h) ∧ w'.cell? ⟨w.heap.size, 10, none⟩ = some (.int .i64 tg) ∧ w'.cell? ⟨w.heap.size, 11, none⟩ = some (.int .i64 bi) ∧ w'.cell? ⟨w.heap.size, 12, none⟩ = some (.int .u8 s) ∧
      w'.cell? ⟨bl r, 0, none⟩ = some (.int .u8 k) ∧ w'.cell? ⟨bl r, 1, none⟩ = some (.int .i64 h) ∧ w'.cell? ⟨bl r, 10, none⟩ = some (.int .i64 tg) ∧ w'.cell? ⟨bl r, 11, none⟩ = some (.int .i64 bi) ∧ w'.cell? ⟨bl r, 12, none⟩ = some (.int .u8 s) ∧ w'.cell? ⟨bl r, 13, none⟩ = some (.bool false) ∧
      (ldW (.pointer (some ⟨w.heap.size, 0, none⟩))).run Tryz.prog w' = .ok (.value (.agg #[.int .u8 k, .int .i64 h, .int .u8 vk', .int .i64 vn', .string ⟨#[]⟩, .slice none 0 0, .int .i64 0, .slice none 0 0, .int .i64 n', .int .i64 l', .int .i64 tg, .int .i64 bi, .int .u8 s, .bool fu', .slice none 0 0, .slice none 0 0])) w' ∧ IsW w' p M F) := fun w' hb => by
    have hbl := (HV.out.below (HB0.out.trans (hb.mono HB0.out.size))).blk r _ Ht.out
    obtain ⟨q0, q1, -, -, q10, q11, q12, q13⟩ := thc_cell hbl.1
    have hg := below_blk hb Hb0.out
    exact ⟨by rw [cell_blk hg]; rfl, by rw [cell_blk hg]; rfl, by rw [cell_blk hg]; rfl, by rw [cell_blk hg]; rfl, by rw [cell_blk hg]; rfl, q0, q1, q10, q11, q12, q13, loadWhat_blk hg rfl, HW.out.below (HB0.out.trans (hb.mono HB0.out.size))⟩
  clear hV hB0 b0 hform ht hwa
  go_enter Tryz.func137, Tryz.ntmps137
  go_wp2_with fail
  rw [← Hwa.out]
  have hWa := HW.out.below HB0.out
  refine (none_W hWa).mono ?_
  rintro e _ ⟨rfl, rfl⟩
  go_wp2_with fail
  refine (Is_W hWa hr).mono ?_
  rw [Ht.out]
  rintro e _ ⟨rfl, rfl⟩
  have c2 := (HV.out.below HB0.out).c2
  have hlk := (HV.out.below HB0.out).look hr
  rw [Ht.out] at hlk
  simp only [Option.map_some] at hlk
  clear hWa
  go_wp2_with fail
  refine region_class (C := fun w' => Below wa.heap.size wa w') (by kernel_rfl) (by kernel_rfl) below_drew ?_
  repeat (first
    | go_big_quiet_step (fail)
    | quiet_step (fail)
    | (refine wpQuiet_step (fun K hK => ?_); go_simp; first
        | (refine hK _ ?_; clear hK K)
        | (apply Exists.intro
           refine ⟨fun w' hC => ?_, hK _ ?_⟩
           · obtain ⟨q1, q2, q3, q4, q5, q6, q7, q8, q9, q10, q11, q12, q13⟩ := ds.out w' hC
             first
               | exact rfl
               | (go_simp; exact rfl)
               | (go_simp; exact ⟨rfl, rfl⟩)
               | exact (Hf.out w' q13).mono fun e w'' ⟨he, hb⟩ => ⟨he, hC.trans (hb.mono hC.size)⟩
           clear hK K)))
  refine wpQuiet_nil ?_
  intro w5 hC5
  have HB5 := (show Hid (Below wa.heap.size wa w5) from hC5)
  have l5 := (ds.out w5 hC5).2.2.2.2.2.2.2.2.2.2.2.1
  clear hC5 c2 hlk
  go_wp2_with fail
  refine (names_W _ _ k h vk' vn' n' l' tg bi s fu' hp).mono ?_
  rintro e w6 ⟨rfl, hb6⟩
  have HB6 : Hid (Below wa.heap.size wa w6) := HB5.out.trans (hb6.mono HB5.out.size)
  have l6 := (ds.out w6 HB6.out).2.2.2.2.2.2.2.2.2.2.2.1
  clear hb6 l5 HB5
  go_wp2_with fail
  refine (ownWhat_W _ k h vk' vn' n' l' tg bi s fu' hp).mono ?_
  rintro e w7 ⟨rfl, hb7⟩
  have HB7 : Hid (Below wa.heap.size wa w7) := HB6.out.trans (hb7.mono HB6.out.size)
  have B7 := ((HV.out.below (HB0.out.trans (HB7.out.mono HB0.out.size))).blk r _ Ht.out).1
  rw [thc_lt] at B7
  have hst := storeWhat_blk (c' := #[.int .u8 k, .int .i64 h, .int .u8 vk', .int .i64 vn', .string ⟨#[]⟩, .slice none 0 0, .int .i64 0, .slice none 0 0, .int .i64 n', .int .i64 l', .int .i64 tg, .int .i64 bi, .int .u8 s, .bool fu', .slice none 0 0, .slice none 0 0]) B7 rfl rfl (by simp [go_sem])
  have G7 := (show Hid _ from heap_setRow_at (c' := #[.int .u8 k, .int .i64 h, .int .u8 vk', .int .i64 vn', .string ⟨#[]⟩, .slice none 0 0, .int .i64 0, .slice none 0 0, .int .i64 n', .int .i64 l', .int .i64 tg, .int .i64 bi, .int .u8 s, .bool fu', .slice none 0 0, .slice none 0 0]) B7)
  have HB8 := (show Hid (Below w.heap.size w w7) from HB0.out.trans (HB7.out.mono HB0.out.size))
  clear hb7 B7 l6
  go_wp2_with fail
  go_ret
  refine ⟨rfl, ?_, ?_⟩
  · have hV7 := HV.out.below HB8.out
    refine ⟨pa, pc, cg, cc, mg, mc, tb, fb, fn, bl, hV7.turn (u := lt k h vk vn n l tg bi s false) (t := lt k h vk' vn' n' l' tg bi s fu') ⟨Ht.out, rfl, rfl, fun _ => rfl, (hV7.ok.wf _ _ Ht.out).tgt, rfl, rfl⟩ (by simp [World.setRow]) G7.out (fun b _ hb => heap_setRow_other _ _ _ _ hb) (fun _ h => h) (fun b hb => by have := hV7.lt b hb; simpa [World.setRow] using this) (deep_lt _ _ _ _ _ _ _ _ _ _ _ _)⟩
  · have hF := (HV.out.blk r _ Ht.out).2.1
    exact Below.keeps HB8.out ⟨rfl, rfl, rfl, by simp [World.setRow], fun b _ hb => heap_setRow_other _ _ _ _ (fun e => hb (e ▸ hF))⟩
end Go.Proofs.YtcoiccbmcjdheaaGreat
