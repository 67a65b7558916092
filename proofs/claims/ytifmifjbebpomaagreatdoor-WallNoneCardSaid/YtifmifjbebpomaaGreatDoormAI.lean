/- A part of the proof, several texts in one: WalkE, Lay, Make, What. -/
import Derived.Test.YtifmifjbebpomaaGreatDoormAB
import Derived.Test.YtifmifjbebpomaaGreatDoormAD
import Derived.StillTailTactics
import Derived.Deep.QuietTactic
import Derived.BigQuiet
import Derived.Test.YtifmifjbebpomaaGreatDoormAG
/- A thing more: index, lay. An edge that is cut. -/
namespace Go.Proofs.YtifmifjbebpomaaGreatDoor
open Go.RowKit Go.ChangeMaps Go.MapKept

theorem drew_map {P : Program} {k : TypeId} {w : World} {b n : Nat} {f : Value → Option Value} (h : HasMap P k w b f n) : HasMap P k w.drew b f n := h

/-- A map of at most n entries. -/
def MapLe (P : Program) (k : TypeId) (w : World) (b : Nat) (f : Value → Option Value) (n : Nat) : Prop := ∃ m, m ≤ n ∧ HasMap P k w b f m

theorem index_plain {w : World} {p tb b : Nat} {r k : Int} (c2 : w.cell? ⟨p, 2, none⟩ = some (.map (some tb)))
    (hl : (Instr.lookup 34 (.map (some tb)) (.int .i64 r) false).run Tryz.prog w = .ok (.pointer (some ⟨b, 0, none⟩)) w) (k0 : w.cell? ⟨b, 0, none⟩ = some (.int .u8 k)) (hk : (k == 14) = false) :
    Calls Tryz.prog 68 #[.pointer (some ⟨p, 0, none⟩), .int .i64 r] w fun e w' => e = .returned (.tuple #[]) ∧ w = w' := by
  go_enter Tryz.func68, Tryz.ntmps68
  go_wp2
  go_end0
  exact ⟨rfl, rfl⟩

set_option maxRecDepth 8000 in
theorem index_facet {w : World} {p tb fb b fn : Nat} {r t s : Int} {f g : Value → Option Value} (c2 : w.cell? ⟨p, 2, none⟩ = some (.map (some tb))) (c3 : w.cell? ⟨p, 3, none⟩ = some (.map (some fb)))
    (hl : (Instr.lookup 34 (.map (some tb)) (.int .i64 r) false).run Tryz.prog w = .ok (.pointer (some ⟨b, 0, none⟩)) w) (k0 : w.cell? ⟨b, 0, none⟩ = some (.int .u8 14))
    (k6 : w.cell? ⟨b, 10, none⟩ = some (.int .i64 t)) (k8 : w.cell? ⟨b, 12, none⟩ = some (.int .u8 s)) (ht : (Lit.int .i64 t).wf = true) (hs : (Lit.int .u8 s).wf = true)
    (hm : HasMap Tryz.prog 190 w fb f fn) (hn : fn < maxLen) (hg : g (fkey t s) = some (.int .i64 r)) (hg' : ∀ x, x ≠ fkey t s → g x = f x) :
    Calls Tryz.prog 68 #[.pointer (some ⟨p, 0, none⟩), .int .i64 r] w fun e w' => e = .returned (.tuple #[]) ∧ Turned w w' fb ∧ MapLe Tryz.prog 190 w' fb g (fn + 1) := by
  obtain ⟨kl, hkl⟩ := key_f ht hs
  obtain ⟨w2, hrun, r1, r2⟩ := (drew_map hm).store keyedFKey Tryz.underlying35 hn hkl (.int .i64 r) hg hg'
  simp only [fkey] at hrun
  have Hr1 : Hid (MapLe Tryz.prog 190 w2 fb g (fn + 1)) := ⟨_, by split <;> omega, r1⟩
  have Hr2 : Hid (Turned w w2 fb) := Turned.of_drew r2
  clear r1 r2 hm hg hg' hkl hn
  go_enter Tryz.func68, Tryz.ntmps68
  go_wp2
  go_still_tail 14, (by kernel_rfl)
  change wpList _ _ _ _ _ w.drew
  go_wp2
  go_end0
  exact ⟨rfl, Hr2.out, Hr1.out⟩

/-- The world's own calls change last, one thing, and what is made at home: an edge that is cut. -/
def WM.cutE (M : WM) (n : Nat) : WM := { M with cuts := M.cuts.set n true }
theorem WM.cutE_ok {M : WM} (h : M.ok) (n : Nat) : (M.cutE n).ok := { h with cuts := by show (M.cuts.set n true).length = _; rw [List.length_set]; exact h.cuts }

set_option maxRecDepth 8000 in
theorem CutEdge_W {w : World} {p : Nat} {M : WM} {F : Nat → Prop} (hW : IsW w p M F) (n : Nat) (h0 : 0 < n) (hn : n < M.made.length) :
    Calls Tryz.prog 42 #[.pointer (some ⟨p, 0, none⟩), .int .i64 n] w fun e w' => e = .returned (.int .i64 0) ∧ IsW w' p (M.cutE n) F ∧ Keeps F w w' ∧ w'.heap.size = w.heap.size := by
  have hno := none_W hW
  have hed := edge_W hW n
  rw [show edgeB M n = true by simp [edgeB]; omega] at hed
  obtain ⟨pa, pc, cg, cc, mg, mc, tb, fb, fn, bl, h⟩ := hW
  have c1 := h.c1
  have hc := h.cutCell hn
  have hf := h.cut.free n
  have hcl : (n : Int) < M.cuts.length := by have := h.ok.cuts; have := h.ok.made; omega
  have Hfin : Hid (IsW (w.setCell ⟨cg, n, none⟩ (.bool true)) p (M.cutE n) F) := by
    have hne : ∀ b o, w.heap[b]? = some o → (∀ (cs : Array Value) (fr : Nat × Nat), o ≠ Obj.cells cs 4 fr) → b ≠ cg := by
      intro b o hb ho e
      subst e
      obtain ⟨cur, hcur, _⟩ := h.cut
      rw [hcur] at hb
      cases hb
      exact ho _ _ rfl
    refine ⟨pa, pc, cg, cc, mg, mc, tb, fb, fn, bl, ?_⟩
    have hcut := h.cut.set n (.bool true)
    have e1 : (M.cuts.map Value.bool).set n (.bool true) = (M.cutE n).cuts.map Value.bool := by simp [WM.cutE]
    have e2 : (M.cutE n).cuts.length = M.cuts.length := by simp [WM.cutE]
    obtain ⟨mcur, hm1, hm2⟩ := h.mad
    obtain ⟨tes, tcl, htb⟩ := h.things.is
    obtain ⟨fes, fcl, hfb⟩ := h.facets.is
    have keep : ∀ b o, w.heap[b]? = some o → (∀ (cs : Array Value) (fr : Nat × Nat), o ≠ Obj.cells cs 4 fr) → (w.setCell ⟨cg, n, none⟩ (.bool true)).heap[b]? = w.heap[b]? := fun b o hb ho => by
      rw [hb]
      exact blk_other hb _ _ (hne b o hb ho)
    exact {
      hp := by rw [keep p _ h.hp (by simp), e2]; exact h.hp
      pars := fun j x hx => by
        obtain ⟨b, o, h1, h2, ⟨cs, fr, h3⟩, h4⟩ := h.pars j x hx
        have k := keep b _ h3 (by simp)
        exact ⟨b, o, h1, h2, ⟨cs, fr, k.trans h3⟩, (World.cell?_of_block (a := ⟨b, o + j, none⟩) k).trans h4⟩
      cut := by rw [e1] at hcut; exact hcut
      mad := Row.of_block ⟨mcur, hm1, hm2⟩ (keep mg _ hm1 (by simp))
      things := h.things.of_block (keep tb _ htb (by simp))
      facets := h.facets.of_block (keep fb _ hfb (by simp))
      fnle := h.fnle
      blk := fun r t ht => by
        obtain ⟨h1, h2, h3⟩ := h.blk r t ht
        refine ⟨(keep _ _ h1 (by simp)).trans h1, h2, h3.of_blocks (fun b cs e fr hF hb he => keep b _ hb (fun cs' fr' x => ?_)) fun _ h => h⟩
        cases x
        simp [deepTy] at he
      inj := h.inj
      own := h.own
      tf := h.tf
      lt := fun b hb => by have := h.lt b hb; simpa [World.setCell] using this
      ok := WM.cutE_ok h.ok n }
  have Hk : Hid (Keeps F w (w.setCell ⟨cg, n, none⟩ (.bool true))) := Keeps.setCell _ _ _ h.own.2.1
  clear h
  go_enter Tryz.func42, Tryz.ntmps42
  go_wp2_with (first | (go_at_call 46; refine hno.mono ?_; rintro e w' ⟨rfl, rfl⟩) | (go_at_call 74; refine hed.mono ?_; rintro e w' ⟨rfl, rfl⟩))
  go_ret
  exact ⟨rfl, Hfin.out, Hk.out, by simp [World.setCell]⟩
end Go.Proofs.YtifmifjbebpomaaGreatDoor
/- lay: a new thing is put down. -/
namespace Go.Proofs.YtifmifjbebpomaaGreatDoor
open Go.RowKit Go.ChangeMaps Go.MapKept

section
variable {w : World} {p : Nat} {M : WM} {F : Nat → Prop} {pa : Option Addr} {pc cg cc mg mc tb fb fn : Nat} {bl : Int → Nat}

def blAdd (M : WM) (bl : Int → Nat) (B : Nat) (r : Int) : Nat := if r = M.last + 1 then B else bl r
def plusB (F : Nat → Prop) (B b : Nat) : Prop := F b ∨ b = B

theorem WV.ne_of_obj (_h : WV w p M F pa pc cg cc mg mc tb fb fn bl) {a b : Nat} {x y : Obj} (ha : w.heap[a]? = some x) (hb : w.heap[b]? = some y) (hne : x ≠ y) : a ≠ b := by
  intro e
  subst e
  rw [ha] at hb
  cases hb
  exact hne rfl

theorem Row.is {g : Nat} {e : TypeId} {cap : Nat} {xs : List Value} (h : Row w g e cap xs) : ∃ cur, w.heap[g]? = some (.cells cur e (0, 0)) := by
  obtain ⟨cur, h1, _⟩ := h
  exact ⟨cur, h1⟩

theorem made_len (M : WM) (t : Th) : (M.add t).made.length = M.made.length := by
  show (if t.kind = 14 then M.made else _).length = _
  split
  · rfl
  · rw [List.length_set]

theorem thf_add (hok : M.ok) (t : Th) (B : Nat) : thf (M.add t) (blAdd M bl B) (.int .i64 (M.last + 1)) = some (.pointer (some ⟨B, 0, none⟩)) ∧
    ∀ x, x ≠ .int .i64 (M.last + 1) → thf (M.add t) (blAdd M bl B) x = thf M bl x := by
  refine ⟨by simp [thf, WM.add_at_new hok, blAdd], fun x hx => ?_⟩
  unfold thf
  split
  · rename_i r
    have hne : r ≠ M.last + 1 := fun e => hx (by rw [e])
    rw [WM.add_at hok, if_neg hne, blAdd, if_neg hne]
  · rfl

theorem faf_add_not {t : Th} (hk : t.kind ≠ 14) (x : Value) : faf (M.add t) x = faf M x := by
  unfold faf
  split
  · split
    · rw [WM.add_find_not hk]
    · rfl
  · rfl
theorem faf_add {t : Th} (hk : t.kind = 14) (hn : M.find t.tgt t.set = none) : faf (M.add t) (fkey t.tgt t.set) = some (.int .i64 (M.last + 1)) ∧ ∀ x, x ≠ fkey t.tgt t.set → faf (M.add t) x = faf M x := by
  refine ⟨by simp [faf, fkey, WM.add_find_facet hk hn], fun x hx => ?_⟩
  unfold faf
  split
  · rename_i cs
    split
    · rename_i a b he
      rw [WM.add_find_facet hk hn, if_neg]
      rintro ⟨rfl, rfl⟩
      apply hx
      rw [fkey]
      congr 1
      rw [← Array.toArray_toList (xs := cs), he]
    · rfl
  · rfl

theorem lay_fin (h : WV w p M F pa pc cg cc mg mc tb fb fn bl) {t : Th} (a : AddOk M t) {F1 : Nat → Prop} (hd : Deep w F1 t) (hF1 : ∀ b, F1 b → b < w.heap.size ∧ ¬ F b) {w' : World} (hsz : w.heap.size + 1 ≤ w'.heap.size)
    (hp : w'.heap[p]? = some (.cells #[.slice pa M.parents.length pc, .slice (some ⟨cg, 0, none⟩) M.cuts.length cc, .map (some tb), .map (some fb), .int .i64 (M.last + 1), .slice (some ⟨mg, 0, none⟩) M.made.length mc] 38 (0, 0)))
    (hB : w'.heap[w.heap.size]? = some (.cells (thc t) 73 (0, 0))) (hmg : Row w' mg 3 mc ((M.add t).made.map (Value.int .i64)))
    (htb : HasMap Tryz.prog 24 w' tb (thf (M.add t) (blAdd M bl w.heap.size)) (M.things.length + 1)) (hfb : MapLe Tryz.prog 190 w' fb (faf (M.add t)) (fn + 1))
    (hoth : ∀ b, b < w.heap.size → b ≠ p → b ≠ mg → b ≠ tb → b ≠ fb → w'.heap[b]? = w.heap[b]?) : IsW w' p (M.add t) (plusB (fun b => F b ∨ F1 b) w.heap.size) := by
  obtain ⟨fn', hfn, hfb⟩ := hfb
  obtain ⟨mcur, hm⟩ := h.mad.is
  obtain ⟨ccur, hc⟩ := h.cut.is
  obtain ⟨tes, tcl, ht⟩ := h.things.is
  obtain ⟨fes, fcl, hf⟩ := h.facets.is
  have hlen : (M.add t).things.length = M.things.length + 1 := by simp [WM.add]
  have hdeep : ∀ r u, M.at r = some u → Deep w' (plusB (fun b => F b ∨ F1 b) w.heap.size) u := fun r u hu => (h.blk r u hu).2.2.of_blocks (fun b cs e fr hF hb he => hoth b (h.lt b hF) (h.ne_of_obj hb h.hp (by intro x; cases x; simp [deepTy] at he))
    (h.ne_of_obj hb hm (by intro x; cases x; simp [deepTy] at he)) (h.ne_of_obj hb ht (by intro x; cases x)) (h.ne_of_obj hb hf (by intro x; cases x))) (fun b hb => .inl (.inl hb))
  refine ⟨pa, pc, cg, cc, mg, mc, tb, fb, fn', blAdd M bl w.heap.size, ?_⟩
  exact {
    hp := by rw [made_len]; exact hp
    pars := fun j x hx => by
      obtain ⟨b, o, h1, h2, ⟨cs, fr, h3⟩, h4⟩ := h.pars j x hx
      have k := hoth b (h.lt b h2) (h.ne_of_obj h3 h.hp (by simp)) (h.ne_of_obj h3 hm (by simp)) (h.ne_of_obj h3 ht (by simp)) (h.ne_of_obj h3 hf (by simp))
      exact ⟨b, o, h1, .inl (.inl h2), ⟨cs, fr, k.trans h3⟩, (World.cell?_of_block (a := ⟨b, o + j, none⟩) k).trans h4⟩
    cut := h.cut.of_block (hoth cg (h.lt _ h.own.2.1) (h.ne_of_obj hc h.hp (by simp)) (h.ne_of_obj hc hm (by simp)) (h.ne_of_obj hc ht (by simp)) (h.ne_of_obj hc hf (by simp)))
    mad := hmg
    things := by rw [hlen]; exact htb
    facets := hfb
    fnle := by have := h.fnle; show (fn' : Int) ≤ M.last + 1; omega
    blk := fun r u hu => by
      rw [WM.add_at h.ok] at hu
      split at hu
      · rename_i e
        cases hu
        simp only [blAdd, if_pos e]
        exact ⟨hB, .inr rfl, hd.of_blocks (Lists.of fun b hb => hoth b (hF1 b hb).1 (fun e => (hF1 b hb).2 (e ▸ h.own.1)) (fun e => (hF1 b hb).2 (e ▸ h.own.2.2.1)) (fun e => (hF1 b hb).2 (e ▸ h.own.2.2.2.1)) (fun e => (hF1 b hb).2 (e ▸ h.own.2.2.2.2))) (fun b hb => .inl (.inr hb))⟩
      · rename_i e
        obtain ⟨h1, h2, h3⟩ := h.blk r u hu
        simp only [blAdd, if_neg e]
        exact ⟨(hoth _ (h.lt _ h2) (h.ne_of_obj h1 h.hp (by simp)) (h.ne_of_obj h1 hm (by simp)) (h.ne_of_obj h1 ht (by simp)) (h.ne_of_obj h1 hf (by simp))).trans h1, .inl (.inl h2), hdeep r u hu⟩
    inj := fun r r' u u' hu hu' e => by
      rw [WM.add_at h.ok] at hu hu'
      split at hu <;> split at hu'
      · omega
      · rename_i e1 e2
        have := blk_lt (h.blk _ _ hu').1
        simp only [blAdd, if_pos e1, if_neg e2] at e
        omega
      · rename_i e1 e2
        have := blk_lt (h.blk _ _ hu).1
        simp only [blAdd, if_pos e2, if_neg e1] at e
        omega
      · rename_i e1 e2
        simp only [blAdd, if_neg e1, if_neg e2] at e
        exact h.inj r r' u u' hu hu' e
    own := ⟨.inl (.inl h.own.1), .inl (.inl h.own.2.1), .inl (.inl h.own.2.2.1), .inl (.inl h.own.2.2.2.1), .inl (.inl h.own.2.2.2.2)⟩
    tf := h.tf
    lt := fun b hb => by
      rcases hb with (hb | hb) | hb
      · have := h.lt b hb
        omega
      · have := (hF1 b hb).1
        omega
      · omega
    ok := WM.add_ok h.ok a }

end

set_option maxRecDepth 8000 in
theorem lay_W {w : World} {p : Nat} {M : WM} {F : Nat → Prop} (hW : IsW w p M F) {t : Th} (a : AddOk M t) {F1 : Nat → Prop} (hd : Deep w F1 t) (hF1 : ∀ b, F1 b → b < w.heap.size ∧ ¬ F b) :
    Calls Tryz.prog 52 #[.pointer (some ⟨p, 0, none⟩), .agg (thc t)] w fun e w' => e = .returned (.int .i64 (M.last + 1)) ∧ IsW w' p (M.add t) (plusB (fun b => F b ∨ F1 b) w.heap.size) ∧ Keeps F w w' := by
  obtain ⟨pa, pc, cg, cc, mg, mc, tb, fb, fn, bl, h⟩ := hW
  have c4 := cell_al h.c4 (.cells (thc t) 73)
  have f4 : (w.alloc (.cells (thc t) 73)).frozen? ⟨p, 4, none⟩ = false := frozen_blk (blk_old w _ h.hp) 4
  have hl0 := h.ok.last
  have hl1 := a.last
  have hpl : p < w.heap.size := h.lt p h.own.1
  obtain ⟨mcur, hm⟩ := h.mad.is
  obtain ⟨tes, tcl, ht⟩ := h.things.is
  obtain ⟨fes, fcl, hf⟩ := h.facets.is
  have pm := h.ne_of_obj h.hp hm (by simp)
  have pt := h.ne_of_obj h.hp ht (by simp)
  have pf := h.ne_of_obj h.hp hf (by simp)
  have mt := h.ne_of_obj hm ht (by simp)
  have mf := h.ne_of_obj hm hf (by simp)
  have Bm := blk_lt hm
  have Bt := blk_lt ht
  have Bf := blk_lt hf
  have hnt : M.things.length < maxLen := by
    have h1 : ∀ (l : List (Int × Th)) (b : Int), l.Pairwise (fun x y => x.1 < y.1) → (∀ x ∈ l, b < x.1 ∧ x.1 ≤ M.last) → (l.length : Int) + b ≤ M.last ∨ l = [] := by
      intro l
      induction l with
      | nil => intro b _ _; exact .inr rfl
      | cons x l ih =>
        intro b hp hr
        obtain ⟨q1, q2⟩ := List.pairwise_cons.1 hp
        have hx := hr x (by simp)
        rcases ih x.1 q2 (fun y hy => ⟨q1 y hy, (hr y (by simp [hy])).2⟩) with h | rfl
        · exact .inl (by simp; omega)
        · exact .inl (by simp; omega)
    have := h1 M.things 0 h.ok.keys (fun x hx => h.ok.range x hx)
    rcases this with h2 | h2
    · unfold maxLen; omega
    · rw [h2]; decide
  have hwl : (Lit.int .i64 (M.last + 1)).wf = true := WalkArith.wf_i64 (by omega)
  obtain ⟨w2, hw2⟩ : ∃ w2, w2 = (w.setCell ⟨p, 4, none⟩ (.int .i64 (M.last + 1))).alloc (.cells (thc t) 73) := ⟨_, rfl⟩
  have s1 : (w.setCell ⟨p, 4, none⟩ (.int .i64 (M.last + 1))).heap.size = w.heap.size := by simp [World.setCell]
  have b2 : ∀ b, b < w.heap.size → b ≠ p → w2.heap[b]? = w.heap[b]? := fun b hb hne => by
    rw [hw2, Below.heap_alloc _ _ _ (by rw [s1]; exact hb), Below.heap_setCell _ _ _ _ hne]
  have s2 : w2.heap.size = w.heap.size + 1 := by rw [hw2]; simp [World.setCell]
  have K2 : Keeps F w w2 := (Keeps.setCell w ⟨p, 4, none⟩ (.int .i64 (M.last + 1)) h.own.1).then_below (by rw [hw2]; exact (Below.refl _ _).alloc (Nat.le_refl _) _)
  have p2 : w2.heap[p]? = some (.cells #[.slice pa M.parents.length pc, .slice (some ⟨cg, 0, none⟩) M.cuts.length cc, .map (some tb), .map (some fb), .int .i64 (M.last + 1), .slice (some ⟨mg, 0, none⟩) M.made.length mc] 38 (0, 0)) := by
    rw [hw2]; exact blk_old _ _ (blk_setCell h.hp 4 _)
  have B2 : w2.heap[w.heap.size]? = some (.cells (thc t) 73 (0, 0)) := by
    rw [hw2, ← s1]; exact blk_new _ _
  obtain ⟨w3, hrun, th3, tu3⟩ := (drew_map (h.things.of_block (b2 tb Bt (Ne.symm pt)))).store keyedRef Tryz.underlying34 hnt (key_ref hwl) (.pointer (some ⟨w.heap.size, 0, none⟩)) (thf_add h.ok t w.heap.size).1 (thf_add h.ok t w.heap.size).2
  have T3 : Turned w2 w3 tb := Turned.of_drew tu3
  have e0 : (thf M bl (.int .i64 (M.last + 1))).isSome = false := by simp [thf, h.ok.none_above (r := M.last + 1) (by omega)]
  rw [e0] at th3
  simp only [Bool.false_eq_true, if_false] at th3
  have s3 := T3.1
  have p3 := (T3.block pt).trans p2
  have B3 : w3.heap[w.heap.size]? = some (.cells (thc t) 73 (0, 0)) := (T3.block (by omega)).trans B2
  have m3 := h.mad.of_block ((T3.block mt).trans (b2 mg Bm (Ne.symm pm)))
  have f3 := h.facets.of_block ((T3.block (Ne.symm h.tf)).trans (b2 fb Bf (Ne.symm pf)))
  have K3 : Keeps F w w3 := K2.trans (T3.2.mono (T := F) (fun x _ e => e ▸ h.own.2.2.2.1)) (fun _ _ h => h) (fun _ _ h => h)
  obtain ⟨k0, k1, -, -, k6, -, k8, -⟩ := thc_cell B3
  have d2 : w3.cell? ⟨p, 2, none⟩ = some (.map (some tb)) := by rw [cell_blk p3]; rfl
  have d3 : w3.cell? ⟨p, 3, none⟩ = some (.map (some fb)) := by rw [cell_blk p3]; rfl
  have d4 : w3.cell? ⟨p, 4, none⟩ = some (.int .i64 (M.last + 1)) := by rw [cell_blk p3]; rfl
  have d5 : w3.cell? ⟨p, 5, none⟩ = some (.slice (some ⟨mg, 0, none⟩) M.made.length mc) := by rw [cell_blk p3]; rfl
  have lk3 : (Instr.lookup 34 (.map (some tb)) (.int .i64 (M.last + 1)) false).run Tryz.prog w3 = .ok (.pointer (some ⟨w.heap.size, 0, none⟩)) w3 := by
    rw [th3.look keyedRef Tryz.underlying34 (zeroPWhat w3) (key_ref hwl), (thf_add h.ok t w.heap.size).1]
    rfl
  have g2 : w2.cell? ⟨p, 2, none⟩ = some (.map (some tb)) := by rw [cell_blk p2]; rfl
  have g4 : w2.cell? ⟨p, 4, none⟩ = some (.int .i64 (M.last + 1)) := by rw [cell_blk p2]; rfl
  have HV : Hid (WV w p M F pa pc cg cc mg mc tb fb fn bl) := h
  have fin : ∀ w', Hid (w.heap.size + 1 ≤ w'.heap.size → w'.heap[p]? = w3.heap[p]? → w'.heap[w.heap.size]? = w3.heap[w.heap.size]? → Row w' mg 3 mc ((M.add t).made.map (Value.int .i64)) → w'.heap[tb]? = w3.heap[tb]? →
      MapLe Tryz.prog 190 w' fb (faf (M.add t)) (fn + 1) → (∀ b, b < w.heap.size → b ≠ mg → b ≠ fb → w'.heap[b]? = w3.heap[b]?) → IsW w' p (M.add t) (plusB (fun b => F b ∨ F1 b) w.heap.size)) := fun w' h1 h2 h3 h4 h5 h6 h7 =>
    lay_fin h a hd hF1 h1 (h2.trans p3) (h3.trans B3) h4 (th3.of_block h5) h6 (fun b hb n1 n2 n3 n4 => (h7 b hb n2 n4).trans ((T3.block n3).trans (b2 b hb n1)))
  by_cases hk : t.kind = 14
  · have hfn : fn < maxLen := by have := h.fnle; unfold maxLen; omega
    have hix := index_facet d2 d3 lk3 (by rw [← hk]; exact k0) k6 k8 a.wf.tgt (WalkArith.wf_u8 (by have := a.wf.set; omega)) f3 hfn (faf_add hk (a.facet hk)).1 (faf_add hk (a.facet hk)).2
    have Hix := (show Hid (Calls Tryz.prog 68 #[.pointer (some ⟨p, 0, none⟩), .int .i64 (M.last + 1)] w3 fun e w' => e = .returned (.tuple #[]) ∧ Turned w3 w' fb ∧ MapLe Tryz.prog 190 w' fb (faf (M.add t)) (fn + 1)) from hix)
    have Hm : Hid (Row w3 mg 3 mc ((M.add t).made.map (Value.int .i64))) := by show Row _ _ _ _ _; simpa [WM.add, hk] using m3
    have Hk : Hid (Keeps F w w3) := K3
    have Hb3 : Hid (∀ b, b ≠ fb → True) := fun _ _ => trivial
    have k0' : w3.cell? ⟨w.heap.size, 0, none⟩ = some (.int .u8 14) := by rw [← hk]; exact k0
    have Hp : Hid (p ≠ fb ∧ w.heap.size ≠ fb ∧ mg ≠ fb ∧ tb ≠ fb ∧ F fb) := ⟨pf, by omega, mf, h.tf, h.own.2.2.2.2⟩
    have Hs : Hid (w3.heap.size = w.heap.size + 1) := s3.trans s2
    clear h a hd hF1 hm ht hf pm pt pf mt mf hnt hwl b2 s1 s2 K2 p2 B2 tu3 th3 T3 e0 s3 p3 B3 m3 f3 K3 k0 k1 k6 k8 hk hfn hix lk3 d2 d3 d5 Bm Bt Bf
    go_enter Tryz.func52, Tryz.ntmps52
    go_wp2
    rw [← hw2]
    clear c4 f4 hw2
    go_still_tail 8, (by kernel_rfl)
    change wpList _ _ _ _ _ w2.drew
    go_wp2_with fail
    refine Hix.out.mono ?_
    rintro e w4 ⟨rfl, hT, hM⟩
    obtain ⟨n1, n2, n3, n4, n5⟩ := Hp.out
    have q0 := (hT.cell (a := ⟨w.heap.size, 0, none⟩) n2).trans k0'
    have q4 := (hT.cell (a := ⟨p, 4, none⟩) n1).trans d4
    have HT : Hid (Turned w3 w4 fb) := hT
    have HM : Hid (MapLe Tryz.prog 190 w4 fb (faf (M.add t)) (fn + 1)) := hM
    clear hT hM n1 n2 n3 n4 n5 k0' d4 g2 g4 hrun
    go_wp2_with fail
    go_ret
    obtain ⟨n1, n2, n3, n4, n5⟩ := Hp.out
    refine ⟨rfl, (fin w4).out ?_ (HT.out.block n1) (HT.out.block n2) (Hm.out.of_block (HT.out.block n3)) (HT.out.block n4) HM.out (fun b _ _ hb => HT.out.block hb), Hk.out.trans (HT.out.2.mono (T := F) (fun x _ e => e ▸ n5)) (fun _ _ h => h) (fun _ _ h => h)⟩
    have := HT.out.1
    have := Hs.out
    omega
  · obtain ⟨h0, h1⟩ := a.home hk
    obtain ⟨n, hn⟩ := Int.eq_ofNat_of_zero_le h0
    have hnl : n < M.made.length := by omega
    have hix := index_plain d2 lk3 k0 (by simp [hk])
    have hmc : (M.made.map (Value.int .i64))[n]? = some (.int .i64 (M.made.getD n 0)) := by
      rw [List.getElem?_map, List.getElem?_eq_getElem hnl, List.getD_eq_getElem?_getD, List.getElem?_eq_getElem hnl]; rfl
    have m3c := m3.cell hmc
    have m3f := m3.free n
    have hmb := a.made hk
    rw [hn, Int.toNat_natCast] at hmb
    have hm0 : 0 ≤ M.made.getD n 0 := by
      have := h.ok.mades n (M.made.getD n 0) (by rw [List.getD_eq_getElem?_getD, List.getElem?_eq_getElem hnl]; rfl)
      omega
    obtain ⟨v, hv⟩ : ∃ v, v = M.made.getD n 0 := ⟨_, rfl⟩
    rw [← hv] at m3c hmb hm0
    have Hm : Hid (Row ((w3.setCell ⟨mg, n, none⟩ (.int .i64 (v + 1))).drew) mg 3 mc ((M.add t).made.map (Value.int .i64))) := by
      have := m3.set n (.int .i64 (v + 1))
      have e1 : (M.made.map (Value.int .i64)).set n (.int .i64 (v + 1)) = (M.add t).made.map (Value.int .i64) := by
        simp [WM.add, hk, hn, hv]
      rw [e1] at this
      exact this
    have kk : (t.kind == 14) = false := by simp [hk]
    have npm : ¬ p = mg := pm
    have nmp : ¬ mg = p := Ne.symm pm
    have k1' : w3.cell? ⟨w.heap.size, 1, none⟩ = some (.int .i64 (n : Int)) := by rw [← hn]; exact k1
    have Hk : Hid (Keeps F w w3) := K3
    have Hs : Hid (w3.heap.size = w.heap.size + 1) := s3.trans s2
    have Hp : Hid (p ≠ mg ∧ w.heap.size ≠ mg ∧ tb ≠ mg ∧ fb ≠ mg ∧ F mg) := ⟨pm, by omega, Ne.symm mt, Ne.symm mf, h.own.2.2.1⟩
    have Hf : Hid (HasMap Tryz.prog 190 w3 fb (faf M) fn) := f3
    have Hff : Hid (∀ x, faf (M.add t) x = faf M x) := faf_add_not hk
    have hml : (n : Int) < M.made.length := by omega
    have hm16 : (M.made.length : Int) ≤ 16 := by have := h.ok.made; have := h.ok.sides; omega
    have hvb : v + 1 ≤ 512 := by omega
    clear h a hd hF1 hm ht hf pm pt pf mt mf hnt hwl b2 s1 s2 K2 p2 B2 tu3 th3 T3 e0 s3 p3 B3 m3 f3 K3 k1 k6 k8 hk lk3 d3 Bm Bt Bf hv hmc h0 h1 hnl d2 hn hmb
    have Hix := (show Hid (Calls Tryz.prog 68 #[.pointer (some ⟨p, 0, none⟩), .int .i64 (M.last + 1)] w3 fun e w' => e = .returned (.tuple #[]) ∧ w3 = w') from hix)
    clear hix
    go_enter Tryz.func52, Tryz.ntmps52
    go_wp2
    rw [← hw2]
    clear c4 f4 hw2
    go_still_tail 8, (by kernel_rfl)
    change wpList _ _ _ _ _ w2.drew
    go_wp2_with fail
    refine Hix.out.mono ?_
    rintro e w4 ⟨rfl, rfl⟩
    clear g2 g4 hrun
    go_wp2_with fail
    go_still_tail 10, (by kernel_rfl)
    change wpList _ _ _ _ _ w3.drew
    go_wp2_with fail
    go_ret
    obtain ⟨n1, n2, n3, n4, n5⟩ := Hp.out
    have hs : ∀ b, b ≠ mg → (w3.setCell ⟨mg, n, none⟩ (.int .i64 (v + 1))).drew.heap[b]? = w3.heap[b]? := fun b hb => Below.heap_setCell w3 ⟨mg, n, none⟩ _ b hb
    have hk3 : Keeps F w3 (w3.setCell ⟨mg, n, none⟩ (.int .i64 (v + 1))).drew := (Keeps.setCell w3 ⟨mg, n, none⟩ _ n5).drew
    refine ⟨rfl, (fin _).out ?_ (hs p n1) (hs _ n2) Hm.out (hs tb n3) ⟨fn, by omega, (Hf.out.congr (fun x _ _ => Hff.out x)).of_block (hs fb n4)⟩ (fun b _ hb _ => hs b hb), Hk.out.trans hk3 (fun _ _ h => h) (fun _ _ h => h)⟩
    have := Hs.out
    have := hk3.size
    omega
end Go.Proofs.YtifmifjbebpomaaGreatDoor
/- Make of a light thing whose kind asks for nothing. -/
namespace Go.Proofs.YtifmifjbebpomaaGreatDoor
open Go.RowKit Go.ChangeMaps Go.MapKept
variable {w : World} {p : Nat} {M : WM} {F : Nat → Prop}

/-- A thing without lists. -/
abbrev lt (k h vk vn n l tg bi s : Int) (fu : Bool) : Th := ⟨k, h, ⟨vk, vn, ⟨#[]⟩, [], 0⟩, .slice none 0 0, [], .slice none 0 0, n, l, tg, bi, s, fu, .slice none 0 0, .slice none 0 0⟩
theorem deep_lt (w : World) (F : Nat → Prop) (k h vk vn n l tg bi s : Int) (fu : Bool) : Deep w F (lt k h vk vn n l tg bi s fu) := ⟨SlT.nil _ _ _ _, SlT.nil _ _ _ _, rfl, rfl⟩
/-- No blocks. -/
def NoB : Nat → Prop := fun _ => False

/-- What a call leaves that lays new blocks, and writes into F. -/
def Grew (F : Nat → Prop) (w : World) (F' : Nat → Prop) (w' : World) : Prop := Keeps F w w' ∧ ∀ b, F' b → F b ∨ w.heap.size ≤ b

set_option maxRecDepth 8000 in
theorem asksOf_no {k : Int} (w : World) (h : k = 1 ∨ k = 2 ∨ k = 3 ∨ k = 4 ∨ k = 5 ∨ k = 8 ∨ k = 10 ∨ k = 12 ∨ k = 13) : Calls Tryz.prog 49 #[.int .u8 k] w fun e w' => e = .returned (.bool false) ∧ w = w' := by
  rcases h with rfl | rfl | rfl | rfl | rfl | rfl | rfl | rfl | rfl <;>
  · go_enter Tryz.func49, Tryz.ntmps49
    go_wp2
    go_ret
    exact ⟨rfl, rfl⟩

set_option maxHeartbeats 1000000 in
set_option maxRecDepth 8000 in
theorem Make_no (hW : IsW w p M F) {k h vk vn n l tg bi s : Int} {fu : Bool} (hp : Plain vk vn)
    (hk : k = 1 ∨ k = 2 ∨ k = 3 ∨ k = 4 ∨ k = 5 ∨ k = 8 ∨ k = 10 ∨ k = 12) (a : AddOk M (lt k h vk vn n l tg bi s fu))
    (hform : ∀ w, IsW w p M F → Calls Tryz.prog 47 #[.pointer (some ⟨p, 0, none⟩), .agg #[.int .u8 k, .int .i64 h, .int .u8 vk, .int .i64 vn, .string ⟨#[]⟩, .slice none 0 0, .int .i64 0, .slice none 0 0, .int .i64 n, .int .i64 l, .int .i64 tg, .int .i64 bi, .int .u8 s, .bool fu, .slice none 0 0, .slice none 0 0]] w fun e w' => e = .returned (.bool true) ∧ Below w.heap.size w w')
    (hfits : ∀ w, IsW w p M F → Calls Tryz.prog 51 #[.pointer (some ⟨p, 0, none⟩), .int .i64 0, .agg #[.int .u8 k, .int .i64 h, .int .u8 vk, .int .i64 vn, .string ⟨#[]⟩, .slice none 0 0, .int .i64 0, .slice none 0 0, .int .i64 n, .int .i64 l, .int .i64 tg, .int .i64 bi, .int .u8 s, .bool fu, .slice none 0 0, .slice none 0 0]] w fun e w' => e = .returned (.bool true) ∧ Below w.heap.size w w') :
    Calls Tryz.prog 18 #[.pointer (some ⟨p, 0, none⟩), .agg #[.int .u8 k, .int .i64 h, .int .u8 vk, .int .i64 vn, .string ⟨#[]⟩, .slice none 0 0, .int .i64 0, .slice none 0 0, .int .i64 n, .int .i64 l, .int .i64 tg, .int .i64 bi, .int .u8 s, .bool fu, .slice none 0 0, .slice none 0 0]] w fun e w' =>
      e = .returned (.tuple #[.int .i64 (M.last + 1), .int .i64 0]) ∧ ∃ F', IsW w' p (M.add (lt k h vk vn n l tg bi s fu)) F' ∧ Grew F w F' w' := by
  have k14 : (k == 14) = false := by rcases hk with rfl | rfl | rfl | rfl | rfl | rfl | rfl | rfl <;> rfl
  have k13 : (k == 13) = false := by rcases hk with rfl | rfl | rfl | rfl | rfl | rfl | rfl | rfl <;> rfl
  have k15 : (k == 15) = false := by rcases hk with rfl | rfl | rfl | rfl | rfl | rfl | rfl | rfl <;> rfl
  have hby : ((k == 15 || k == 16) : Bool) = false := by rcases hk with rfl | rfl | rfl | rfl | rfl | rfl | rfl | rfl <;> rfl
  have HA : Hid (AddOk M (lt k h vk vn n l tg bi s fu)) := a
  have HW : Hid (IsW w p M F) := hW
  have Hk : Hid (k = 1 ∨ k = 2 ∨ k = 3 ∨ k = 4 ∨ k = 5 ∨ k = 8 ∨ k = 10 ∨ k = 12) := hk
  have Hform := (show Hid _ from hform)
  have Hfits := (show Hid _ from hfits)
  clear a hk hform hfits
  go_enter Tryz.func18, Tryz.ntmps18
  go_wp2_with fail
  refine (none_W (hW.below ((Below.refl _ _).alloc (Nat.le_refl _) _))).mono ?_
  rintro e _ ⟨rfl, rfl⟩
  go_wp2_with fail
  refine (Hform.out _ (HW.out.below ((Below.refl _ _).alloc (Nat.le_refl _) _))).mono ?_
  rintro e w1 ⟨rfl, hb1⟩
  have B1 := below_blk hb1 (blk_new _ _)
  have c1 : w1.cell? ⟨w.heap.size, 0, none⟩ = some (.int .u8 k) := by rw [cell_blk B1]; rfl
  have l1 := loadWhat_blk B1 rfl
  have HB : Hid (Below w.heap.size w w1) := ((Below.refl _ _).alloc (Nat.le_refl _) _).trans (hb1.mono (by simp; try omega))
  clear hb1
  go_wp2_with fail
  refine (names_W _ _ k h vk vn n l tg bi s fu hp).mono ?_
  rintro e w2 ⟨rfl, hb2⟩
  have B2 := below_blk hb2 B1
  clear c1 l1
  have c1 : w2.cell? ⟨w.heap.size, 0, none⟩ = some (.int .u8 k) := by rw [cell_blk B2]; rfl
  have l2 := loadWhat_blk B2 rfl
  have HB2 : Hid (Below w.heap.size w w2) := HB.out.trans (hb2.mono HB.out.size)
  clear hb2 B1 HB
  go_wp2_with fail
  refine (asksOf_no _ (by rcases Hk.out with h | h | h | h | h | h | h | h <;> simp [h])).mono ?_
  rintro e _ ⟨rfl, rfl⟩
  go_wp2_with fail
  refine (asksBy_W _ _).mono ?_
  rw [hby]
  rintro e _ ⟨rfl, rfl⟩
  go_wp2_with fail
  refine (Hfits.out _ (HW.out.below HB2.out)).mono ?_
  rintro e w3 ⟨rfl, hb3⟩
  have B3 := below_blk hb3 B2
  clear c1 l2
  have HB3 : Hid (Below w.heap.size w w3) := HB2.out.trans (hb3.mono HB2.out.size)
  clear hb3 B2 HB2
  have hW3 := HW.out.below HB3.out
  obtain ⟨q1, q2⟩ := HA.out.home (by rcases Hk.out with h | h | h | h | h | h | h | h <;> simp [h])
  have q3 := HA.out.made (by rcases Hk.out with h | h | h | h | h | h | h | h <;> simp [h])
  obtain ⟨hn, rfl⟩ := Int.eq_ofNat_of_zero_le q1
  simp only [Int.toNat_natCast] at q3
  have q2 : (hn : Int) < M.made.length := q2
  have Q3 : ¬ (512 ≤ M.made.getD hn 0) := by omega
  obtain ⟨pa, pc, cg, cc, mg, mc, tb, fb, fn, bl, hV⟩ := hW3
  have c5 := hV.c5
  have hA1 : w3.cell? ⟨w.heap.size, 1, none⟩ = some (.int .i64 hn) := by rw [cell_blk B3]; rfl
  have hA0 : w3.cell? ⟨w.heap.size, 0, none⟩ = some (.int .u8 k) := by rw [cell_blk B3]; rfl
  have hc : w3.cell? ⟨mg, hn, none⟩ = some (.int .i64 (M.made.getD hn 0)) := hV.mad.cell (by rw [List.getElem?_map, List.getElem?_eq_getElem (by omega), List.getD_eq_getElem?_getD, List.getElem?_eq_getElem (by omega)]; rfl)
  obtain ⟨v, hv⟩ : ∃ v, v = M.made.getD hn 0 := ⟨_, rfl⟩
  rw [← hv] at hc Q3
  clear hv q3 q1
  have l3 := loadWhat_blk (w := w3.drew) B3 rfl
  have hq2 : hn < M.made.length := by omega
  have HV : Hid (WV w3 p M F pa pc cg cc mg mc tb fb fn bl) := hV
  clear hV
  go_wp2_with fail
  go_region
  go_wp2_with fail
  refine (ownWhat_W _ k hn vk vn n l tg bi s fu hp).mono ?_
  rintro e w4 ⟨rfl, hb4⟩
  have HB4 : Hid (Below w.heap.size w w4) := HB3.out.drew.trans (hb4.mono HB3.out.size)
  have B4 := below_blk hb4 (show w3.drew.heap[w.heap.size]? = _ from B3)
  clear hb4 B3 HB3 HV
  have hlay := lay_W (HW.out.below HB4.out) HA.out (deep_lt _ NoB _ _ _ _ _ _ _ _ _ _) (fun _ h => h.elim)
  go_wp2_with fail
  refine hlay.mono ?_
  rintro e w5 ⟨rfl, hW5, hk5⟩
  clear hlay
  have B5 := (hk5.block _ (blk_lt B4) (fun h => Nat.lt_irrefl _ (HW.out.lt _ h))).trans B4
  have a5 : w5.cell? ⟨w.heap.size, 0, none⟩ = some (.int .u8 k) := by rw [cell_blk B5]; rfl
  have HF : Hid (∃ F', IsW w5 p (M.add (lt k hn vk vn n l tg bi s fu)) F' ∧ Grew F w F' w5) := ⟨_, hW5, Below.keeps HB4.out hk5, by
    have := HB4.out.size
    rintro b ((h | h) | h)
    · exact .inl h
    · exact h.elim
    · right; omega⟩
  clear hW5 hk5 HB4 B4 B5
  go_wp2_with fail
  go_ret2
  exact ⟨rfl, HF.out⟩
end Go.Proofs.YtifmifjbebpomaaGreatDoor
/- What of a light thing. -/
namespace Go.Proofs.YtifmifjbebpomaaGreatDoor
open Go.RowKit Go.ChangeMaps Go.MapKept
variable {w : World} {p : Nat} {M : WM} {F : Nat → Prop}

/-- A What and a number handed back. -/
theorem results_What2 {fn : Func} {q x : Tmp} (h : fn.results = #[.cell q 73, .tmp x]) (tmps : Array Value) (W : World) (g : Nat) (cs : Array Value) (fr : Nat × Nat) (hp : tmps.getD q undef = .pointer (some ⟨g, 0, none⟩))
    (hg : W.heap[g]? = some (.cells cs 73 fr)) (hs : cs.size = 16) : (results fn tmps).run Tryz.prog W = .ok (.tuple #[.agg cs, tmps.getD x undef]) W := by
  have h1 := run_loadVar_row W g 73 73 cs fr _ hg Tryz.underlying73 rfl (by rw [hs]; exact sizeWhat)
  unfold results
  rw [h]
  rw [Array.getD_eq_getD_getElem?] at hp
  simp [hp, asAddr, h1, Result.andThen]

theorem thc_lt (k h vk vn n l tg bi s : Int) (fu : Bool) : thc (lt k h vk vn n l tg bi s fu) = #[.int .u8 k, .int .i64 h, .int .u8 vk, .int .i64 vn, .string ⟨#[]⟩, .slice none 0 0, .int .i64 0, .slice none 0 0, .int .i64 n, .int .i64 l, .int .i64 tg, .int .i64 bi, .int .u8 s, .bool fu, .slice none 0 0, .slice none 0 0] := rfl

set_option maxHeartbeats 1000000 in
set_option maxRecDepth 8000 in
theorem What_lt (hW : IsW w p M F) {r k h vk vn n l tg bi s : Int} {fu : Bool} (hr : (Lit.int .i64 r).wf = true) (ht : M.at r = some (lt k h vk vn n l tg bi s fu)) (hp : Plain vk vn) :
    Calls Tryz.prog 58 #[.pointer (some ⟨p, 0, none⟩), .int .i64 r] w fun e w' => e = .returned (.tuple #[.agg #[.int .u8 k, .int .i64 h, .int .u8 vk, .int .i64 vn, .string ⟨#[]⟩, .slice none 0 0, .int .i64 0, .slice none 0 0, .int .i64 n, .int .i64 l, .int .i64 tg, .int .i64 bi, .int .u8 s, .bool fu, .slice none 0 0, .slice none 0 0], .int .i64 0]) ∧ Below w.heap.size w w' := by
  have HW : Hid (IsW w p M F) := hW
  have Ht : Hid (M.at r = some (lt k h vk vn n l tg bi s fu)) := ht
  have hIs : (M.at r).isSome = true := by rw [ht]; rfl
  have HIs := (show Hid _ from hIs)
  clear hW ht hIs
  go_enter Tryz.func58, Tryz.ntmps58
  go_wp2_with fail
  refine (none_W (HW.out.below ((Below.refl _ _).alloc (Nat.le_refl _) _))).mono ?_
  rintro e _ ⟨rfl, rfl⟩
  go_wp2_with fail
  refine (Is_W (HW.out.below ((Below.refl _ _).alloc (Nat.le_refl _) _)) hr).mono ?_
  rw [HIs.out]
  rintro e _ ⟨rfl, rfl⟩
  have hWA := HW.out.below (w' := w.alloc (.cells #[.int .u8 0, .int .i64 0, .int .u8 0, .int .i64 0, .string ⟨#[]⟩, .slice none 0 0, .int .i64 0, .slice none 0 0, .int .i64 0, .int .i64 0, .int .i64 0, .int .i64 0, .int .u8 0, .bool false, .slice none 0 0, .slice none 0 0] 73)) ((Below.refl _ _).alloc (Nat.le_refl _) _)
  obtain ⟨pa, pc, cg, cc, mg, mc, tb, fb, fn, bl, hV⟩ := hWA
  have c2 := hV.c2
  have hlk := hV.look hr
  rw [Ht.out] at hlk
  simp only [Option.map_some] at hlk
  have hld := loadWhat_blk (hV.blk r _ Ht.out).1 rfl
  rw [thc_lt] at hld
  clear hV
  go_wp2_with fail
  refine (ownWhat_W _ k h vk vn n l tg bi s fu hp).mono ?_
  rintro e w1 ⟨rfl, hb1⟩
  have B1 := below_blk hb1 (blk_new w _)
  have HB1 : Hid (Below w.heap.size w w1) := ((Below.refl _ _).alloc (Nat.le_refl _) _).trans (hb1.mono (by simp))
  have hst := storeWhat_blk (c' := #[.int .u8 k, .int .i64 h, .int .u8 vk, .int .i64 vn, .string ⟨#[]⟩, .slice none 0 0, .int .i64 0, .slice none 0 0, .int .i64 n, .int .i64 l, .int .i64 tg, .int .i64 bi, .int .u8 s, .bool fu, .slice none 0 0, .slice none 0 0]) B1 rfl rfl (by simp [go_sem])
  have G1 := (show Hid _ from heap_setRow_at (c' := #[.int .u8 k, .int .i64 h, .int .u8 vk, .int .i64 vn, .string ⟨#[]⟩, .slice none 0 0, .int .i64 0, .slice none 0 0, .int .i64 n, .int .i64 l, .int .i64 tg, .int .i64 bi, .int .u8 s, .bool fu, .slice none 0 0, .slice none 0 0]) B1)
  clear hb1 B1 c2 hlk hld
  go_wp2_with fail
  exact bodyPost_ret (results_What2 rfl _ _ _ _ _ rfl G1.out rfl) rfl ⟨rfl, Below.setRow HB1.out (Nat.le_refl _) _⟩
end Go.Proofs.YtifmifjbebpomaaGreatDoor
