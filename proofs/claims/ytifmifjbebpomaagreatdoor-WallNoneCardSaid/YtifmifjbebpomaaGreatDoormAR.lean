/- A part of the proof, several texts in one: VTake. -/
import Derived.Test.YtifmifjbebpomaaGreatDoormAF
import Derived.Deep.MidRow
import Derived.Deep.CutBlock
import Derived.Deep.DeepCutAuto
/- value.take, measure, May of any value. -/
namespace Go.Proofs.YtifmifjbebpomaaGreatDoor
open Go.RowKit Go.ChangeMaps Go.MapKept

/-- A value's five cells. -/
def vcs (v : Val) (raw : Value) : Array Value := #[.int .u8 v.kind, .int .i64 v.n, .string v.s, raw, .int .i64 v.r]
/-- What stands once that is struck which the kind names. -/
def chk (n : Int) (s : ByteArray) (r : Int) (len : Nat) : Bool := n == 0 && (s == ⟨#[]⟩ && (r == 0 && len == 0))
def takeB (rec : Nat → List Val → Option Nat) (p : Nat) (v : Val) : Option Nat :=
  match p with
  | 0 => none
  | p + 1 =>
    if v.kind = 0 then (if chk v.n v.s v.r v.l.length then some p else none)
    else if v.kind = 1 then (if chk 0 v.s v.r v.l.length then some p else none)
    else if v.kind = 2 then (if v.s.size > 256 then none else if chk v.n ⟨#[]⟩ v.r v.l.length then some p else none)
    else if v.kind = 4 then (if v.r < 1 then none else if chk v.n v.s 0 v.l.length then some p else none)
    else if v.kind = 3 then (match rec p v.l with | none => none | some q => if chk v.n v.s v.r 0 then some q else none)
    else none
/-- How many parts are left behind v. -/
def takeV : Nat → Nat → Val → Option Nat
  | 0, p, v => takeB (fun _ _ => none) p v
  | n + 1, p, v => takeB (fun p l => if l.length > p then none else l.foldlM (takeV n) p) p v
def takeL (n p : Nat) (l : List Val) : Option Nat := l.foldlM (takeV n) p

theorem takeL_le {n : Nat} (ih : ∀ p v q, takeV n p v = some q → q ≤ p) : ∀ (l : List Val) (p q : Nat), takeL n p l = some q → q ≤ p
  | [], p, q, h => by
    simp [takeL] at h
    omega
  | x :: l, p, q, h => by
    simp only [takeL, List.foldlM_cons, bind, Option.bind_eq_some_iff] at h
    obtain ⟨a, h1, h2⟩ := h
    have := ih _ _ _ h1
    have := takeL_le ih l a q h2
    omega
theorem takeB_lt {rec : Nat → List Val → Option Nat} (hr : ∀ p l q, rec p l = some q → q ≤ p) {p : Nat} {v : Val} {q : Nat} (h : takeB rec p v = some q) : q < p := by
  unfold takeB at h
  split at h
  · cases h
  · repeat' split at h
    all_goals first
      | (cases h; omega)
      | (cases h; done)
      | (cases h; have := hr _ _ _ (by assumption); omega)
theorem takeV_lt : ∀ {n p : Nat} {v : Val} {q : Nat}, takeV n p v = some q → q < p
  | 0, _, _, _, h => takeB_lt (fun _ _ _ h => by cases h) h
  | n + 1, _, _, _, h => takeB_lt (fun p l q h => by
      split at h
      · cases h
      · exact takeL_le (fun p v q h => Nat.le_of_lt (takeV_lt h)) l p q h) h
theorem takeL_take {n p : Nat} {l : List Val} {i q : Nat} {x : Val} (hx : l[i]? = some x) (h : takeL n p (l.take i) = some q) : takeL n p (l.take (i + 1)) = takeV n q x := by
  rw [List.take_add_one, hx]
  show (l.take i ++ [x]).foldlM _ _ = _
  rw [List.foldlM_append]
  show (takeL n p (l.take i)).bind _ = _
  rw [h]
  show (List.foldlM (takeV n) q [x]) = _
  rw [List.foldlM_cons]
  show (takeV n q x).bind _ = _
  cases takeV n q x <;> rfl
theorem takeL_none {n p : Nat} {l : List Val} {i : Nat} (h : takeL n p (l.take i) = none) : takeL n p l = none := by
  have : takeL n p (l.take i ++ l.drop i) = none := by
    show (l.take i ++ l.drop i).foldlM _ _ = _
    rw [List.foldlM_append]
    show (takeL n p (l.take i)).bind _ = _
    rw [h]
    rfl
  rwa [List.take_append_drop] at this

/-! ### a value of a slice, read at once -/
def ldV (a : Value) : Sem Next := do pure (.value (← Instr.loadAt 29 a))
theorem loadV_mid {w : World} {b o : Nat} {cs : List Value} (hc : w.rangeAt b o cs) (hs : cs.length = 5) : (ldV (.pointer (some ⟨b, o, none⟩))).run Tryz.prog w = .ok (.value (.agg cs.toArray)) w := by
  have := run_loadAt_mid w b o 29 cs _ hc Tryz.underlying29 rfl (by rw [hs]; exact sizeValue)
  simp only [ldV, Sem.run_bind, this, Result.andThen, Sem.run_pure]
theorem SlAt.range {w : World} {F : Nat → Prop} {s : Value} {l : List Val} (h : SlAt w F s l) {i : Nat} {v : Val} (hv : l[i]? = some v) :
    ∃ b o c raw, s = .slice (some ⟨b, o, none⟩) l.length c ∧ w.rangeAt b (o + i * 5) (vcs v raw).toList ∧ b < w.heap.size ∧ F b ∧ SlAt w F raw v.l := by
  cases h with
  | mk pa c l raw hcp h hr =>
    obtain ⟨b, o, h1, h2, h4, h5, h6, h7, h8⟩ := h i v hv
    refine ⟨b, o, c, raw i, by rw [h1], fun j x hj => ?_, World.block_lt_of_cell? _ _ h4, h2, hr i v hv⟩
    have e : ∀ k, o + i * 5 + k = o + 5 * i + k := fun k => by omega
    rw [e]
    match j, hj with
    | 0, hj => cases hj; exact h4
    | 1, hj => cases hj; exact h5
    | 2, hj => cases hj; exact h6
    | 3, hj => cases hj; exact h7
    | 4, hj => cases hj; exact h8
theorem SlAt.form {w : World} {F : Nat → Prop} {s : Value} {l : List Val} (h : SlAt w F s l) : ∃ pa c, s = .slice pa l.length c := by
  cases h with
  | mk pa c l raw hcp h hr => exact ⟨pa, c, rfl⟩
/-- Only blocks beside F are turned. -/
theorem SlAt.keeps {w w' : World} {F : Nat → Prop} {S : Nat → Prop} {s : Value} {l : List Val} (h : SlAt w F s l) (hk : Keeps S w w') (hS : ∀ b, S b → F b → False) : SlAt w' F s l := by
  induction h with
  | mk pa c l raw hcp h hr ih =>
    refine .mk pa c l raw hcp (fun i v hv => ?_) ih
    obtain ⟨b, o, h1, h2, h4, h5, h6, h7, h8⟩ := h i v hv
    have e := hk.block b (World.block_lt_of_cell? _ _ h4) (fun hs => hS b hs h2)
    exact ⟨b, o, h1, h2, (World.cell?_of_block (a := ⟨b, o + 5 * i, none⟩) e).trans h4, (World.cell?_of_block (a := ⟨b, o + 5 * i + 1, none⟩) e).trans h5,
      (World.cell?_of_block (a := ⟨b, o + 5 * i + 2, none⟩) e).trans h6, (World.cell?_of_block (a := ⟨b, o + 5 * i + 3, none⟩) e).trans h7, (World.cell?_of_block (a := ⟨b, o + 5 * i + 4, none⟩) e).trans h8⟩
theorem SlAt.on {w w' : World} {F : Nat → Prop} {s : Value} {l : List Val} (h : SlAt w F s l) (hb : Below w.heap.size w w') : SlAt w' F s l :=
  h.keeps (S := fun _ => False) (Keeps.of_below hb) (fun _ h _ => h)
theorem SlAt.mono {w : World} {F F' : Nat → Prop} {s : Value} {l : List Val} (h : SlAt w F s l) (hF : ∀ b, F b → F' b) : SlAt w F' s l := h.of_blocks (fun _ _ => rfl) hF
/-- All of it lies in blocks that are there. -/
theorem SlAt.lt {w : World} {F : Nat → Prop} {s : Value} {l : List Val} (h : SlAt w F s l) : SlAt w (fun b => F b ∧ b < w.heap.size) s l := by
  induction h with
  | mk pa c l raw hcp h hr ih =>
    refine .mk pa c l raw hcp (fun i v hv => ?_) ih
    obtain ⟨b, o, h1, h2, h4, h5, h6, h7, h8⟩ := h i v hv
    exact ⟨b, o, h1, ⟨h2, World.block_lt_of_cell? _ _ h4⟩, h4, h5, h6, h7, h8⟩
theorem SlT.at {w : World} {F : Nat → Prop} {s : Value} {l : List Val} (h : SlT w F s l) : SlAt w F s l := by
  induction h with
  | zero pa c h0 => exact SlAt.nil _ _ _ _ h0
  | mk b c cs l raw hcp hF hb h hr ih =>
    refine .mk _ c l raw ⟨hcp, fun h => by cases h⟩ (fun i v hv => ?_) ih
    obtain ⟨h0, h1, h2, h3, h4⟩ := h i v hv
    have e : ∀ k, w.cell? ⟨b, 0 + 5 * i + k, none⟩ = cs[5 * i + k]? := fun k => by rw [cell_blk hb, Nat.zero_add]
    exact ⟨b, 0, rfl, hF, (e 0).trans h0, (e 1).trans h1, (e 2).trans h2, (e 3).trans h3, (e 4).trans h4⟩
theorem SlT.form {w : World} {F : Nat → Prop} {s : Value} {l : List Val} (h : SlT w F s l) : ∃ pa c, s = .slice pa l.length c := h.at.form
theorem SlT.mono {w : World} {F F' : Nat → Prop} {s : Value} {l : List Val} (h : SlT w F s l) (hF : ∀ b, F b → F' b) : SlT w F' s l := h.of_blocks (fun _ _ _ _ _ _ _ => rfl) hF
theorem SlT.monoLt {w : World} {F F' : Nat → Prop} {s : Value} {l : List Val} (h : SlT w F s l) (hF : ∀ b, F b → b < w.heap.size → F' b) : SlT w F' s l := by
  induction h with
  | zero pa c h0 => exact .zero pa c h0
  | mk b c cs l raw hcp hFb hbk h hr ih => exact .mk b c cs l raw hcp (hF b hFb (blk_lt hbk)) hbk h ih
theorem SlT.on {w w' : World} {F : Nat → Prop} {s : Value} {l : List Val} (h : SlT w F s l) (hb : Below w.heap.size w w') : SlT w' F s l :=
  (h.monoLt (F' := fun b => F b ∧ b < w.heap.size) fun _ h1 h2 => ⟨h1, h2⟩).of_blocks (Lists.of fun b hF => hb.block b hF.2) fun _ h => h.1
/-- A slice's room. -/
theorem SlAt.room {w : World} {F : Nat → Prop} {pa : Option Addr} {n c : Nat} {l : List Val} (h : SlAt w F (.slice pa n c) l) : n ≤ c ∧ (pa = none → c = 0) := by
  generalize hs : Value.slice pa n c = s at h
  cases h with
  | mk pa' c0 l raw hcp h hr =>
    cases hs
    exact hcp
theorem SlT.lt {w : World} {F : Nat → Prop} {s : Value} {l : List Val} (h : SlT w F s l) : SlT w (fun b => F b ∧ b < w.heap.size) s l := h.monoLt fun _ h1 h2 => ⟨h1, h2⟩
/-- It lies in no block of another type. -/
theorem SlT.ne {w : World} {F : Nat → Prop} {s : Value} {l : List Val} (h : SlT w F s l) {b : Nat} {A : Array Value} {ty : TypeId} {fr : Nat × Nat} (hb : w.heap[b]? = some (.cells A ty fr)) (hty : ty ≠ 29) : SlT w (fun x => F x ∧ x ≠ b) s l := by
  induction h with
  | zero pa c h0 => exact .zero pa c h0
  | mk x c cs l raw hcp hFb hbk h hr ih =>
    refine .mk x c cs l raw hcp ⟨hFb, fun e => ?_⟩ hbk h ih
    subst e
    rw [hb] at hbk
    cases hbk
    exact hty rfl
theorem SlT.keeps {w w' : World} {F : Nat → Prop} {S : Nat → Prop} {s : Value} {l : List Val} (h : SlT w F s l) (hk : Keeps S w w') (hS : ∀ b, S b → F b → False) : SlT w' F s l :=
  h.lt.of_blocks (Lists.of fun b hF => hk.block b hF.2 fun hs => hS b hs hF.1) fun _ h => h.1

theorem execOp_ldV71 (ρ : Operand → Value) (ty : TypeId) (pos : String) (af : Array Edge) (g : Option (Nat × Bool)) :
    execOp ρ { dst := some 71, op := .load 29 (.tmp 70), type := ty, pos := pos, after := af, guard := g } = ldV (ρ (.tmp 70)) := rfl

/-- What a take leaves. -/
def TakeR (w : World) (lb nest : Nat) (r : Option Nat) (e : Ending) (w' : World) : Prop :=
  e = .returned (.bool r.isSome) ∧ Keeps (fun b => b = lb) w w' ∧ ∀ q, r = some q → w'.heap[lb]? = some (.cells #[.int .i64 q, .int .i64 nest] 251 (0, 0))

section
variable {n p : Nat} {v : Val}
theorem tk0 (h : v.kind = 0) : takeV n (p + 1) v = if chk v.n v.s v.r v.l.length then some p else none := by
  cases n <;> simp [takeV, takeB, h]
theorem tk1 (h : v.kind = 1) : takeV n (p + 1) v = if chk 0 v.s v.r v.l.length then some p else none := by
  cases n <;> simp [takeV, takeB, h]
theorem tk2 (h : v.kind = 2) : takeV n (p + 1) v = if v.s.size > 256 then none else if chk v.n ⟨#[]⟩ v.r v.l.length then some p else none := by
  cases n <;> simp [takeV, takeB, h]
theorem tk4 (h : v.kind = 4) : takeV n (p + 1) v = if v.r < 1 then none else if chk v.n v.s 0 v.l.length then some p else none := by
  cases n <;> simp [takeV, takeB, h]
theorem tk3z (h : v.kind = 3) : takeV 0 (p + 1) v = none := by
  simp [takeV, takeB, h]
theorem tk3l (h : v.kind = 3) (hl : v.l.length > p) : takeV (n + 1) (p + 1) v = none := by
  simp [takeV, takeB, h, hl]
theorem tk3 (h : v.kind = 3) (hl : ¬ v.l.length > p) : takeV (n + 1) (p + 1) v = (match takeL n p v.l with | none => none | some q => if chk v.n v.s v.r 0 then some q else none) := by
  simp only [takeV, takeB, h, hl]
  rfl
theorem tkx (h0 : v.kind ≠ 0) (h1 : v.kind ≠ 1) (h2 : v.kind ≠ 2) (h3 : v.kind ≠ 3) (h4 : v.kind ≠ 4) : takeV n (p + 1) v = none := by
  cases n <;> simp [takeV, takeB, h0, h1, h2, h3, h4]
end
theorem Keeps.alloc {S : Nat → Prop} {w w' : World} (h : Keeps S w w') (o : Obj) : Keeps S w (w'.alloc o) := h.then_below ((Below.refl _ _).alloc (Nat.le_refl _) _)

/-- Behind the switch: what is still to be looked at. -/
def SwR (w : World) (lb nest cpb : Nat) (kind : Int) (res : Option Nat) (n : Int) (s : ByteArray) (r : Int) (pa : Option Addr) (len c q : Nat) (wx : World) : Prop :=
  wx.heap[cpb]? = some (.cells #[.int .u8 kind, .int .i64 n, .string s, .slice pa len c, .int .i64 r] 29 (0, 0)) ∧ Keeps (fun b => b = lb) w wx ∧ wx.heap[lb]? = some (.cells #[.int .i64 q, .int .i64 nest] 251 (0, 0)) ∧
    res = if chk n s r len then some q else none

theorem SwR.turn {w w2 : World} {lb nest cpb : Nat} {kind n r n' r' : Int} {s s' : ByteArray} {pa pa' : Option Addr} {len c len' c' q : Nat} {res res' : Option Nat} (h : SwR w lb nest cpb kind res n s r pa len c q w2) (hcp : w.heap.size ≤ cpb) (hne : lb ≠ cpb) (i : Nat) (x : Value)
    (hcs : (#[.int .u8 kind, .int .i64 n, .string s, .slice pa len c, .int .i64 r] : Array Value).setIfInBounds i x = #[.int .u8 kind, .int .i64 n', .string s', .slice pa' len' c', .int .i64 r']) (hres : res' = if chk n' s' r' len' then some q else none) :
    SwR w lb nest cpb kind res' n' s' r' pa' len' c' q (w2.setCell ⟨cpb, i, none⟩ x) := by
  obtain ⟨h1, h2, h3, -⟩ := h
  refine ⟨by rw [blk_setCell h1, hcs], h2.trans (Keeps.setCell (S := fun b => b = cpb) w2 ⟨cpb, i, none⟩ x rfl) (fun _ _ h => h) (fun y hy e => by omega), ?_, hres⟩
  rw [← h3]
  exact Below.heap_setCell w2 ⟨cpb, i, none⟩ x lb hne
theorem Keeps.drewN {S : Nat → Prop} {a b : World} (h : Keeps S a b) (m : Nat) : Keeps S a (b.drewN m) := ⟨h.os, h.tape, h.output, h.size, h.block⟩
/-- While the list is gone over. -/
def LpR (w : World) (lb nest p cpb : Nat) (F : Nat → Prop) (A : Array Value) (sl : Value) (l : List Val) (i q : Nat) (wx : World) : Prop :=
  takeL nest p (l.take i) = some q ∧ wx.heap[lb]? = some (.cells #[.int .i64 q, .int .i64 nest] 251 (0, 0)) ∧ Keeps (fun b => b = lb) w wx ∧ wx.heap[cpb]? = some (.cells A 29 (0, 0)) ∧ SlAt wx F sl l ∧ lb ≠ cpb
def TakeC (nest : Nat) : Prop := ∀ (p : Nat) (v : Val) (raw : Value) (w : World) (lb : Nat) (F : Nat → Prop), nest ≤ 16 → p ≤ 512 → ¬ F lb → SlAt w F raw v.l → w.heap[lb]? = some (.cells #[.int .i64 p, .int .i64 nest] 251 (0, 0)) →
    Calls Tryz.prog 151 #[.pointer (some ⟨lb, 0, none⟩), .agg (vcs v raw)] w (TakeR w lb nest (takeV nest p v))

attribute [local go_sem ↓] execOp_ldV71 in
set_option maxHeartbeats 4000000 in
set_option maxRecDepth 20000 in
theorem take_step (nest : Nat) (ih : ∀ m, nest = m + 1 → TakeC m) : TakeC nest := by
  intro p v raw w lb F hn hp hlF hS hlb
  have HlF := (show Hid (¬ F lb) from hlF)
  clear hlF
  obtain ⟨pa, c, rfl⟩ := hS.form
  obtain ⟨kind, n, s, l, r⟩ := v
  simp only [vcs]
  have HS := (show Hid (SlAt w F (Value.slice pa l.length c) l) from hS)
  have Hlb := (show Hid (w.heap[lb]? = some (.cells #[.int .i64 p, .int .i64 ((nest : Nat) : Int)] 251 (0, 0))) from hlb)
  have IH := (show Hid _ from ih)
  have hlt := blk_lt hlb
  have d0 : w.cell? ⟨lb, 0, none⟩ = some (.int .i64 p) := by rw [cell_blk hlb]; rfl
  have f0 := frozen_blk hlb 0
  clear hS hlb ih
  cases p with
  | zero =>
    have hR : Hid (TakeR w lb nest (takeV nest 0 ⟨kind, n, s, l, r⟩) (.returned (.bool false)) (w.alloc (.cells #[.int .u8 kind, .int .i64 n, .string s, .slice pa l.length c, .int .i64 r] 29))) := ⟨by cases nest <;> rfl, (Keeps.refl _ _).alloc _, fun q h => by cases nest <;> cases h⟩
    clear HS Hlb IH
    have d0 : w.cell? ⟨lb, 0, none⟩ = some (.int .i64 0) := d0
    go_enter Tryz.func151, Tryz.ntmps151
    go_wp2_with fail
    go_ret
    exact hR.out
  | succ p =>
    have hpz : ¬ (((p + 1 : Nat) : Int) = 0) := by omega
    have H2 : Hid (∀ w2, w2 = ((w.setCell ⟨lb, 0, none⟩ (.int .i64 p)).alloc (.cells #[.int .u8 kind, .int .i64 n, .string s, .slice pa l.length c, .int .i64 r] 29)).alloc (.cells #[.int .u8 kind, .int .i64 n, .string s, .slice pa l.length c, .int .i64 r] 29) →
        w2.heap.size = w.heap.size + 2 ∧ w2.heap[w.heap.size]? = some (.cells #[.int .u8 kind, .int .i64 n, .string s, .slice pa l.length c, .int .i64 r] 29 (0, 0)) ∧ SwR w lb nest (w.heap.size + 1) kind (if chk n s r l.length then some p else none) n s r pa l.length c p w2) := by
      intro w2 e
      subst e
      have hl0 : (w.setCell ⟨lb, 0, none⟩ (.int .i64 p)).heap[lb]? = some (.cells #[.int .i64 p, .int .i64 ((nest : Nat) : Int)] 251 (0, 0)) := by rw [blk_setCell Hlb.out]; rfl
      refine ⟨by simp, ?_, ?_, ((Keeps.setCell (S := fun b => b = lb) w ⟨lb, 0, none⟩ (.int .i64 p) rfl).alloc _).alloc _, blk_old _ _ (blk_old _ _ hl0), rfl⟩
      · have := blk2_old (w.setCell ⟨lb, 0, none⟩ (.int .i64 p)) (.cells #[.int .u8 kind, .int .i64 n, .string s, .slice pa l.length c, .int .i64 r] 29) (.cells #[.int .u8 kind, .int .i64 n, .string s, .slice pa l.length c, .int .i64 r] 29)
        rwa [World.size_setCell] at this
      · have := blk2_new (w.setCell ⟨lb, 0, none⟩ (.int .i64 p)) (.cells #[.int .u8 kind, .int .i64 n, .string s, .slice pa l.length c, .int .i64 r] 29) (.cells #[.int .u8 kind, .int .i64 n, .string s, .slice pa l.length c, .int .i64 r] 29)
        rwa [World.size_setCell] at this
    go_enter Tryz.func151, Tryz.ntmps151
    go_upto_block 0 with fail
    revert H2
    generalize ((w.setCell _ _).alloc _).alloc _ = w2
    intro H2
    obtain ⟨hsz2, hb3, hsw⟩ := H2.out w2 rfl
    have HB3 := (show Hid _ from hb3)
    have HSW := (show Hid (SwR w lb nest (w.heap.size + 1) kind (if chk n s r l.length then some p else none) n s r pa l.length c p w2) from hsw)
    have k0 : w2.cell? ⟨w.heap.size, 0, none⟩ = some (.int .u8 kind) := by rw [cell_blk hb3]; rfl
    clear H2 d0 f0 hsw hb3
    go_cut [] (fun wx => ∃ n' s' r' pa' len' c' q, Hid (SwR w lb nest (w.heap.size + 1) kind (takeV nest (p + 1) ⟨kind, n, s, l, r⟩) n' s' r' pa' len' c' q wx))
    case first =>
      have hcp : w.heap.size + 1 ≠ lb := by omega
      have n1 : (w.heap.size + 1 : Nat) ≠ w.heap.size := by omega
      have cp1 : w2.cell? ⟨w.heap.size + 1, 1, none⟩ = some (.int .i64 n) := by rw [cell_blk HSW.out.1]; rfl
      have cp2 : w2.cell? ⟨w.heap.size + 1, 2, none⟩ = some (.string s) := by rw [cell_blk HSW.out.1]; rfl
      have cp3 : w2.cell? ⟨w.heap.size + 1, 3, none⟩ = some (.slice pa l.length c) := by rw [cell_blk HSW.out.1]; rfl
      have cp4 : w2.cell? ⟨w.heap.size + 1, 4, none⟩ = some (.int .i64 r) := by rw [cell_blk HSW.out.1]; rfl
      have g1 := frozen_blk HSW.out.1 1
      have g2 := frozen_blk HSW.out.1 2
      have g3 := frozen_blk HSW.out.1 3
      have g4 := frozen_blk HSW.out.1 4
      by_cases e0 : kind = 0
      · have HA := (show Hid (SwR w lb nest (w.heap.size + 1) kind (takeV nest (p + 1) ⟨kind, n, s, l, r⟩) n s r pa l.length c p w2) from ⟨HSW.out.1, HSW.out.2.1, HSW.out.2.2.1, tk0 (v := ⟨kind, n, s, l, r⟩) e0⟩)
        subst e0
        clear IH HS Hlb
        go_wp2_with fail
        go_meet
        case rel => exact ⟨_, _, _, _, _, _, _, HA⟩
      have hlc : lb ≠ w.heap.size + 1 := fun e => hcp e.symm
      by_cases e1 : kind = 1
      · have HA := (show Hid _ from HSW.out.turn (Nat.le_succ _) hlc 1 (.int .i64 0) rfl (tk1 (n := nest) (p := p) (v := ⟨kind, n, s, l, r⟩) e1))
        subst e1
        clear IH HS Hlb
        go_wp2_with fail
        go_meet
        case rel => exact ⟨_, _, _, _, _, _, _, HA⟩
      have e1' : (kind == 1) = false := by simpa using e1
      by_cases e2 : kind = 2
      · have k2 : w2.cell? ⟨w.heap.size, 2, none⟩ = some (.string s) := by rw [cell_blk HB3.out]; rfl
        by_cases hs : s.size > 256
        · have hsz : (s.size : Int) > 256 := by omega
          have HT : Hid (TakeR w lb nest (takeV nest (p + 1) ⟨kind, n, s, l, r⟩) (.returned (.bool false)) w2) := by
            rw [show takeV nest (p + 1) ⟨kind, n, s, l, r⟩ = none from (tk2 (v := ⟨kind, n, s, l, r⟩) e2).trans (if_pos hs)]
            exact ⟨rfl, HSW.out.2.1, fun q h => by cases h⟩
          subst e2
          clear IH HS Hlb HSW HB3
          go_wp2_with fail
          go_ret
          exact HT.out
        · have hsz : ¬ (s.size : Int) > 256 := by omega
          have HA := (show Hid _ from HSW.out.turn (Nat.le_succ _) hlc 2 (.string ⟨#[]⟩) rfl ((tk2 (n := nest) (p := p) (v := ⟨kind, n, s, l, r⟩) e2).trans (if_neg hs)))
          subst e2
          clear IH HS Hlb
          go_wp2_with fail
          go_meet
          case rel => exact ⟨_, _, _, _, _, _, _, HA⟩
      by_cases e4 : kind = 4
      · have k4 : w2.cell? ⟨w.heap.size, 4, none⟩ = some (.int .i64 r) := by rw [cell_blk HB3.out]; rfl
        by_cases hs : r < 1
        · have HT : Hid (TakeR w lb nest (takeV nest (p + 1) ⟨kind, n, s, l, r⟩) (.returned (.bool false)) w2) := by
            rw [show takeV nest (p + 1) ⟨kind, n, s, l, r⟩ = none from (tk4 (v := ⟨kind, n, s, l, r⟩) e4).trans (if_pos hs)]
            exact ⟨rfl, HSW.out.2.1, fun q h => by cases h⟩
          subst e4
          clear IH HS Hlb HSW HB3
          go_wp2_with fail
          go_ret
          exact HT.out
        · have HA := (show Hid _ from HSW.out.turn (Nat.le_succ _) hlc 4 (.int .i64 0) rfl ((tk4 (n := nest) (p := p) (v := ⟨kind, n, s, l, r⟩) e4).trans (if_neg hs)))
          subst e4
          clear IH HS Hlb
          go_wp2_with fail
          go_meet
          case rel => exact ⟨_, _, _, _, _, _, _, HA⟩
      have e0' : (kind == 0) = false := by simpa using e0
      have e2' : (kind == 2) = false := by simpa using e2
      have e4' : (kind == 4) = false := by simpa using e4
      by_cases e3 : kind = 3
      rotate_left
      · have e3' : (kind == 3) = false := by simpa using e3
        have HT : Hid (TakeR w lb nest (takeV nest (p + 1) ⟨kind, n, s, l, r⟩) (.returned (.bool false)) w2) := by
          rw [show takeV nest (p + 1) ⟨kind, n, s, l, r⟩ = none from tkx (v := ⟨kind, n, s, l, r⟩) e0 e1 e2 e3 e4]
          exact ⟨rfl, HSW.out.2.1, fun q h => by cases h⟩
        clear IH HS Hlb HSW HB3 e0 e1 e2 e3 e4
        go_wp2_with fail
        go_ret
        exact HT.out
      subst e3
      clear e0 e1 e2 e4 e0' e1' e2' e4'
      have k3 : w2.cell? ⟨w.heap.size, 3, none⟩ = some (.slice pa l.length c) := by rw [cell_blk HB3.out]; rfl
      have l0 : w2.cell? ⟨lb, 0, none⟩ = some (.int .i64 p) := by rw [cell_blk HSW.out.2.2.1]; rfl
      have l1 : w2.cell? ⟨lb, 1, none⟩ = some (.int .i64 nest) := by rw [cell_blk HSW.out.2.2.1]; rfl
      have m1 := frozen_blk HSW.out.2.2.1 1
      cases nest with
      | zero =>
        have HT : Hid (∀ m, TakeR w lb 0 (takeV 0 (p + 1) ⟨3, n, s, l, r⟩) (.returned (.bool false)) (w2.drewN m)) := by
          intro m
          rw [tk3z (v := ⟨3, n, s, l, r⟩) rfl]
          exact ⟨rfl, HSW.out.2.1.drewN m, fun q h => by cases h⟩
        have l1 : w2.cell? ⟨lb, 1, none⟩ = some (.int .i64 0) := l1
        clear IH HS Hlb HSW HB3
        go_upto_region 19 with fail
        go_quiet (fail)
        go_wp2_with fail
        go_ret
        exact HT.out _
      | succ nest =>
        have hnz : ¬ (((nest + 1 : Nat) : Int) = 0) := by omega
        by_cases hl : l.length > p
        · have hlz : (l.length : Int) > (p : Int) := by omega
          have HT : Hid (∀ m, TakeR w lb (nest + 1) (takeV (nest + 1) (p + 1) ⟨3, n, s, l, r⟩) (.returned (.bool false)) (w2.drewN m)) := by
            intro m
            rw [tk3l (v := ⟨3, n, s, l, r⟩) rfl hl]
            exact ⟨rfl, HSW.out.2.1.drewN m, fun q h => by cases h⟩
          clear IH HS Hlb HSW HB3
          go_upto_region 19 with fail
          go_quiet (fail)
          go_wp2_with fail
          go_ret
          exact HT.out _
        · have hlz : ¬ (l.length : Int) > (p : Int) := by omega
          have HL : Hid (∀ m, LpR w lb nest p (w.heap.size + 1) F #[.int .u8 3, .int .i64 n, .string s, .slice pa l.length c, .int .i64 r] (.slice pa l.length c) l 0 p ((w2.drewN m).setCell ⟨lb, 1, none⟩ (.int .i64 nest))) := by
            intro m
            obtain ⟨h1, h2, h3, -⟩ := HSW.out
            have hk : Keeps (fun b => b = lb) w ((w2.drewN m).setCell ⟨lb, 1, none⟩ (.int .i64 nest)) := (h2.drewN m).trans (Keeps.setCell (S := fun b => b = lb) _ _ _ rfl) (fun _ _ h => h) (fun _ _ h => h)
            refine ⟨rfl, ?_, hk, ?_, HS.out.keeps hk (fun b e hb => HlF.out (e ▸ hb)), hlc⟩
            · have : (w2.drewN m).heap[lb]? = some (.cells #[.int .i64 p, .int .i64 ((nest + 1 : Nat) : Int)] 251 (0, 0)) := h3
              rw [blk_setCell this]
              rfl
            · rw [Below.heap_setCell (w2.drewN m) ⟨lb, 1, none⟩ (.int .i64 nest) (w.heap.size + 1) hcp]
              exact h1
          have Hp := (show Hid (p ≤ 512 ∧ l.length ≤ 512) from ⟨by omega, by omega⟩)
          have Hr3 := (show Hid (takeV (nest + 1) (p + 1) ⟨3, n, s, l, r⟩ = (match takeL nest p l with | none => none | some q => if chk n s r 0 then some q else none)) from tk3 (v := ⟨3, n, s, l, r⟩) rfl hl)
          clear HS Hlb HSW HB3 cp1 cp2 cp3 cp4 g1 g2 g3 g4 hcp n1 hsz2
          go_upto_region 19 with fail
          go_quiet (fail)
          go_wp2_with fail
          clear l0 l1 m1 k3 k0 hlz hl
          have HL := (show Hid _ from HL.out nq)
          revert HL
          generalize (w2.drewN nq).setCell _ _ = w4
          intro HL
          go_loopw [68] (fun vi wx => ∃ (i q : Nat), vi = .int .i64 i ∧ i ≤ l.length ∧ Hid (LpR w lb nest p (w.heap.size + 1) F #[.int .u8 3, .int .i64 n, .string s, .slice pa l.length c, .int .i64 r] (.slice pa l.length c) l i q wx)) (fun vi _ => l.length - (intOf vi).toNat)
          case atStart => exact ⟨0, p, rfl, by omega, HL⟩
          case round =>
            clear HL
            obtain ⟨i, q, rfl, hi, HL⟩ := hrel
            by_cases hil : i < l.length
            · obtain ⟨x, hx⟩ : ∃ x, l[i]? = some x := ⟨_, List.getElem?_eq_getElem hil⟩
              obtain ⟨b, o, c', raw, hpe, hrg, -, -, hSx⟩ := HL.out.2.2.2.2.1.range hx
              cases hpe
              obtain ⟨xk, xn, xs, xl, xr⟩ := x
              have hiz : (i : Int) < (l.length : Int) := by omega
              have hld0 := loadV_mid hrg rfl
              have HX := (show Hid (l[i]? = some ⟨xk, xn, xs, xl, xr⟩) from hx)
              obtain ⟨pa2, c2, rfl⟩ := hSx.form
              have hld : (ldV (.pointer (some ⟨b, o + i * 5, none⟩))).run Tryz.prog wr = .ok (.value (.agg #[.int .u8 xk, .int .i64 xn, .string xs, .slice pa2 xl.length c2, .int .i64 xr])) wr := hld0
              clear hld0
              have HSX := (show Hid (SlAt wr F (.slice pa2 xl.length c2) xl) from hSx)
              have Hq : Hid (q ≤ 512) := Nat.le_trans (takeL_le (fun p v q h => Nat.le_of_lt (takeV_lt h)) _ _ _ HL.out.1) Hp.out.1
              have hi512 : i < 512 := by
                have := Hp.out.2
                omega
              clear hx hrg hSx
              go_wp2_with fail
              refine (IH.out nest rfl q ⟨xk, xn, xs, xl, xr⟩ (.slice pa2 xl.length c2) _ lb F (by omega) Hq.out HlF.out (HSX.out.on ((Below.refl _ _).alloc (Nat.le_refl _) _)) (blk_old _ _ HL.out.2.1)).mono ?_
              rintro e w5 ⟨rfl, hk5, hq5⟩
              have hkk : Keeps (fun b => b = lb) wr w5 := ((Keeps.refl _ wr).alloc _).trans hk5 (fun _ _ h => h) (fun _ _ h => h)
              obtain ⟨h1, h2, h3, h4, h5, h6⟩ := HL.out
              have htk := takeL_take HX.out h1
              have hk : Keeps (fun b => b = lb) w w5 := h3.trans hkk (fun _ _ h => h) (fun _ _ h => h)
              cases hres : takeV nest q ⟨xk, xn, xs, xl, xr⟩ with
              | none =>
                have HT : Hid (TakeR w lb (nest + 1) (takeV (nest + 1) (p + 1) ⟨3, n, s, l, r⟩) (.returned (.bool false)) w5) := by
                  rw [Hr3.out, takeL_none (htk.trans hres)]
                  exact ⟨rfl, hk, fun q h => by cases h⟩
                clear hkk h1 h2 h3 h4 h5 h6 htk hk HL hk5 hq5 hld HX HSX Hq
                go_wp2_with fail
                go_ret
                exact HT.out
              | some q' =>
                have HL' : Hid (LpR w lb nest p (w.heap.size + 1) F #[.int .u8 3, .int .i64 n, .string s, .slice (some ⟨b, o, none⟩) l.length c, .int .i64 r] (.slice (some ⟨b, o, none⟩) l.length c) l (i + 1) q' w5) := by
                  refine ⟨htk.trans hres, hq5 q' hres, hk, ?_, h5.keeps hkk (fun b e hb => HlF.out (e ▸ hb)), h6⟩
                  · rw [hkk.block _ (blk_lt h4) (fun e => h6 e.symm)]
                    exact h4
                clear hkk h1 h2 h3 h4 h5 h6 htk hk HL hk5 hq5 hld HX HSX Hq
                go_wp2_with fail
                go_roundw
                case rel => exact ⟨i + 1, q', by go_num, by omega, HL'⟩
                case measure =>
                  simp [intOf]
                  omega
            · have hiz : ¬ (i : Int) < (l.length : Int) := by omega
              obtain ⟨h1, h2, h3, h4, h5, h6⟩ := HL.out
              rw [List.take_of_length_le (by omega)] at h1
              have l1 : wr.cell? ⟨lb, 1, none⟩ = some (.int .i64 nest) := by rw [cell_blk h2]; rfl
              have m1 := frozen_blk h2 1
              have cp3 : wr.cell? ⟨w.heap.size + 1, 3, none⟩ = some (.slice pa l.length c) := by rw [cell_blk h4]; rfl
              have g3 := frozen_blk h4 3
              have hne' : w.heap.size + 1 ≠ lb := fun e => h6 e.symm
              have HA : Hid (SwR w lb (nest + 1) (w.heap.size + 1) 3 (takeV (nest + 1) (p + 1) ⟨3, n, s, l, r⟩) n s r none 0 0 q ((wr.setCell ⟨lb, 1, none⟩ (.int .i64 ((nest : Int) + 1))).setCell ⟨w.heap.size + 1, 3, none⟩ (.slice none 0 0))) := by
                have g2 : (wr.setCell ⟨lb, 1, none⟩ (.int .i64 ((nest : Int) + 1))).heap[lb]? = some (.cells #[.int .i64 q, .int .i64 ((nest + 1 : Nat) : Int)] 251 (0, 0)) := by
                  rw [blk_setCell h2]
                  rfl
                have g4 : (wr.setCell ⟨lb, 1, none⟩ (.int .i64 ((nest : Int) + 1))).heap[w.heap.size + 1]? = some (.cells #[.int .u8 3, .int .i64 n, .string s, .slice pa l.length c, .int .i64 r] 29 (0, 0)) := by
                  rw [Below.heap_setCell wr ⟨lb, 1, none⟩ _ _ hne']
                  exact h4
                have hk := h3.trans (Keeps.setCell (S := fun b => b = lb) wr ⟨lb, 1, none⟩ (.int .i64 ((nest : Int) + 1)) rfl) (fun _ _ h => h) (fun _ _ h => h)
                exact SwR.turn (res := if chk n s r l.length then some q else none) ⟨g4, hk, g2, rfl⟩ (Nat.le_succ _) h6 3 (.slice none 0 0) rfl (by rw [Hr3.out, h1])
              clear h1 h2 h3 h4 h5 HL Hr3
              go_wp2_with fail
              go_meet
              case rel => exact ⟨_, _, _, _, _, _, _, HA⟩
    obtain ⟨n', s', r', pa', len', c', q, HR⟩ := hcut
    have hg := HR.out.1
    have c1 : wc.cell? ⟨w.heap.size + 1, 1, none⟩ = some (.int .i64 n') := by rw [cell_blk hg]; rfl
    have c2 : wc.cell? ⟨w.heap.size + 1, 2, none⟩ = some (.string s') := by rw [cell_blk hg]; rfl
    have c3 : wc.cell? ⟨w.heap.size + 1, 3, none⟩ = some (.slice pa' len' c') := by rw [cell_blk hg]; rfl
    have c4 : wc.cell? ⟨w.heap.size + 1, 4, none⟩ = some (.int .i64 r') := by rw [cell_blk hg]; rfl
    have HRR : Hid (∀ b, chk n' s' r' len' = b → TakeR w lb nest (takeV nest (p + 1) ⟨kind, n, s, l, r⟩) (.returned (.bool b)) wc) := fun b hb => by
      obtain ⟨-, h2, h3, h4⟩ := HR.out
      rw [h4, hb]
      cases b
      · exact ⟨rfl, h2, fun q h => by cases h⟩
      · exact ⟨rfl, h2, fun q h => by cases h; exact h3⟩
    clear hg HR HS Hlb IH HSW HB3 hsz2 k0 hpz hlt
    by_cases q1 : n' = 0
    rotate_left
    · have q1' : (n' == 0) = false := by simpa using q1
      have hq := HRR.out false (by simp [chk, q1'])
      clear q1
      go_wp2_with fail
      go_ret
      exact hq
    subst q1
    by_cases q2 : s' = ⟨#[]⟩
    rotate_left
    · have q2' : (s' == ⟨#[]⟩) = false := by
          cases h : s' == ⟨#[]⟩ with
          | true => exact absurd ((Go.MapKept.bytes_beq _ _).1 h) q2
          | false => rfl
      have hq := HRR.out false (by simp [chk, q2'])
      have q2l : ¬ s'.toList = [] := fun h => q2 (by
        rw [ByteArray.toList_eq] at h
        obtain ⟨⟨d⟩⟩ := s'
        simp only at h
        rw [h])
      clear q2
      go_wp2_with fail
      go_ret
      exact hq
    subst q2
    by_cases q3 : r' = 0
    rotate_left
    · have q3' : (r' == 0) = false := by simpa using q3
      have hq := HRR.out false (by simp [chk, q3'])
      clear q3
      go_wp2_with fail
      go_ret
      exact hq
    subst q3
    by_cases q4 : len' = 0
    rotate_left
    · have q4' : ((len' : Int) == 0) = false := by
        have : (len' : Int) ≠ 0 := by omega
        simpa using this
      have hq := HRR.out false (by simp [chk, q4])
      clear q4
      go_wp2_with fail
      go_ret
      exact hq
    subst q4
    have hq := HRR.out true rfl
    go_wp2_with fail
    go_ret
    exact hq
/-- Any value is measured. -/
theorem take_W (nest : Nat) : TakeC nest := by
  induction nest with
  | zero => exact take_step 0 (fun m h => by cases h)
  | succ n ih => exact take_step (n + 1) (fun m h => by cases h; exact ih)

def partsV (v : Val) : Nat := match takeV 16 512 v with | some q => 512 - q | none => 0
def mayV (v : Val) : Bool := (takeV 16 512 v).isSome
theorem partsV_none {v : Val} (h : takeV 16 512 v = none) : partsV v = 0 := by
  unfold partsV
  rw [h]
theorem partsV_some {v : Val} {q : Nat} (h : takeV 16 512 v = some q) : partsV v = 512 - q := by
  unfold partsV
  rw [h]
theorem partsV_pos (v : Val) : decide (partsV v > 0) = mayV v := by
  unfold partsV mayV
  cases h : takeV 16 512 v with
  | none => rfl
  | some q =>
    have := takeV_lt h
    simp
    omega
theorem partsV_le (v : Val) : partsV v ≤ 512 := by
  unfold partsV
  split <;> omega
variable {w : World} {F : Nat → Prop} {v : Val} {raw : Value}
set_option maxHeartbeats 1000000 in
set_option maxRecDepth 8000 in
theorem measure_W (hS : SlAt w F raw v.l) : Calls Tryz.prog 120 #[.agg (vcs v raw)] w fun e w' => e = .returned (.int .i64 (partsV v)) ∧ Below w.heap.size w w' := by
  obtain ⟨pa, c, rfl⟩ := hS.form
  obtain ⟨kind, n, s, l, r⟩ := v
  simp only [vcs]
  have HS := (show Hid (SlAt w F (Value.slice pa l.length c) l) from hS)
  clear hS
  go_enter Tryz.func120, Tryz.ntmps120
  go_wp2_with fail
  refine (take_W 16 512 ⟨kind, n, s, l, r⟩ (.slice pa l.length c) _ (w.heap.size + 1) (fun b => F b ∧ b < w.heap.size) (Nat.le_refl _) (Nat.le_refl _) (fun h => by have := h.2; omega) (HS.out.lt.on (((Below.refl _ _).alloc (Nat.le_refl _) _).alloc (by simp) _)) (blk2_new _ _ _)).mono ?_
  rintro e w1 ⟨rfl, hk, hq⟩
  have HB : Hid (Below w.heap.size w w1) := by
    refine (((Below.refl _ w).alloc (Nat.le_refl _) _).alloc (by simp) _).trans (hk.below ?_ (fun b e => by omega))
    simp
    omega
  clear hk HS
  cases hres : takeV 16 512 ⟨kind, n, s, l, r⟩ with
  | none =>
    have HP : Hid ((partsV ⟨kind, n, s, l, r⟩ : Int) = 0) := by
      rw [partsV_none hres]
      rfl
    clear hq
    go_wp2_with fail
    go_ret
    exact ⟨by rw [HP.out]; rfl, HB.out⟩
  | some q =>
    have hlt := takeV_lt hres
    have hg := hq q hres
    have d0 : w1.cell? ⟨w.heap.size + 1, 0, none⟩ = some (.int .i64 q) := by rw [cell_blk hg]; rfl
    have HP : Hid ((partsV ⟨kind, n, s, l, r⟩ : Int) = 512 - (q : Int)) := by
      rw [partsV_some hres]
      show ((512 - q : Nat) : Int) = 512 - (q : Int)
      omega
    clear hq hg
    go_wp2_with fail
    go_ret
    exact ⟨by rw [HP.out]; rfl, HB.out⟩
set_option maxHeartbeats 1000000 in
set_option maxRecDepth 8000 in
theorem vMay_G (hS : SlAt w F raw v.l) : Calls Tryz.prog 83 #[.agg (vcs v raw)] w fun e w' => e = .returned (.bool (mayV v)) ∧ Below w.heap.size w w' := by
  obtain ⟨pa, c, rfl⟩ := hS.form
  have hm := measure_W (w := w.alloc (.cells (vcs v (.slice pa v.l.length c)) 29)) (hS.on ((Below.refl _ _).alloc (Nat.le_refl _) _))
  obtain ⟨kind, n, s, l, r⟩ := v
  have HM := (show Hid _ from hm)
  clear hS hm
  simp only [vcs] at HM ⊢
  go_enter Tryz.func83, Tryz.ntmps83
  go_wp2_with fail
  refine Calls.mono HM.out ?_
  rintro e w1 ⟨rfl, hb⟩
  have HB : Hid (Below w.heap.size w w1) := ((Below.refl _ w).alloc (Nat.le_refl _) _).trans (hb.mono (by simp))
  have HP : Hid (mayV ⟨kind, n, s, l, r⟩ = decide (0 < partsV ⟨kind, n, s, l, r⟩)) := (partsV_pos ⟨kind, n, s, l, r⟩).symm
  clear hb HM
  go_wp2_with fail
  go_ret
  exact ⟨by rw [HP.out]; rfl, HB.out⟩
end Go.Proofs.YtifmifjbebpomaaGreatDoor
