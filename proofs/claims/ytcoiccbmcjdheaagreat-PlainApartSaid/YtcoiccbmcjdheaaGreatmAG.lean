/- A part of the proof, several texts in one: VOwn, SortLay. -/
import Derived.Test.YtcoiccbmcjdheaaGreatmAC
import Derived.Test.YtcoiccbmcjdheaaGreatmAD
import Derived.Test.YtcoiccbmcjdheaaGreatmAF
import Derived.Test.YtcoiccbmcjdheaaGreatmAA
import Derived.Test.YtcoiccbmcjdheaaGreatChecked
import Derived.Shelf.SortM.Plain
import Derived.Ground.SlgmProg
import Derived.Shelf.SlGeneric
/- value.own, Own of any value that may be. -/
namespace Go.Proofs.YtcoiccbmcjdheaaGreat
open Go.RowKit Go.ChangeMaps Go.MapKept

/-- How deep a value is at most; no list is long. -/
def depV : Nat → Val → Prop
  | 0, v => v.l = []
  | n + 1, v => v.l.length ≤ 512 ∧ ∀ x ∈ v.l, depV n x
theorem chk_len {n r : Int} {s : ByteArray} {len : Nat} (h : chk n s r len = true) : len = 0 := by
  simp [chk] at h
  exact h.2.2.2
theorem depV_nil {n : Nat} {v : Val} (h : v.l = []) : depV n v := by
  cases n with
  | zero => exact h
  | succ n =>
    show v.l.length ≤ 512 ∧ _
    rw [h]
    exact ⟨by simp, fun x hx => by cases hx⟩
theorem takeL_all {n : Nat} : ∀ {l : List Val} {p q : Nat}, takeL n p l = some q → ∀ x ∈ l, ∃ p' q', p' ≤ p ∧ takeV n p' x = some q'
  | [], _, _, _, _, hx => by cases hx
  | y :: l, p, q, h, x, hx => by
    simp only [takeL, List.foldlM_cons, bind, Option.bind_eq_some_iff] at h
    obtain ⟨a, h1, h2⟩ := h
    have ha := takeV_lt h1
    rcases List.mem_cons.1 hx with rfl | hx
    · exact ⟨p, a, Nat.le_refl _, h1⟩
    · obtain ⟨p', q', h3, h4⟩ := takeL_all h2 x hx
      exact ⟨p', q', by omega, h4⟩
theorem depV_of_take : ∀ {n p q : Nat} {v : Val}, p ≤ 512 → takeV n p v = some q → depV n v := by
  intro n
  induction n with
  | zero =>
    intro p q v hp h
    cases p with
    | zero => cases h
    | succ p =>
      by_cases h0 : v.kind = 0
      · rw [tk0 h0] at h
        split at h
        · exact List.length_eq_zero_iff.1 (chk_len (by assumption))
        · cases h
      by_cases h1 : v.kind = 1
      · rw [tk1 h1] at h
        split at h
        · exact List.length_eq_zero_iff.1 (chk_len (by assumption))
        · cases h
      by_cases h2 : v.kind = 2
      · rw [tk2 h2] at h
        repeat' split at h
        all_goals first
          | cases h; done
          | exact List.length_eq_zero_iff.1 (chk_len (by assumption))
      by_cases h4 : v.kind = 4
      · rw [tk4 h4] at h
        repeat' split at h
        all_goals first
          | cases h; done
          | exact List.length_eq_zero_iff.1 (chk_len (by assumption))
      by_cases h3 : v.kind = 3
      · rw [tk3z h3] at h
        cases h
      rw [tkx h0 h1 h2 h3 h4] at h
      cases h
  | succ n ih =>
    intro p q v hp h
    cases p with
    | zero => cases h
    | succ p =>
      by_cases h0 : v.kind = 0
      · rw [tk0 h0] at h
        split at h
        · exact depV_nil (List.length_eq_zero_iff.1 (chk_len (by assumption)))
        · cases h
      by_cases h1 : v.kind = 1
      · rw [tk1 h1] at h
        split at h
        · exact depV_nil (List.length_eq_zero_iff.1 (chk_len (by assumption)))
        · cases h
      by_cases h2 : v.kind = 2
      · rw [tk2 h2] at h
        repeat' split at h
        all_goals first
          | cases h; done
          | exact depV_nil (List.length_eq_zero_iff.1 (chk_len (by assumption)))
      by_cases h4 : v.kind = 4
      · rw [tk4 h4] at h
        repeat' split at h
        all_goals first
          | cases h; done
          | exact depV_nil (List.length_eq_zero_iff.1 (chk_len (by assumption)))
      by_cases h3 : v.kind = 3
      · by_cases hl : v.l.length > p
        · rw [tk3l h3 hl] at h
          cases h
        · rw [tk3 h3 hl] at h
          split at h
          · cases h
          · rename_i q' hq
            refine ⟨by omega, fun x hx => ?_⟩
            obtain ⟨p1, q1, h5, h6⟩ := takeL_all hq x hx
            exact ih (by omega) h6
      rw [tkx h0 h1 h2 h3 h4] at h
      cases h
theorem depV_may {v : Val} (h : mayV v = true) : depV 16 v := by
  unfold mayV at h
  obtain ⟨q, hq⟩ := Option.isSome_iff_exists.1 h
  exact depV_of_take (Nat.le_refl _) hq

/-! ### a row of values of one's own -/
def zV : Array Value := #[.int .u8 0, .int .i64 0, .string ⟨#[]⟩, .slice none 0 0, .int .i64 0]
theorem makeV_run (w : World) {n : Nat} (hn : n ≤ 1024) : (Instr.makeSlice 22 (.int .i64 (n : Int)) (.int .i64 (n : Int))).run Tryz.prog w = .ok (.slice (some ⟨w.heap.size, 0, none⟩) n n) (w.alloc (.cells (madeCells zV (n * 5)) 34)) := by
  obtain ⟨i, hi, hz', h1, h2⟩ := info_parts (show (Tryz.prog.info? 34).map (fun i => (i.zero, i.size, i.bytes)) = some (some (.agg zV), 5, 64) by kernel_rfl)
  have := run_makeSlice (P := Tryz.prog) w 22 34 i _ Tryz.underlying22 hi hz' .i64 .i64 n n (by omega) (Int.le_refl _) (by rw [h1]; omega) (by rw [h2]; omega) (by omega)
  rw [h1] at this
  simpa [Value.cells] using this
theorem stV_mid {w : World} {b i : Nat} {cs vs : Array Value} (h : w.heap[b]? = some (.cells cs 34 (0, 0))) (h5 : vs.size = 5) (hl : i + 5 ≤ cs.size) (h1 : vs.all (·.oneCell') = true) :
    (stV (.pointer (some ⟨b, i, none⟩)) (.agg vs)).run Tryz.prog w = .ok .skip (w.setRow b (cs.toList.take i ++ vs.toList ++ cs.toList.drop (i + 5)).toArray) := by
  have := run_storeCells_at (P := Tryz.prog) b i 34 vs.toList 0 cs w h (by simp; omega) (fun v hv => (Array.all_eq_true_iff_forall_mem.1 h1) v (by simpa using hv))
  have e5 : vs.toList.length = 5 := by simpa using h5
  rw [e5] at this
  simp only [Nat.add_zero] at this
  have hi := sizeValue
  simp only [stV, Instr.storeAt, Instr.sureAddr, Sem.run_bind, Sem.run_pure, Result.andThen]
  cases hq : Tryz.prog.info? 34 with
  | none => rw [hq] at hi; cases hi
  | some k =>
    have hs : vs.size = k.size := by rw [hq] at hi; simp at hi; omega
    simp [storeVar, sizeOf, typeInfo, hq, Value.cells, hs, this]
/-- The first i values of l stand in block g; what is in them lies in younger blocks. -/
def OwnP (w : World) (g : Nat) (l : List Val) (i : Nat) : Prop :=
  ∃ cur, w.heap[g]? = some (.cells cur 34 (0, 0)) ∧ cur.size = l.length * 5 ∧ ∃ raw : Nat → Value, ∀ j v, j < i → l[j]? = some v → (∀ k x, (vcs v (raw j))[k]? = some x → cur[j * 5 + k]? = some x) ∧ SlT w (fun b => g < b) (raw j) v.l
theorem OwnP.start (w : World) (l : List Val) : OwnP (w.alloc (.cells (madeCells zV (l.length * 5)) 34)) w.heap.size l 0 :=
  ⟨_, blk_new _ _, size_madeCells _ _, fun _ => undef, fun j v h => by omega⟩
theorem OwnP.below {w w' : World} {g : Nat} {l : List Val} {i : Nat} (h : OwnP w g l i) (hb : Below w.heap.size w w') : OwnP w' g l i := by
  obtain ⟨cur, h1, h2, raw, h3⟩ := h
  exact ⟨cur, below_blk hb h1, h2, raw, fun j v hj hv => ⟨(h3 j v hj hv).1, (h3 j v hj hv).2.on hb⟩⟩
theorem OwnP.next {w : World} {g : Nat} {l : List Val} {i : Nat} {x : Val} {rx : Value} (h : OwnP w g l i) (hx : l[i]? = some x) (hs : SlT w (fun b => g < b) rx x.l) :
    ∃ w', (stV (.pointer (some ⟨g, i * 5, none⟩)) (.agg (vcs x rx))).run Tryz.prog w = .ok .skip w' ∧ OwnP w' g l (i + 1) ∧ Keeps (fun b => b = g) w w' := by
  obtain ⟨cur, h1, h2, raw, h3⟩ := h
  have hil := (List.getElem?_eq_some_iff.1 hx).1
  obtain ⟨pa, c, rfl⟩ := hs.form
  have hst := stV_mid (vs := vcs x (.slice pa x.l.length c)) (i := i * 5) h1 rfl (by omega) (by simp [vcs, go_sem])
  have hother : ∀ k, k ≠ g → (w.setRow g (cur.toList.take (i * 5) ++ (vcs x (.slice pa x.l.length c)).toList ++ cur.toList.drop (i * 5 + 5)).toArray).heap[k]? = w.heap[k]? := fun k hk => heap_setRow_other w g _ k hk
  have hL : ∀ {s : Value} {m : List Val}, SlT w (fun b => g < b) s m → SlT (w.setRow g (cur.toList.take (i * 5) ++ (vcs x (.slice pa x.l.length c)).toList ++ cur.toList.drop (i * 5 + 5)).toArray) (fun b => g < b) s m := fun hs =>
    hs.of_blocks (Lists.of fun b hb => hother b (by omega)) (fun _ h => h)
  refine ⟨_, hst, ⟨_, heap_setRow_at h1, ?_, fun j => if j = i then .slice pa x.l.length c else raw j, fun j v hj hv => ?_⟩, ⟨rfl, rfl, rfl, by simp [World.setRow], fun k _ hk => hother k hk⟩⟩
  · simp [vcs]
    omega
  · by_cases e : j = i
    · subst e
      rw [hx] at hv
      cases hv
      simp only [if_true]
      refine ⟨fun k y hk => ?_, hL hs⟩
      have hk5 : k < 5 := by
        have := (Array.getElem?_eq_some_iff.1 hk).1
        simpa [vcs] using this
      rw [List.getElem?_toArray, List.append_assoc, List.getElem?_append_right (by simp; omega), List.getElem?_append_left (by simp [vcs]; omega)]
      have : j * 5 + k - (cur.toList.take (j * 5)).length = k := by simp; omega
      rw [this]
      simpa using hk
    · simp only [if_neg e]
      obtain ⟨h4, h5⟩ := h3 j v (by omega) hv
      refine ⟨fun k y hk => ?_, hL h5⟩
      have hk5 : k < 5 := by
        have := (Array.getElem?_eq_some_iff.1 hk).1
        simpa [vcs] using this
      rw [List.getElem?_toArray, List.append_assoc, List.getElem?_append_left (by simp; omega), List.getElem?_take, if_pos (by omega)]
      simpa using h4 k y hk
theorem OwnP.done {w : World} {g : Nat} {l : List Val} {B : Nat} (h : OwnP w g l l.length) (hB : B ≤ g) : SlT w (fun b => B ≤ b) (.slice (some ⟨g, 0, none⟩) l.length l.length) l := by
  obtain ⟨cur, h1, h2, raw, h3⟩ := h
  refine SlAt.mk _ _ _ raw (fun i v hv => ?_) (fun i v hv => ((h3 i v (List.getElem?_eq_some_iff.1 hv).1 hv).2.mono fun b hb => by omega))
  obtain ⟨h4, -⟩ := h3 i v (List.getElem?_eq_some_iff.1 hv).1 hv
  have e : ∀ k, 0 + 5 * i + k = i * 5 + k := fun k => by omega
  refine ⟨g, 0, rfl, ⟨hB, _, _, h1⟩, ?_, ?_, ?_, ?_, ?_⟩
  · rw [cell_blk h1, show 0 + 5 * i = i * 5 + 0 by omega]
    exact h4 0 _ rfl
  · rw [cell_blk h1, e]
    exact h4 1 _ rfl
  · rw [cell_blk h1, e]
    exact h4 2 _ rfl
  · rw [cell_blk h1, e]
    exact h4 3 _ rfl
  · rw [cell_blk h1, e]
    exact h4 4 _ rfl

theorem execOp_ldV23 (ρ : Operand → Value) (ty : TypeId) (pos : String) (af : Array Edge) (g : Option (Nat × Bool)) :
    execOp ρ { dst := some 23, op := .load 34 (.tmp 22), type := ty, pos := pos, after := af, guard := g } = ldV (ρ (.tmp 22)) := rfl
theorem execOp_stV27 (ρ : Operand → Value) (ty : TypeId) (pos : String) (af : Array Edge) (g : Option (Nat × Bool)) :
    execOp ρ { dst := none, op := .store 34 (.tmp 28) (.tmp 27), type := ty, pos := pos, after := af, guard := g } = stV (ρ (.tmp 28)) (ρ (.tmp 27)) := rfl
/-- In own's loop. -/
def OwR (w : World) (A : Array Value) (l : List Val) (i : Nat) (wr : World) : Prop :=
  Below w.heap.size w wr ∧ wr.heap[w.heap.size]? = some (.cells A 34 (0, 0)) ∧ wr.heap[w.heap.size + 1]? = some (.cells zV 34 (0, 0)) ∧ OwnP wr (w.heap.size + 2) l i
theorem execOp_ldV32 (ρ : Operand → Value) (ty : TypeId) (pos : String) (af : Array Edge) (g : Option (Nat × Bool)) :
    execOp ρ { dst := some 32, op := .load 34 (.tmp 1), type := ty, pos := pos, after := af, guard := g } = ldV (ρ (.tmp 1)) := rfl
theorem execOp_stV32 (ρ : Operand → Value) (ty : TypeId) (pos : String) (af : Array Edge) (g : Option (Nat × Bool)) :
    execOp ρ { dst := none, op := .store 34 (.tmp 2) (.tmp 32), type := ty, pos := pos, after := af, guard := g } = stV (ρ (.tmp 2)) (ρ (.tmp 32)) := rfl
theorem loadV_blk {w : World} {b : Nat} {c : Array Value} {e : TypeId} {fr : Nat × Nat} (hg : w.heap[b]? = some (.cells c e fr)) (hs : c.size = 5) : (ldV (.pointer (some ⟨b, 0, none⟩))).run Tryz.prog w = .ok (.value (.agg c)) w := by
  have := loadV_mid (w := w) (b := b) (o := 0) (cs := c.toList) (fun j v hj => by rw [Nat.zero_add, cell_blk hg]; simpa using hj) (by simpa using hs)
  simpa using this
theorem storeV_blk {w : World} {b : Nat} {c c' : Array Value} (hg : w.heap[b]? = some (.cells c 34 (0, 0))) (hs : c.size = 5) (hs' : c'.size = 5) (h1 : c'.all (·.oneCell') = true) :
    (stV (.pointer (some ⟨b, 0, none⟩)) (.agg c')).run Tryz.prog w = .ok .skip (w.setRow b c') := by
  have := run_storeAt_blk (P := Tryz.prog) hg (by rw [hs']; exact sizeValue) (by rw [hs, hs']) h1
  simp only [stV, Sem.run_bind, this, Result.andThen, Sem.run_pure]
def OwnC (n : Nat) : Prop := ∀ (v : Val) (raw : Value) (w : World) (F : Nat → Prop), depV n v → SlAt w F raw v.l → Calls Tryz.prog 44 #[.agg (vcs v raw)] w fun e w' =>
  ∃ raw', e = .returned (.agg (vcs v raw')) ∧ Below w.heap.size w w' ∧ SlT w' (fun b => w.heap.size ≤ b) raw' v.l ∧ (v.l = [] → raw' = .slice none 0 0)

attribute [local go_sem ↓] execOp_ldV23 execOp_stV27 execOp_ldV32 execOp_stV32 in
set_option maxHeartbeats 4000000 in
set_option maxRecDepth 20000 in
theorem own_step (n : Nat) (ih : ∀ m, n = m + 1 → OwnC m) : OwnC n := by
  intro v raw w F hd hS
  obtain ⟨pa, c, rfl⟩ := hS.form
  obtain ⟨kind, nn, s, l, r⟩ := v
  have IH := (show Hid _ from ih)
  have HD := (show Hid (depV n ⟨kind, nn, s, l, r⟩) from hd)
  have HS := (show Hid (SlAt w F (.slice pa l.length c) l) from hS)
  clear ih hd hS
  simp only [vcs]
  by_cases hl : l = []
  · subst hl
    go_enter Tryz.func44, Tryz.ntmps44
    go_wp2_with fail
    go_returns
    exact ⟨_, rfl, by go_grown, SlT.nil _ _ _ _, fun _ => rfl⟩
  · have hlz : ((l.length : Int) == 0) = false := by
      have : ¬ (l.length : Int) = 0 := fun e => hl (List.length_eq_zero_iff.1 (by omega))
      simpa using this
    obtain ⟨m, rfl⟩ : ∃ m, n = m + 1 := by
      cases n with
      | zero => exact absurd HD.out hl
      | succ m => exact ⟨m, rfl⟩
    have hl512 : l.length ≤ 512 := HD.out.1
    have HN := (show Hid (¬ l = []) from hl)
    clear hl
    have hmk := makeV_run ((w.alloc (.cells #[.int .u8 kind, .int .i64 nn, .string s, .slice pa l.length c, .int .i64 r] 34)).alloc (.cells zV 34)) (show l.length ≤ 1024 by omega)
    simp only [zV] at hmk
    go_enter Tryz.func44, Tryz.ntmps44
    go_wp2_with fail
    have HR : Hid (OwR w #[.int .u8 kind, .int .i64 nn, .string s, .slice pa l.length c, .int .i64 r] l 0 (((w.alloc (.cells #[.int .u8 kind, .int .i64 nn, .string s, .slice pa l.length c, .int .i64 r] 34)).alloc (.cells zV 34)).alloc (.cells (madeCells zV (l.length * 5)) 34))) := by
      refine ⟨(((Below.refl _ _).alloc (Nat.le_refl _) _).alloc (by simp) _).alloc (by simp; omega) _, blk_old _ _ (blk2_old _ _ _), blk_old _ _ (blk2_new _ _ _), ?_⟩
      have := OwnP.start ((w.alloc (.cells #[.int .u8 kind, .int .i64 nn, .string s, .slice pa l.length c, .int .i64 r] 34)).alloc (.cells zV 34)) l
      simpa using this
    simp only [zV] at HR
    revert HR
    generalize ((w.alloc _).alloc _).alloc _ = w3
    intro HR
    clear hmk
    go_loopw [19] (fun vi wr => ∃ i : Nat, vi = .int .i64 i ∧ i ≤ l.length ∧ Hid (OwR w #[.int .u8 kind, .int .i64 nn, .string s, .slice pa l.length c, .int .i64 r] l i wr)) (fun vi _ => l.length - (intOf vi).toNat)
    case atStart => exact ⟨0, rfl, by omega, HR⟩
    case round =>
      clear HR
      obtain ⟨i, rfl, hi, HR⟩ := hrel
      by_cases hil : i < l.length
      · obtain ⟨x, hx⟩ : ∃ x, l[i]? = some x := ⟨_, List.getElem?_eq_getElem hil⟩
        obtain ⟨b, o, c', raw, hpe, hrg, -, -, hSx⟩ := (HS.out.on HR.out.1).range hx
        cases hpe
        obtain ⟨xk, xn, xs, xl, xr⟩ := x
        obtain ⟨pa2, c2, rfl⟩ := hSx.form
        have hld0 := loadV_mid hrg rfl
        have hld : (ldV (.pointer (some ⟨b, o + i * 5, none⟩))).run Tryz.prog wr = .ok (.value (.agg #[.int .u8 xk, .int .i64 xn, .string xs, .slice pa2 xl.length c2, .int .i64 xr])) wr := hld0
        have hiz : (i : Int) < (l.length : Int) := by omega
        have HX := (show Hid (l[i]? = some ⟨xk, xn, xs, xl, xr⟩) from hx)
        have HSX := (show Hid (SlAt wr F (.slice pa2 xl.length c2) xl) from hSx)
        have hdx := HD.out.2 ⟨xk, xn, xs, xl, xr⟩ (List.mem_of_getElem? hx)
        have HDX := (show Hid (depV m ⟨xk, xn, xs, xl, xr⟩) from hdx)
        clear hld0 hx hrg hSx hdx
        go_wp2_with fail
        refine (IH.out m rfl ⟨xk, xn, xs, xl, xr⟩ (.slice pa2 xl.length c2) _ F HDX.out (HSX.out.on ((Below.refl _ _).alloc (Nat.le_refl _) _))).mono ?_
        rintro e w5 ⟨raw', rfl, hb5, hs5, -⟩
        obtain ⟨h1, h2, h3, h4⟩ := HR.out
        have hbb : Below wr.heap.size wr w5 := ((Below.refl _ _).alloc (Nat.le_refl _) _).trans (hb5.mono (by simp))
        have hg : w.heap.size + 2 < wr.heap.size := by
          obtain ⟨cur, h5, -⟩ := h4
          exact blk_lt h5
        obtain ⟨w6, hst0, hP6, hk6⟩ := (h4.below hbb).next HX.out (hs5.mono fun y hy => by simp at hy; omega)
        have hst : (stV (.pointer (some ⟨w.heap.size + 1 + 1, i * 5, none⟩)) (.agg (vcs ⟨xk, xn, xs, xl, xr⟩ raw'))).run Tryz.prog w5 = .ok .skip w6 := hst0
        have hB5 := h1.trans (hbb.mono h1.size)
        have HR6 : Hid (OwR w #[.int .u8 kind, .int .i64 nn, .string s, .slice (some ⟨b, o, none⟩) l.length c, .int .i64 r] l (i + 1) w6) := by
          refine ⟨hB5.trans (hk6.below hB5.size (fun y hy => by omega)), ?_, ?_, hP6⟩
          · rw [hk6.block _ (by have := hbb.size; omega) (by omega)]
            exact below_blk hbb h2
          · rw [hk6.block _ (by have := hbb.size; omega) (by omega)]
            exact below_blk hbb h3
        clear h1 h2 h3 h4 hbb hP6 hk6 hst0 hB5 hb5 hs5 HR HX HSX HDX hld
        go_wp2_with fail
        go_roundw
        case rel => exact ⟨i + 1, by go_num, by omega, HR6⟩
        case measure =>
          simp [intOf]
          omega
      · have hiz : ¬ (i : Int) < (l.length : Int) := by omega
        obtain rfl : i = l.length := by omega
        obtain ⟨h1, h2, h3, h4⟩ := HR.out
        have a3 : wr.cell? ⟨w.heap.size, 3, none⟩ = some (.slice pa l.length c) := by rw [cell_blk h2]; rfl
        have f3 := frozen_blk h2 3
        have h5 : (wr.setCell ⟨w.heap.size, 3, none⟩ (.slice (some ⟨w.heap.size + 1 + 1, 0, none⟩) l.length l.length)).heap[w.heap.size]? = some (.cells #[.int .u8 kind, .int .i64 nn, .string s, .slice (some ⟨w.heap.size + 1 + 1, 0, none⟩) l.length l.length, .int .i64 r] 34 (0, 0)) := by
          rw [blk_setCell h2]
          rfl
        have h6 : (wr.setCell ⟨w.heap.size, 3, none⟩ (.slice (some ⟨w.heap.size + 1 + 1, 0, none⟩) l.length l.length)).heap[w.heap.size + 1]? = some (.cells zV 34 (0, 0)) := by
          rw [Below.heap_setCell wr ⟨w.heap.size, 3, none⟩ _ _ (by simp)]
          exact h3
        have hld := loadV_blk h5 rfl
        have hst := storeV_blk (c' := #[.int .u8 kind, .int .i64 nn, .string s, .slice (some ⟨w.heap.size + 1 + 1, 0, none⟩) l.length l.length, .int .i64 r]) h6 rfl rfl (by simp [go_sem])
        have HF : Hid (∀ w9, w9 = (wr.setCell ⟨w.heap.size, 3, none⟩ (.slice (some ⟨w.heap.size + 1 + 1, 0, none⟩) l.length l.length)).setRow (w.heap.size + 1) #[.int .u8 kind, .int .i64 nn, .string s, .slice (some ⟨w.heap.size + 1 + 1, 0, none⟩) l.length l.length, .int .i64 r] →
            w9.heap[w.heap.size + 1]? = some (.cells #[.int .u8 kind, .int .i64 nn, .string s, .slice (some ⟨w.heap.size + 1 + 1, 0, none⟩) l.length l.length, .int .i64 r] 34 (0, 0)) ∧ Below w.heap.size w w9 ∧ SlT w9 (fun b => w.heap.size ≤ b) (.slice (some ⟨w.heap.size + 1 + 1, 0, none⟩) l.length l.length) l) := by
          intro w9 e
          subst e
          have hk : Keeps (fun b => b = w.heap.size ∨ b = w.heap.size + 1) wr ((wr.setCell ⟨w.heap.size, 3, none⟩ (.slice (some ⟨w.heap.size + 1 + 1, 0, none⟩) l.length l.length)).setRow (w.heap.size + 1) #[.int .u8 kind, .int .i64 nn, .string s, .slice (some ⟨w.heap.size + 1 + 1, 0, none⟩) l.length l.length, .int .i64 r]) := by
            refine ⟨rfl, rfl, rfl, by simp [World.setRow, World.setCell], fun k _ hk => ?_⟩
            rw [heap_setRow_other _ _ _ _ (fun e => hk (.inr e)), Below.heap_setCell wr ⟨w.heap.size, 3, none⟩ _ _ (fun e => hk (.inl e))]
          refine ⟨heap_setRow_at h6, h1.trans (hk.below h1.size fun b hb => by omega), ?_⟩
          refine (h4.done (B := w.heap.size + 2) (Nat.le_refl _)).of_blocks (Lists.of fun b hb => ?_) (fun b hb => by omega)
          have : w.heap.size + 2 ≤ b := hb
          rw [heap_setRow_other _ _ _ _ (by omega), Below.heap_setCell wr ⟨w.heap.size, 3, none⟩ _ _ (by simp; omega)]
        clear h1 h2 h3 h4 h5 h6 HR
        go_wp2_with fail
        obtain ⟨hg, hb, hs⟩ := HF.out _ rfl
        revert hg hb hs
        generalize World.setRow _ _ _ = w9
        intro hg hb hs
        obtain ⟨⟨c0, c1, c2, c3, c4⟩, -⟩ := cells5 hg
        refine bodyPost_ret (v := .agg #[.int .u8 kind, .int .i64 nn, .string s, .slice (some ⟨w.heap.size + 1 + 1, 0, none⟩) l.length l.length, .int .i64 r]) (by simp [results, Tryz.results44, go_sem, c0, c1, c2, c3, c4]) rfl ⟨_, rfl, hb, hs, fun e => absurd e HN.out⟩
/-- Any value of its own. -/
theorem own_W (n : Nat) : OwnC n := by
  induction n with
  | zero => exact own_step 0 (fun m h => by cases h)
  | succ n ih => exact own_step (n + 1) (fun m h => by cases h; exact ih)

theorem execOp_stV9 (ρ : Operand → Value) (ty : TypeId) (pos : String) (af : Array Edge) (g : Option (Nat × Bool)) :
    execOp ρ { dst := none, op := .store 34 (.tmp 2) (.tmp 9), type := ty, pos := pos, after := af, guard := g } = stV (ρ (.tmp 2)) (ρ (.tmp 9)) := rfl
/-- What is handed back in a value's own memory. -/
def OwnQ (w : World) (v : Val) (raw' : Value) (w' : World) : Prop := Below w.heap.size w w' ∧ SlT w' (fun b => w.heap.size ≤ b) raw' v.l ∧ (v.l = [] → raw' = .slice none 0 0)
attribute [local go_sem ↓] execOp_stV9 in
set_option maxHeartbeats 1000000 in
set_option maxRecDepth 8000 in
theorem vOwn_G {w : World} {F : Nat → Prop} {v : Val} {raw : Value} (hS : SlAt w F raw v.l) (hm : mayV v = true) : Calls Tryz.prog 79 #[.agg (vcs v raw)] w fun e w' =>
    ∃ raw', e = .returned (.tuple #[.agg (vcs v raw'), .int .i64 0]) ∧ OwnQ w v raw' w' := by
  obtain ⟨pa, c, rfl⟩ := hS.form
  have hM := vMay_G (w := (w.alloc (.cells (vcs v (.slice pa v.l.length c)) 34)).alloc (.cells zV 34)) (hS.on (((Below.refl _ _).alloc (Nat.le_refl _) _).alloc (by simp) _))
  have hd := depV_may hm
  rw [hm] at hM
  obtain ⟨kind, n, s, l, r⟩ := v
  have HS := (show Hid (SlAt w F (.slice pa l.length c) l) from hS)
  have HD := (show Hid (depV 16 ⟨kind, n, s, l, r⟩) from hd)
  have HM := (show Hid _ from hM)
  clear hS hm hM hd
  simp only [vcs, zV] at HM ⊢
  go_enter Tryz.func79, Tryz.ntmps79
  go_wp2_with fail
  refine Calls.mono HM.out ?_
  rintro e w1 ⟨rfl, hb1⟩
  have hA := below_blk hb1 (blk2_old w _ _)
  have hZ := below_blk hb1 (blk2_new w _ _)
  obtain ⟨⟨a0, a1, a2, a3, a4⟩, -⟩ := cells5 hA
  have HZ := (show Hid (w1.heap[w.heap.size + 1]? = some (.cells zV 34 (0, 0))) from hZ)
  have HB : Hid (Below w.heap.size w w1) := (((Below.refl _ _).alloc (Nat.le_refl _) _).alloc (by simp) _).trans (hb1.mono (by simp; omega))
  clear hb1 hA hZ HM
  go_wp2_with fail
  refine (own_W 16 ⟨kind, n, s, l, r⟩ (.slice pa l.length c) _ F HD.out (HS.out.on HB.out)).mono ?_
  rintro e w2 ⟨raw', rfl, hb2, hs2, hn2⟩
  obtain ⟨pa2, c2, rfl⟩ := hs2.form
  have hZ2 := below_blk hb2 HZ.out
  have hst0 := storeV_blk (c' := vcs ⟨kind, n, s, l, r⟩ (.slice pa2 l.length c2)) hZ2 rfl rfl (by simp [vcs, go_sem])
  have HF : Hid ((w2.setRow (w.heap.size + 1) (vcs ⟨kind, n, s, l, r⟩ (.slice pa2 l.length c2))).heap[w.heap.size + 1]? = some (.cells (vcs ⟨kind, n, s, l, r⟩ (.slice pa2 l.length c2)) 34 (0, 0)) ∧ OwnQ w ⟨kind, n, s, l, r⟩ (.slice pa2 l.length c2) (w2.setRow (w.heap.size + 1) (vcs ⟨kind, n, s, l, r⟩ (.slice pa2 l.length c2)))) := by
    have hz := blk_lt HZ.out
    refine ⟨heap_setRow_at hZ2, Below.setRow (HB.out.trans (hb2.mono HB.out.size)) (Nat.le_succ _) _, ?_, hn2⟩
    exact hs2.of_blocks (Lists.of fun b hb => heap_setRow_other _ _ _ _ (by omega)) (fun b hb => by omega)
  have hst := hst0
  clear hb2 hs2 hn2 hZ2 hst0 HZ
  revert hst HF
  generalize w2.setRow _ _ = w3
  intro HF hst
  go_wp2_with fail
  obtain ⟨hg, hq⟩ := HF.out
  obtain ⟨⟨d0, d1, d2, d3, d4⟩, -⟩ := cells5 hg
  refine bodyPost_ret (v := .tuple #[.agg #[.int .u8 kind, .int .i64 n, .string s, .slice pa2 l.length c2, .int .i64 r], .int .i64 0]) (by simp [results, Tryz.results79, go_sem, d0, d1, d2, d3, d4]) rfl ⟨_, rfl, hq⟩
theorem OwnQ.start {w w1 : World} {v : Val} {raw : Value} {o1 o2 : Obj} (h : OwnQ ((w.alloc o1).alloc o2) v raw w1) : OwnQ w v raw w1 := by
  obtain ⟨h1, h2, h3⟩ := h
  exact ⟨(((Below.refl _ _).alloc (Nat.le_refl _) _).alloc (by simp) _).trans (h1.mono (by simp; omega)), h2.mono fun b hb => by simp at hb; omega, h3⟩
theorem OwnQ.on {w w1 w2 : World} {v : Val} {raw : Value} (h : OwnQ w v raw w1) (hb : Below w1.heap.size w1 w2) : OwnQ w v raw w2 := ⟨h.1.trans (hb.mono h.1.size), h.2.1.on hb, h.2.2⟩
theorem OwnQ.setRow {w w1 : World} {v : Val} {raw : Value} (h : OwnQ w v raw w1) {b : Nat} (hb : w.heap.size ≤ b) (hF : SlT w1 (fun x => w.heap.size ≤ x ∧ x ≠ b) raw v.l) (c : Array Value) : OwnQ w v raw (w1.setRow b c) :=
  ⟨Below.setRow h.1 hb c, hF.of_blocks (Lists.of fun _ hx => heap_setRow_other _ _ _ _ hx.2) (fun _ hx => hx.1), h.2.2⟩
theorem execOp_stV10 (ρ : Operand → Value) (ty : TypeId) (pos : String) (af : Array Edge) (g : Option (Nat × Bool)) :
    execOp ρ { dst := none, op := .store 34 (.tmp 2) (.tmp 10), type := ty, pos := pos, after := af, guard := g } = stV (ρ (.tmp 2)) (ρ (.tmp 10)) := rfl
attribute [local go_sem ↓] execOp_stV10 in
set_option maxHeartbeats 1600000 in
set_option maxRecDepth 8000 in
theorem wown_G {w : World} {F : Nat → Prop} {v : Val} {raw : Value} (hS : SlAt w F raw v.l) (hm : mayV v = true) : Calls Tryz.prog 54 #[.agg (vcs v raw)] w fun e w' =>
    ∃ raw', e = .returned (.agg (vcs v raw')) ∧ OwnQ w v raw' w' := by
  obtain ⟨pa, c, rfl⟩ := hS.form
  have hM := vOwn_G (w := (w.alloc (.cells (vcs v (.slice pa v.l.length c)) 34)).alloc (.cells zV 34)) (hS.on (((Below.refl _ _).alloc (Nat.le_refl _) _).alloc (by simp) _)) hm
  obtain ⟨kind, n, s, l, r⟩ := v
  have HM := (show Hid _ from hM)
  clear hS hm hM
  simp only [vcs, zV] at HM ⊢
  go_enter Tryz.func54, Tryz.ntmps54
  go_wp2_with fail
  refine Calls.mono HM.out ?_
  rintro e w1 ⟨raw', rfl, hq⟩
  have hF : SlT w1 (fun x => w.heap.size ≤ x ∧ x ≠ w.heap.size + 1) raw' l := hq.2.1.mono fun b hb => by simp at hb; omega
  obtain ⟨pa2, c2, rfl⟩ := hF.form
  have hZ := below_blk hq.1 (blk2_new w _ _)
  have HZ := (show Hid (w1.heap[w.heap.size + 1]? = some (.cells zV 34 (0, 0))) from hZ)
  have HQ := (show Hid (OwnQ w ⟨kind, n, s, l, r⟩ (.slice pa2 l.length c2) w1) from hq.start)
  have HFF := (show Hid (SlT w1 (fun x => w.heap.size ≤ x ∧ x ≠ w.heap.size + 1) (.slice pa2 l.length c2) l) from hF)
  have hz := blk_lt hZ
  have hst := storeV_blk (c' := #[.int .u8 kind, .int .i64 n, .string s, .slice pa2 l.length c2, .int .i64 r]) (blk_old w1 (.cells #[.int .u8 kind, .int .i64 n, .string s, .slice pa2 l.length c2, .int .i64 r] 34) hZ) rfl rfl (by simp [go_sem])
  have HF : Hid (((w1.alloc (.cells #[.int .u8 kind, .int .i64 n, .string s, .slice pa2 l.length c2, .int .i64 r] 34)).setRow (w.heap.size + 1) #[.int .u8 kind, .int .i64 n, .string s, .slice pa2 l.length c2, .int .i64 r]).heap[w.heap.size + 1]? = some (.cells #[.int .u8 kind, .int .i64 n, .string s, .slice pa2 l.length c2, .int .i64 r] 34 (0, 0)) ∧
      OwnQ w ⟨kind, n, s, l, r⟩ (.slice pa2 l.length c2) ((w1.alloc (.cells #[.int .u8 kind, .int .i64 n, .string s, .slice pa2 l.length c2, .int .i64 r] 34)).setRow (w.heap.size + 1) #[.int .u8 kind, .int .i64 n, .string s, .slice pa2 l.length c2, .int .i64 r])) :=
    ⟨heap_setRow_at (blk_old w1 _ hZ), (HQ.out.on ((Below.refl _ _).alloc (Nat.le_refl _) _)).setRow (Nat.le_succ _) (hF.on ((Below.refl _ _).alloc (Nat.le_refl _) _)) _⟩
  clear hq hF hZ HM
  go_wp2_with fail
  obtain ⟨hg, hq⟩ := HF.out
  obtain ⟨⟨d0, d1, d2, d3, d4⟩, -⟩ := cells5 hg
  refine bodyPost_ret (v := .agg #[.int .u8 kind, .int .i64 n, .string s, .slice pa2 l.length c2, .int .i64 r]) (by simp [results, Tryz.results54, go_sem, d0, d1, d2, d3, d4]) rfl ⟨_, rfl, hq⟩
end Go.Proofs.YtcoiccbmcjdheaaGreat
/- The contract of slices.Sort, laid at the references. -/
namespace Go.Proofs.YtcoiccbmcjdheaaGreat
open Go.Shelf


end Go.Proofs.YtcoiccbmcjdheaaGreat
