/- A part of the proof, several texts in one: NewW, Range, CopyA. -/
import Derived.Test.YtifmifjbebpomaaGreatDoormAD
import Derived.Deep.QuietTactic
import Derived.BigQuiet
import Derived.Test.YtifmifjbebpomaaGreatDoormAA
import Derived.Test.YtifmifjbebpomaaGreatDoormAC
/- New: the walk. -/
namespace Go.Proofs.YtifmifjbebpomaaGreatDoor
open Go.RowKit Go.ChangeMaps Go.MapKept

def NewPost (w : World) (xs : List Int) (e : Ending) (w' : World) : Prop :=
  (TreeOk xs ∧ ∃ p F, e = .returned (.tuple #[.pointer (some ⟨p, 0, none⟩), .int .i64 0]) ∧ IsW w' p (WM.new xs) F ∧ (∀ b, F b → w.heap.size ≤ b) ∧ Below w.heap.size w w') ∨
  (¬ TreeOk xs ∧ e = .returned (.tuple #[.pointer none, .int .i64 71]) ∧ w' = w)

def SideArg (w : World) (pa : Option Addr) (xs : List Int) : Prop :=
  xs = [] ∨ ∃ b o, pa = some ⟨b, o, none⟩ ∧ ∀ (j : Nat) (x : Int), xs[j]? = some x → w.cell? ⟨b, o + j, none⟩ = some (.int .i64 x)

structure NInv (w0 : World) (v : Value) (xs : List Int) (L : Array Bool) (a : Act) (w : World) : Prop where
  sz : L.size = 12
  ts : a.tmps.size = 38
  df : a.defers = []
  ni : NI w0 v xs (fun j => L.getD j false) (fun k => a.tmps.getD k undef) w

theorem NInv.put {w0 : World} {v : Value} {xs : List Int} {L : Array Bool} {a : Act} {w : World} (h : NInv w0 v xs L a w) {w' : World} {i d : Nat} {x : Value} (hd : d < 38) (hi : i < 12)
    (hn : NI w0 v xs (upd (fun j => L.getD j false) i true) (upd (fun k => a.tmps.getD k undef) d x) w') : NInv w0 v xs (L.setIfInBounds i true) (a.put (some d) x) w' where
  sz := by simp [h.sz]
  ts := by simp [Act.put, h.ts]
  df := by simpa [Act.put] using h.df
  ni := by
    have e1 : (fun j => (L.setIfInBounds i true).getD j false) = upd (fun j => L.getD j false) i true := by
      funext j
      have := h.sz
      by_cases hj : j = i
      · subst hj
        simp [upd, Array.getD, this, hi]
      · have : ¬ i = j := fun e => hj e.symm
        simp only [upd, if_neg hj, Array.getD_eq_getD_getElem?, Array.getElem?_setIfInBounds, if_neg this]
    have e2 : (fun k => (a.put (some d) x).tmps.getD k undef) = upd (fun k => a.tmps.getD k undef) d x := by
      funext j
      have := h.ts
      by_cases hj : j = d
      · subst hj
        simp [upd, Act.put, Array.getD, this, hd]
      · have : ¬ d = j := fun e => hj e.symm
        simp only [upd, Act.put, if_neg hj, Array.getD_eq_getD_getElem?, Array.getElem?_setIfInBounds, if_neg this]
    rw [e1, e2]
    exact hn

theorem ord_of {ops : Array Oper} (h : (ops.toList.zipIdx.all fun x => x.1.after.all fun e => decide (e.on < x.2)) = true) : ∀ (i : Nat) (o : Oper), ops[i]? = some o → ∀ e ∈ o.after, e.on < i := by
  intro i o ho e he
  rw [List.all_eq_true] at h
  have := h (o, i) (by
    rw [List.mem_zipIdx_iff_getElem?]
    simpa using ho)
  simp only [Array.all_eq_true_iff_forall_mem] at this
  simpa using this e he

theorem getD_tf {L : Array Bool} {i : Nat} (h : L.getD i true = false) : L.getD i false = false := by
  rw [Array.getD_eq_getD_getElem?] at h ⊢
  cases hx : L[i]? with
  | none => rfl
  | some b => rw [hx] at h; exact h

theorem cell_below {w w' : World} (hb : Below w.heap.size w w') {a : Addr} {v : Value} (h : w.cell? a = some v) : w'.cell? a = some v := by
  have : a.block < w.heap.size := by
    unfold World.cell? at h
    cases ho : w.heap[a.block]? with
    | none => simp [ho] at h
    | some o => exact blk_lt ho
  exact (hb.cell this).trans h

theorem make_run {e t : TypeId} {z : Value} {bytes : Nat} (w : World) (hinfo : (Tryz.prog.info? e).map (fun i => (i.zero, i.size, i.bytes)) = some (some z, 1, bytes)) (ht : Tryz.prog.underlying t = some (.slice e)) (hb : bytes ≤ 64)
    {n : Nat} (hn : n ≤ 16) (hz : z.cells = #[z] := by rfl) : (Instr.makeSlice t (.int .i64 (n : Int)) (.int .i64 (n : Int))).run Tryz.prog w = .ok (.slice (some ⟨w.heap.size, 0, none⟩) n n) (w.alloc (.cells (madeCells #[z] n) e)) := by
  obtain ⟨i, hi, hz', h1, h2⟩ := info_parts hinfo
  have := run_makeSlice (P := Tryz.prog) w t e i z ht hi hz' .i64 .i64 n n (by omega) (Int.le_refl _) (by rw [h1]; omega) (by
    rw [h2]
    have : bytes * n ≤ 64 * 16 := Nat.mul_le_mul hb hn
    have h3 : ((bytes * n : Nat) : Int) ≤ 1024 := by omega
    rw [Int.natCast_mul] at h3
    omega) (by omega)
  rw [h1, hz] at this
  simpa using this

theorem nsides_of {w0 w1 w2 : World} {v : Value} {xs : List Int} (hv : w2.ownsRow w1.heap.size 23 1 v xs.length (xs.map (Value.int .i64))) (h : w0.heap.size ≤ w1.heap.size) : NSides w0 xs v w2 := by
  obtain ⟨-, ⟨rfl, h0⟩ | ⟨g, cap, cur, rfl, h1, h2, h3, h4, h5, h6⟩⟩ := hv
  · have : xs = [] := List.length_eq_zero_iff.1 h0
    subst this
    exact ⟨none, 0, rfl, fun j x hx => by simp at hx⟩
  · refine ⟨some ⟨g, 0, none⟩, cap, rfl, fun j x hx => ⟨g, 0, rfl, by omega, blk_lt h2, ⟨_, _, h2⟩, ?_⟩⟩
    rw [cell_blk h2, Nat.zero_add]
    have hj := (List.getElem?_eq_some_iff.1 hx).1
    have e : (cur.toList.take (xs.length * 1))[j]? = (xs.map (Value.int .i64))[j]? := by rw [h6]
    rw [List.getElem?_take, if_pos (by omega), List.getElem?_map, hx] at e
    simpa using e

set_option maxHeartbeats 1000000 in
set_option maxRecDepth 8000 in
theorem New_W (w : World) (pa : Option Addr) (c : Nat) (xs : List Int) (hpa : SideArg w pa xs) : Calls Tryz.prog 17 #[.slice pa xs.length c] w (NewPost w xs) := by
  have Hpa := (show Hid (SideArg w pa xs) from hpa)
  clear hpa
  obtain ⟨n, hn⟩ : ∃ n, n = xs.length := ⟨_, rfl⟩
  have Hn := (show Hid (n = xs.length) from hn)
  rw [← hn]
  clear hn
  by_cases h16 : 16 ≤ n
  · have h16' : (16 : Int) ≤ (n : Int) := by omega
    go_enter Tryz.func17, Tryz.ntmps17
    go_wp2_with fail
    go_ret2
    exact .inr ⟨fun h => by have := h.1; have := Hn.out; omega, rfl, rfl⟩
  · have h16' : ¬ (16 : Int) ≤ (n : Int) := by omega
    go_enter Tryz.func17, Tryz.ntmps17
    go_wp2_with fail
    go_loop [12] (fun vi => ∃ k : Nat, vi = .int .i64 k ∧ k ≤ n ∧ Hid (∀ (j : Nat) (p : Int), j < k → xs[j]? = some p → 0 ≤ p ∧ p ≤ j)) (fun vi => n - (intOf vi).toNat)
    case atStart => exact ⟨0, rfl, Nat.zero_le _, fun j p h => by omega⟩
    case round =>
      obtain ⟨k, rfl, hkn, Hk⟩ := hrel
      by_cases hk : k < n
      · obtain ⟨x, hx⟩ : ∃ x, xs[k]? = some x := ⟨_, List.getElem?_eq_getElem (by have := Hn.out; omega)⟩
        have Hx := (show Hid (xs[k]? = some x) from hx)
        obtain ⟨b, o, rfl, hc⟩ : ∃ b o, pa = some ⟨b, o, none⟩ ∧ w.cell? ⟨b, o + k, none⟩ = some (.int .i64 x) := by
          rcases Hpa.out with rfl | ⟨b, o, h1, h2⟩
          · simp at hx
          · exact ⟨b, o, h1, h2 k x hx⟩
        clear hx
        have hkz : (k : Int) < (n : Int) := by omega
        by_cases hx0 : x < 0
        · go_wp2_with fail
          go_ret2
          exact .inr ⟨fun h => by have h2 := h.2 k x Hx.out; omega, rfl, rfl⟩
        · by_cases hxk : (k : Int) < x
          · go_wp2_with fail
            go_ret2
            exact .inr ⟨fun h => by have h2 := h.2 k x Hx.out; omega, rfl, rfl⟩
          · go_wp2_with fail
            go_round
            case rel =>
              refine ⟨k + 1, by go_num, by omega, fun j p hj hp => ?_⟩
              rcases Nat.lt_succ_iff_lt_or_eq.1 hj with h | rfl
              · exact Hk.out j p h hp
              · have := Hx.out
                rw [this] at hp
                cases hp
                exact ⟨by omega, by omega⟩
            case measure => simp [intOf]; omega
      · have htree : Hid (TreeOk xs) := ⟨by have := Hn.out; omega, fun i p hp => Hk.out i p (by
          have := (List.getElem?_eq_some_iff.1 hp).1
          have := Hn.out
          omega) hp⟩
        clear Hk
        go_wp2_with fail
        refine wp_region_inv (by kernel_rfl) (NInv w (.slice pa n c) xs) (ord_of (by kernel_rfl)) ?_ ?_ ?_
        · refine ⟨rfl, rfl, rfl, ?_⟩
          have hn := Hn.out
          subst hn
          constructor <;> first | exact (Below.refl _ _).drew | rfl | (intro h; cases h)
        · rintro L a w1 i o hI ho hL hdep
          have hi : i < 12 := (Array.getElem?_eq_some_iff.1 ho).1
          have hG : L.getD i false = false := getD_tf hL
          have hn := Hn.out
          match i, hi with
          | 0, _ =>
            simp only [List.getElem?_toArray, List.getElem?_cons_zero, Option.some.injEq] at ho
            subst ho
            simp only [Region.wanted, ↓reduceIte]
            exact hI.put (i := 0) (d := 28) (by decide) (by decide) (NI.step hI.ni 0 28 _ hG rfl (by decide) (fun _ => hI.ni.a0) (fun h => absurd h (by decide)) (fun h => absurd h (by decide)) (fun h => absurd h (by decide)) (fun h => absurd h (by decide)) (fun h => absurd h (by decide)) (fun h => absurd h (by decide)) (fun h => absurd h (by decide)) (fun h => absurd h (by decide)) (fun h => absurd h (by decide)) (fun h => absurd h (by decide)) (fun h => absurd h (by decide)))
          | 1, _ =>
            simp only [List.getElem?_toArray, List.getElem?_cons_zero, List.getElem?_cons_succ, Option.some.injEq] at ho
            subst ho
            simp only [Region.wanted, ↓reduceIte]
            have g0 : L.getD 0 false = true := hdep ⟨0, .data⟩ (by simp) rfl
            have h28 : a.tmps.getD 28 undef = .slice pa n c := hI.ni.k0 g0
            unfold Oper.wp
            simp [go_sem, callFunc, Act.eval, h28, Tryz.func45]
            rcases Hpa.out with rfl | ⟨b, o, rfl, hc⟩
            · cases pa with
              | none =>
                refine (cloneSide_nil w1 n c).mono ?_
                rintro e _ ⟨rfl, rfl⟩
                exact hI.put (i := 1) (d := 29) (by decide) (by decide) (NI.step hI.ni 1 29 _ hG rfl (by decide) (fun h => absurd h (by decide)) (fun _ => ⟨none, 0, rfl, fun j x hx => by simp at hx⟩) (fun h => absurd h (by decide)) (fun h => absurd h (by decide)) (fun h => absurd h (by decide)) (fun h => absurd h (by decide)) (fun h => absurd h (by decide)) (fun h => absurd h (by decide)) (fun h => absurd h (by decide)) (fun h => absurd h (by decide)) (fun h => absurd h (by decide)) (fun h => absurd h (by decide)))
              | some A =>
                have hn0 : n = ([] : List Int).length := hn
                subst hn0
                refine (cloneSide_at w1 A c [] (fun j x hx => by simp at hx) (by simp)).mono ?_
                rintro e w2 ⟨v, rfl, hv, hb⟩
                have hsz := hI.ni.b.size
                exact hI.put (i := 1) (d := 29) (by decide) (by decide) (NI.step (hI.ni.move hb) 1 29 _ hG rfl (by decide) (fun h => absurd h (by decide)) (fun _ => nsides_of hv hsz) (fun h => absurd h (by decide)) (fun h => absurd h (by decide)) (fun h => absurd h (by decide)) (fun h => absurd h (by decide)) (fun h => absurd h (by decide)) (fun h => absurd h (by decide)) (fun h => absurd h (by decide)) (fun h => absurd h (by decide)) (fun h => absurd h (by decide)) (fun h => absurd h (by decide)))
            · have hcells : ∀ (j : Nat) (x : Int), xs[j]? = some x → w1.cell? ⟨b, o + j, none⟩ = some (.int .i64 x) := fun j x hx => cell_below hI.ni.b (hc j x hx)
              subst hn
              refine (cloneSide_some w1 b o c xs hcells (by omega)).mono ?_
              rintro e w2 ⟨v, rfl, hv, hb⟩
              have hsz := hI.ni.b.size
              exact hI.put (i := 1) (d := 29) (by decide) (by decide) (NI.step (hI.ni.move hb) 1 29 _ hG rfl (by decide) (fun h => absurd h (by decide)) (fun _ => nsides_of hv hsz) (fun h => absurd h (by decide)) (fun h => absurd h (by decide)) (fun h => absurd h (by decide)) (fun h => absurd h (by decide)) (fun h => absurd h (by decide)) (fun h => absurd h (by decide)) (fun h => absurd h (by decide)) (fun h => absurd h (by decide)) (fun h => absurd h (by decide)) (fun h => absurd h (by decide)))
          | 2, _ =>
            simp only [List.getElem?_toArray, List.getElem?_cons_zero, List.getElem?_cons_succ, Option.some.injEq] at ho
            subst ho
            simp only [Region.wanted, ↓reduceIte]
            exact hI.put (i := 2) (d := 30) (by decide) (by decide) (NI.step hI.ni 2 30 _ hG rfl (by decide) (fun h => absurd h (by decide)) (fun h => absurd h (by decide)) (fun _ => hI.ni.a6) (fun h => absurd h (by decide)) (fun h => absurd h (by decide)) (fun h => absurd h (by decide)) (fun h => absurd h (by decide)) (fun h => absurd h (by decide)) (fun h => absurd h (by decide)) (fun h => absurd h (by decide)) (fun h => absurd h (by decide)) (fun h => absurd h (by decide)))
          | 4, _ =>
            simp only [List.getElem?_toArray, List.getElem?_cons_zero, List.getElem?_cons_succ, Option.some.injEq] at ho
            subst ho
            simp only [Region.wanted, ↓reduceIte]
            exact hI.put (i := 4) (d := 32) (by decide) (by decide) (NI.step hI.ni 4 32 _ hG rfl (by decide) (fun h => absurd h (by decide)) (fun h => absurd h (by decide)) (fun h => absurd h (by decide)) (fun h => absurd h (by decide)) (fun _ => hI.ni.a6) (fun h => absurd h (by decide)) (fun h => absurd h (by decide)) (fun h => absurd h (by decide)) (fun h => absurd h (by decide)) (fun h => absurd h (by decide)) (fun h => absurd h (by decide)) (fun h => absurd h (by decide)))
          | 3, _ =>
            simp only [List.getElem?_toArray, List.getElem?_cons_zero, List.getElem?_cons_succ, Option.some.injEq] at ho
            subst ho
            simp only [Region.wanted, ↓reduceIte]
            have g0 : L.getD 2 false = true := hdep ⟨2, .data⟩ (by simp) rfl
            have h30 : a.tmps.getD 30 undef = .int .i64 ((xs.length : Int) + 1) := hI.ni.k2 g0
            have hrun := make_run w1 infoBool Tryz.underlying33 (by decide) (n := xs.length + 1) (by omega)
            rw [show ((xs.length + 1 : Nat) : Int) = (xs.length : Int) + 1 from by omega] at hrun
            show Oper.upon _ _ _ _ _ (((Instr.makeSlice 33 (a.tmps.getD 30 undef) (a.tmps.getD 30 undef)) >>= fun v => pure (Next.value v) : Sem Next).run Tryz.prog w1)
            rw [h30]
            simp only [Sem.run_bind, hrun, Result.andThen, Sem.run_pure, Oper.upon_value]
            have hsz := hI.ni.b.size
            exact hI.put (i := 3) (d := 31) (by decide) (by decide) (NI.step (hI.ni.move ((Below.refl _ _).alloc (Nat.le_refl _) _)) 3 31 _ hG rfl (by decide) (fun h => absurd h (by decide)) (fun h => absurd h (by decide)) (fun h => absurd h (by decide)) (fun _ => ⟨w1.heap.size, rfl, hsz, by simp, made_row (by omega)⟩) (fun h => absurd h (by decide)) (fun h => absurd h (by decide)) (fun h => absurd h (by decide)) (fun h => absurd h (by decide)) (fun h => absurd h (by decide)) (fun h => absurd h (by decide)) (fun h => absurd h (by decide)) (fun h => absurd h (by decide)))
          | 5, _ =>
            simp only [List.getElem?_toArray, List.getElem?_cons_zero, List.getElem?_cons_succ, Option.some.injEq] at ho
            subst ho
            simp only [Region.wanted, ↓reduceIte]
            have g0 : L.getD 4 false = true := hdep ⟨4, .data⟩ (by simp) rfl
            have h30 : a.tmps.getD 32 undef = .int .i64 ((xs.length : Int) + 1) := hI.ni.k4 g0
            have hrun := make_run w1 infoInt Tryz.underlying36 (by decide) (n := xs.length + 1) (by omega)
            rw [show ((xs.length + 1 : Nat) : Int) = (xs.length : Int) + 1 from by omega] at hrun
            show Oper.upon _ _ _ _ _ (((Instr.makeSlice 36 (a.tmps.getD 32 undef) (a.tmps.getD 32 undef)) >>= fun v => pure (Next.value v) : Sem Next).run Tryz.prog w1)
            rw [h30]
            simp only [Sem.run_bind, hrun, Result.andThen, Sem.run_pure, Oper.upon_value]
            have hsz := hI.ni.b.size
            exact hI.put (i := 5) (d := 33) (by decide) (by decide) (NI.step (hI.ni.move ((Below.refl _ _).alloc (Nat.le_refl _) _)) 5 33 _ hG rfl (by decide) (fun h => absurd h (by decide)) (fun h => absurd h (by decide)) (fun h => absurd h (by decide)) (fun h => absurd h (by decide)) (fun h => absurd h (by decide)) (fun _ => ⟨w1.heap.size, rfl, hsz, by simp, made_row (by omega)⟩) (fun h => absurd h (by decide)) (fun h => absurd h (by decide)) (fun h => absurd h (by decide)) (fun h => absurd h (by decide)) (fun h => absurd h (by decide)) (fun h => absurd h (by decide)))
          | 6, _ =>
            simp only [List.getElem?_toArray, List.getElem?_cons_zero, List.getElem?_cons_succ, Option.some.injEq] at ho
            subst ho
            simp only [Region.wanted, ↓reduceIte]
            have hsz := hI.ni.b.size
            exact hI.put (i := 6) (d := 34) (by decide) (by decide) (NI.step (hI.ni.move ((Below.refl _ _).alloc (Nat.le_refl _) _)) 6 34 _ hG rfl (by decide) (fun h => absurd h (by decide)) (fun h => absurd h (by decide)) (fun h => absurd h (by decide)) (fun h => absurd h (by decide)) (fun h => absurd h (by decide)) (fun h => absurd h (by decide)) (fun _ => ⟨⟨w1.heap.size, rfl, hsz, HasMap.made w1 _ _⟩, fun g e => by
                obtain ⟨b, h1, h2, h3⟩ := hI.ni.k7 g
                have h4 := h3.lt
                rw [h1] at e
                injection e with e
                injection e with e
                omega⟩) (fun h => absurd h (by decide)) (fun h => absurd h (by decide)) (fun h => absurd h (by decide)) (fun h => absurd h (by decide)) (fun h => absurd h (by decide)))
          | 7, _ =>
            simp only [List.getElem?_toArray, List.getElem?_cons_zero, List.getElem?_cons_succ, Option.some.injEq] at ho
            subst ho
            simp only [Region.wanted, ↓reduceIte]
            have hsz := hI.ni.b.size
            exact hI.put (i := 7) (d := 35) (by decide) (by decide) (NI.step (hI.ni.move ((Below.refl _ _).alloc (Nat.le_refl _) _)) 7 35 _ hG rfl (by decide) (fun h => absurd h (by decide)) (fun h => absurd h (by decide)) (fun h => absurd h (by decide)) (fun h => absurd h (by decide)) (fun h => absurd h (by decide)) (fun h => absurd h (by decide)) (fun h => absurd h (by decide)) (fun _ => ⟨⟨w1.heap.size, rfl, hsz, HasMap.made w1 _ _⟩, fun g e => by
                obtain ⟨b, h1, h2, h3⟩ := hI.ni.k6 g
                have h4 := h3.lt
                rw [h1] at e
                injection e with e
                injection e with e
                omega⟩) (fun h => absurd h (by decide)) (fun h => absurd h (by decide)) (fun h => absurd h (by decide)) (fun h => absurd h (by decide)))
          | 8, _ =>
            simp only [List.getElem?_toArray, List.getElem?_cons_zero, List.getElem?_cons_succ, Option.some.injEq] at ho
            subst ho
            simp only [Region.wanted, ↓reduceIte]
            have g1 : L.getD 1 false = true := hdep ⟨1, .data⟩ (by simp) rfl
            have g3 : L.getD 3 false = true := hdep ⟨3, .data⟩ (by simp) rfl
            have g5 : L.getD 5 false = true := hdep ⟨5, .data⟩ (by simp) rfl
            have g6 : L.getD 6 false = true := hdep ⟨6, .data⟩ (by simp) rfl
            have g7 : L.getD 7 false = true := hdep ⟨7, .data⟩ (by simp) rfl
            obtain ⟨pa', pc', h29, -⟩ := hI.ni.k1 g1
            obtain ⟨b31, h31, -⟩ := hI.ni.k3 g3
            obtain ⟨b33, h33, -⟩ := hI.ni.k5 g5
            obtain ⟨b34, h34, -⟩ := hI.ni.k6 g6
            obtain ⟨b35, h35, -⟩ := hI.ni.k7 g7
            have h29 : a.tmps.getD 29 undef = _ := h29
            have h31 : a.tmps.getD 31 undef = _ := h31
            have h33 : a.tmps.getD 33 undef = _ := h33
            have h34 : a.tmps.getD 34 undef = _ := h34
            have h35 : a.tmps.getD 35 undef = _ := h35
            unfold Oper.wp
            simp only [execOp, List.map_toArray, List.map_cons, List.map_nil, Act.eval, h29, h31, h33, h34, h35]
            simp [go_sem]
            show NInv _ _ _ _ (a.put (some 36) (.agg #[_, _, _, _, _, _])) _
            exact hI.put (i := 8) (d := 36) (by decide) (by decide) (NI.step hI.ni 8 36 _ hG rfl (by decide) (fun h => absurd h (by decide)) (fun h => absurd h (by decide)) (fun h => absurd h (by decide)) (fun h => absurd h (by decide)) (fun h => absurd h (by decide)) (fun h => absurd h (by decide)) (fun h => absurd h (by decide)) (fun h => absurd h (by decide)) (fun _ => ⟨⟨g1, g3, g5, g6, g7⟩, by simp only [h29, h31, h33, h34, h35]⟩) (fun h => absurd h (by decide)) (fun h => absurd h (by decide)) (fun h => absurd h (by decide)))
          | 9, _ =>
            simp only [List.getElem?_toArray, List.getElem?_cons_zero, List.getElem?_cons_succ, Option.some.injEq] at ho
            subst ho
            simp only [Region.wanted, ↓reduceIte]
            have g8 : L.getD 8 false = true := hdep ⟨8, .data⟩ (by simp) rfl
            have h36 := hI.ni.k8 g8
            have hsz := hI.ni.b.size
            obtain ⟨g1, g3, g5, g6, g7⟩ := hI.ni.o8 g8
            obtain ⟨pa', pc', h29, -⟩ := hI.ni.k1 g1
            obtain ⟨b31, h31, -⟩ := hI.ni.k3 g3
            obtain ⟨b33, h33, -⟩ := hI.ni.k5 g5
            obtain ⟨b34, h34, -⟩ := hI.ni.k6 g6
            obtain ⟨b35, h35, -⟩ := hI.ni.k7 g7
            have h29 : a.tmps.getD 29 undef = _ := h29
            have h31 : a.tmps.getD 31 undef = _ := h31
            have h33 : a.tmps.getD 33 undef = _ := h33
            have h34 : a.tmps.getD 34 undef = _ := h34
            have h35 : a.tmps.getD 35 undef = _ := h35
            simp only [h29, h31, h33, h34, h35] at h36
            unfold Oper.wp
            simp [execOp, go_sem, Act.eval, h36]
            have h31 : (fun k => a.tmps.getD k undef) 31 = _ := h31
            show NInv _ _ _ _ (a.put (some 37) (.pointer (some ⟨w1.heap.size, 0, none⟩))) _
            exact hI.put (i := 9) (d := 37) (by decide) (by decide) (NI.step (hI.ni.move ((Below.refl _ _).alloc (Nat.le_refl _) _)) 9 37 _ hG rfl (by decide) (fun h => absurd h (by decide)) (fun h => absurd h (by decide)) (fun h => absurd h (by decide)) (fun h => absurd h (by decide)) (fun h => absurd h (by decide)) (fun h => absurd h (by decide)) (fun h => absurd h (by decide)) (fun h => absurd h (by decide)) (fun h => absurd h (by decide)) (fun _ => ⟨g8, w1.heap.size, rfl, hsz, by simp only [h29, h31, h33, h34, h35]; exact blk_new _ _⟩) (fun h => absurd h (by decide)) (fun h => absurd h (by decide)))
          | 10, _ =>
            simp only [List.getElem?_toArray, List.getElem?_cons_zero, List.getElem?_cons_succ, Option.some.injEq] at ho
            subst ho
            simp only [Region.wanted, ↓reduceIte]
            have g9 : L.getD 9 false = true := hdep ⟨9, .data⟩ (by simp) rfl
            exact hI.put (i := 10) (d := 2) (by decide) (by decide) (NI.step hI.ni 10 2 _ hG rfl (by decide) (fun h => absurd h (by decide)) (fun h => absurd h (by decide)) (fun h => absurd h (by decide)) (fun h => absurd h (by decide)) (fun h => absurd h (by decide)) (fun h => absurd h (by decide)) (fun h => absurd h (by decide)) (fun h => absurd h (by decide)) (fun h => absurd h (by decide)) (fun h => absurd h (by decide)) (fun _ => ⟨g9, rfl⟩) (fun h => absurd h (by decide)))
          | 11, _ =>
            simp only [List.getElem?_toArray, List.getElem?_cons_zero, List.getElem?_cons_succ, Option.some.injEq] at ho
            subst ho
            simp only [Region.wanted, ↓reduceIte]
            exact hI.put (i := 11) (d := 3) (by decide) (by decide) (NI.step hI.ni 11 3 _ hG rfl (by decide) (fun h => absurd h (by decide)) (fun h => absurd h (by decide)) (fun h => absurd h (by decide)) (fun h => absurd h (by decide)) (fun h => absurd h (by decide)) (fun h => absurd h (by decide)) (fun h => absurd h (by decide)) (fun h => absurd h (by decide)) (fun h => absurd h (by decide)) (fun h => absurd h (by decide)) (fun h => absurd h (by decide)) (fun _ => rfl))
        · rintro L a w1 hI hall
          obtain ⟨p, h2, h3, hW⟩ := hI.ni.world htree.out (fun i hi => by
            have := hall i hi
            have hs := hI.sz
            simp only [Array.getD_eq_getD_getElem?] at this ⊢
            rw [Array.getElem?_eq_getElem (by omega)] at this ⊢
            exact this)
          have h2 : a.tmps.getD 2 undef = _ := h2
          have h3 : a.tmps.getD 3 undef = _ := h3
          refine ‹∀ (a : Act) (w : World), Code.wp Tryz.prog Code.ret _ a w → _› a w1 ?_
          have hb := hI.ni.b
          refine wp_ret (bodyPost_ret (v := .tuple #[.pointer (some ⟨p, 0, none⟩), .int .i64 0]) ?_ hI.df (show NewPost w xs _ w1 from Or.inl ⟨htree.out, p, _, rfl, hW, fun b hb => hb.1, hb⟩))
          simp only [Array.getD_eq_getD_getElem?] at h2 h3
          simp [results, Tryz.results17, go_sem, h2, h3]
end Go.Proofs.YtifmifjbebpomaaGreatDoor
/- A loop over a map with references as keys, said with the map as a function of its keys. -/
namespace Go.Proofs.YtifmifjbebpomaaGreatDoor
open Go.RowKit Go.ChangeMaps Go.MapKept
open Go.Maps (Keyed)

/-- Block r is a loop over the map b, which has f; L says whose turn is still to come. -/
def Rg (w : World) (b r : Nat) (f : Value → Option Value) (L : Int → Bool) (cnt : Nat) : Prop :=
  ∃ (D : DataW Value) (n : Nat) (left : Lit → Bool), w.ranges Tryz.prog 24 tokR b r n D left cnt ∧
    (∀ key kl, keyOf Tryz.prog 24 key = some kl → Maps.has D kl = (f key).isSome ∧ ∀ v, f key = some v → ∀ zd, D.atKey kl zd = .held v) ∧
    ∀ x, (Lit.int .i64 x).wf = true → left (.int .i64 x) = L x

section
variable {w : World} {b r : Nat} {f : Value → Option Value} {L : Int → Bool} {cnt : Nat}

theorem Rg.of_blocks {w' : World} (h : Rg w b r f L cnt) (hb : w'.heap[b]? = w.heap[b]?) (hr : w'.heap[r]? = w.heap[r]?) : Rg w' b r f L cnt := by
  obtain ⟨D, n, left, ⟨es, clock, since, seen, c0, h1, h2, h3, h4, h5, h6⟩, r'⟩ := h
  exact ⟨D, n, left, ⟨es, clock, since, seen, c0, hb.trans h1, h2, h3, h4, hr.trans h5, h6⟩, r'⟩
theorem Rg.lt (h : Rg w b r f L cnt) : r < w.heap.size := by
  obtain ⟨D, n, left, h, _⟩ := h
  exact h.lt
theorem Rg.ltb (h : Rg w b r f L cnt) : b < w.heap.size := by
  obtain ⟨D, n, left, h, _⟩ := h
  exact h.owns.lt
theorem Rg.ne (h : Rg w b r f L cnt) : r ≠ b := by
  obtain ⟨D, n, left, h, _⟩ := h
  exact h.ne
theorem Rg.below {w' : World} (h : Rg w b r f L cnt) (hb : Below w.heap.size w w') : Rg w' b r f L cnt := h.of_blocks (hb.block b h.ltb) (hb.block r h.lt)
theorem Rg.left_eq (h : Rg w b r f L cnt) : w.rangeLeft b r = cnt := by
  obtain ⟨D, n, left, h, _⟩ := h
  exact h.left_eq
theorem Rg.congr {L' : Int → Bool} (h : Rg w b r f L cnt) (hL : ∀ x, (Lit.int .i64 x).wf = true → L' x = L x) : Rg w b r f L' cnt := by
  obtain ⟨D, n, left, h1, h2, h3⟩ := h
  exact ⟨D, n, left, h1, h2, fun x hx => (h3 x hx).trans (hL x hx).symm⟩
end

section
variable {w : World} {ops : Array Oper} {rest : List Oper} {o : Oper} {a : Act} {Q : Exit → Act → World → Prop}

theorem range_H (hg : o.guard = none) (m : Operand) (t e : TypeId) (hop : o.op = Op.range t m) (ht : Tryz.prog.underlying t = some (.map 24 e)) (b n : Nat) (f : Value → Option Value)
    (hm : a.eval m = .map (some b)) (h : HasMap Tryz.prog 24 w b f n)
    (hK : ∀ w' L cnt, Rg w' b w.heap.size f L cnt → (∀ x, (Lit.int .i64 x).wf = true → L x = (f (.int .i64 x)).isSome) → Below w.heap.size w w' → wpList Tryz.prog ops Q rest (a.put o.dst (.pointer (some ⟨w.heap.size, 0, none⟩))) w') :
    wpList Tryz.prog ops Q (o :: rest) a w := by
  obtain ⟨D, h1, h2, h3⟩ := h
  refine wpList_range_own w hg m t hop 24 e keyedRef ht tokR b n D hm h1 fun w' hrg hgr hsz => ?_
  refine hK w' (fun x => (f (.int .i64 x)).isSome) (Maps.size D) ⟨D, n, Maps.has D, hrg, h3, fun x hx => (h3 _ _ (key_ref hx)).1⟩ (fun x _ => rfl) ?_
  exact ⟨hgr.os, hgr.tape, hgr.output, hgr.size, fun k hk => hgr.block k hk (by simp)⟩

theorem next_H (hg : o.guard = none) (it : Operand) (hop : o.op = Op.next it false) (b r : Nat) (f : Value → Option Value) (L : Int → Bool) (cnt : Nat)
    (hit : a.eval it = .pointer (some ⟨r, 0, none⟩)) (h : Rg w b r f L cnt)
    (hDone : (∀ x, (Lit.int .i64 x).wf = true → L x = false) → wpList Tryz.prog ops Q rest (a.put o.dst (.tuple #[.bool false])) w)
    (hMore : ∀ (x : Int) (v : Value) (w' : World) (cnt' : Nat), (Lit.int .i64 x).wf = true → L x = true → f (.int .i64 x) = some v → Rg w' b r f (fun z => L z && !decide (z = x)) cnt' → cnt' < cnt →
      Keeps (fun y => y = r) w w' → w'.heap.size = w.heap.size → (Instr.entry (.pointer (some ⟨r, 0, none⟩))).run Tryz.prog w' = .ok (.tuple #[.int .i64 x, v]) w' → wpList Tryz.prog ops Q rest (a.put o.dst (.tuple #[.bool true, .int .i64 x, v])) w') :
    wpList Tryz.prog ops Q (o :: rest) a w := by
  obtain ⟨D, n, left, h1, h2, h3⟩ := h
  refine wpList_next_ranges w hg it hop 24 keyedRef tokR (Value.int .i64) (fun v : Value => v) (fun key kl hk => by obtain ⟨x, rfl, _⟩ := Maps.keyOf_int_inv Tryz.underlying24 hk; exact ⟨x, rfl⟩) (fun v y _ => ⟨v, rfl⟩) b r n D left cnt hit h1
    (fun _ hl => hDone fun x hx => (h3 x hx).symm.trans (hl _)) ?_
  intro x v kl y w' cnt' hkey hl hv hat hrg hlt hgr hsz hen
  obtain ⟨x', ex, rfl, hx⟩ := Maps.keyOf_int_inv Tryz.underlying24 hkey
  cases ex
  obtain ⟨g1, g2⟩ := h2 _ _ hkey
  have ey := (tokR_inj hv).1
  have hf : f (.int .i64 x) = some v := by
    cases hfx : f (.int .i64 x) with
    | none =>
      rw [hfx] at g1
      have h5 := Maps.atKey_of_not_has (D := D) (k := .int .i64 x) (by simpa using g1) .nil
      have h6 := hat .nil
      rw [h5, ey] at h6
      cases h6
    | some u =>
      have h6 := g2 u hfx .nil
      rw [hat .nil, ey] at h6
      cases h6
      rfl
  refine hMore x v w' cnt' hx ((h3 x hx).symm.trans hl) hf ⟨D, n, _, hrg, h2, fun z hz => ?_⟩ hlt (Keeps.of_grown hgr (fun z hz => by cases hz; rfl)) hsz hen
  show (left (.int .i64 z) && !(Lit.int .i64 z).sameKey (.int .i64 x)) = _
  rw [h3 z hz]
  simp [Lit.sameKey]
end
theorem thf_some {M : WM} {bl : Int → Nat} {x : Int} {v : Value} (h : thf M bl (.int .i64 x) = some v) : ∃ t, M.at x = some t ∧ v = .pointer (some ⟨bl x, 0, none⟩) := by
  simp only [thf] at h
  rw [Option.map_eq_some_iff] at h
  obtain ⟨t, h1, h2⟩ := h
  exact ⟨t, h1, h2.symm⟩
end Go.Proofs.YtifmifjbebpomaaGreatDoor
/- Copy: the clones of a world's rows; the region that lays the new world. -/
namespace Go.Proofs.YtifmifjbebpomaaGreatDoor
open Go.RowKit Go.ChangeMaps Go.MapKept

/-- append to nothing: all of a row of one-cell elements. -/
theorem append_all {w : World} {ops : Array Oper} {rest : List Oper} {o : Oper} {a : Act} {Q : Exit → Act → World → Prop} (hgd : o.guard = none) (s x : Operand) (t e : TypeId) (z : Value) (bytes : Nat)
    (ho : o.op = .call { callee := .builtin .append, args := #[s, x], argTypes := #[t, t] }) (ht : Tryz.prog.underlying t = some (.slice e)) (hinfo : (Tryz.prog.info? e).map (fun i => (i.zero, i.size, i.bytes)) = some (some z, 1, bytes)) (hzs : z.cells.size = 1) (hb : bytes ≤ 64)
    (A : Addr) (c n : Nat) (vs : List Value) (hs : a.eval s = .slice (some ⟨w.heap.size, 0, none⟩) 0 0) (hn : Hid (n = vs.length)) (hx : a.eval x = .slice (some A) n c) (hc : Hid (∀ (j : Nat) (v : Value), vs[j]? = some v → w.cell? (A.add j) = some v)) (h1 : Hid (∀ v ∈ vs, v.oneCell' = true)) (hl : Hid (vs.length ≤ 16))
    (h : ∀ v' w', Hid (w'.ownsRow w.heap.size e 1 v' n vs) → Hid (Below w.heap.size w w') → wpList Tryz.prog ops Q rest (a.put o.dst v') w') : wpList Tryz.prog ops Q (o :: rest) a (w.alloc (.cells #[] e)) := by
  obtain ⟨i, hi, hz, h2, h3⟩ := info_parts hinfo
  have hl := hl.out
  have hn := hn.out
  have hb2 : vs.length * bytes ≤ 16 * 64 := Nat.mul_le_mul hl hb
  refine wpList_append_own _ hgd s x t ho w.heap.size e i z 1 bytes ht hi hz h2 h3 hzs (by decide) (.slice (some ⟨w.heap.size, 0, none⟩) 0 0) 0 [] hs
    ⟨by simp, .inr ⟨w.heap.size, 0, #[], rfl, Nat.le_refl _, blk_new _ _, by omega, by unfold maxLen; omega, by simp, by simp⟩⟩ A n c vs hx (by omega)
    (fun j u hu => cell_al (hc.out j u hu) _) h1.out (by unfold maxLen; omega) (by rw [hn, Nat.zero_add]; omega) (by simp) ?_
  intro v' w' r1 r2 _
  have hg : w.grownBy w' (Value.slice (some ⟨w.heap.size, 0, none⟩) 0 0).ownBlock := (World.grownBy_alloc w _ _).trans r2
  refine h v' w' (by show World.ownsRow _ _ _ _ _ _ _; simpa using r1) ⟨hg.os, hg.tape, hg.output, hg.size, fun k hk => hg.block k (by omega) (fun e => ?_)⟩
  simp [Value.ownBlock] at e
  omega

set_option maxRecDepth 8000 in
theorem cloneBool_W (w : World) (b c n : Nat) (vs : List Value) (hn : n = vs.length) (hx : ∀ (j : Nat) (v : Value), vs[j]? = some v → w.cell? ⟨b, j, none⟩ = some v) (h1 : ∀ v ∈ vs, v.oneCell' = true) (hl : vs.length ≤ 16) :
    Calls Tryz.prog 66 #[.slice (some ⟨b, 0, none⟩) n c] w fun e w' => ∃ v, e = .returned v ∧ w'.ownsRow w.heap.size 4 1 v n vs ∧ Below w.heap.size w w' := by
  have Hx : Hid (∀ (j : Nat) (v : Value), vs[j]? = some v → w.cell? ((⟨b, 0, none⟩ : Addr).add j) = some v) := fun j v h => by
    have hadd : (⟨b, 0, none⟩ : Addr).add j = ⟨b, j, none⟩ := by unfold Addr.add; split <;> simp_all
    rw [hadd]
    exact hx j v h
  have Hn := (show Hid (n = vs.length) from hn)
  have H1 := (show Hid _ from h1)
  have Hl := (show Hid (vs.length ≤ 16) from hl)
  clear hn hx h1 hl
  go_enter Tryz.func66, Tryz.ntmps66
  go_wp2_with (at_builtin; refine append_all rfl _ _ 33 4 (.bool false) 1 rfl Tryz.underlying33 infoBool rfl (by decide) ⟨b, 0, none⟩ c n vs rfl Hn rfl Hx H1 Hl ?_; intro v w1 HV HB1)
  go_ret
  exact ⟨v, rfl, HV.out, HB1.out⟩
set_option maxRecDepth 8000 in
theorem cloneInt_W (w : World) (b c n : Nat) (vs : List Value) (hn : n = vs.length) (hx : ∀ (j : Nat) (v : Value), vs[j]? = some v → w.cell? ⟨b, j, none⟩ = some v) (h1 : ∀ v ∈ vs, v.oneCell' = true) (hl : vs.length ≤ 16) :
    Calls Tryz.prog 67 #[.slice (some ⟨b, 0, none⟩) n c] w fun e w' => ∃ v, e = .returned v ∧ w'.ownsRow w.heap.size 3 1 v n vs ∧ Below w.heap.size w w' := by
  have Hx : Hid (∀ (j : Nat) (v : Value), vs[j]? = some v → w.cell? ((⟨b, 0, none⟩ : Addr).add j) = some v) := fun j v h => by
    have hadd : (⟨b, 0, none⟩ : Addr).add j = ⟨b, j, none⟩ := by unfold Addr.add; split <;> simp_all
    rw [hadd]
    exact hx j v h
  have Hn := (show Hid (n = vs.length) from hn)
  have H1 := (show Hid _ from h1)
  have Hl := (show Hid (vs.length ≤ 16) from hl)
  clear hn hx h1 hl
  go_enter Tryz.func67, Tryz.ntmps67
  go_wp2_with (at_builtin; refine append_all rfl _ _ 36 3 (.int .i64 0) 8 rfl Tryz.underlying36 infoInt rfl (by decide) ⟨b, 0, none⟩ c n vs rfl Hn rfl Hx H1 Hl ?_; intro v w1 HV HB1)
  go_ret
  exact ⟨v, rfl, HV.out, HB1.out⟩
/-- The sides of a world, cloned. -/
theorem cloneSide_W {w : World} {p : Nat} {M : WM} {F : Nat → Prop} {pa : Option Addr} {pc cg cc mg mc tb fb fn : Nat} {bl : Int → Nat} (hV : WV w p M F pa pc cg cc mg mc tb fb fn bl) (w0 w1 : World) (h0 : w0.heap.size ≤ w1.heap.size) (hb : Below w.heap.size w w1) :
    Calls Tryz.prog 45 #[.slice pa M.parents.length pc] w1 fun e w' => ∃ v, e = .returned v ∧ NSides w0 M.parents v w' ∧ Below w1.heap.size w1 w' := by
  have hs := hV.ok.sides
  cases pa with
  | none =>
    have hp : M.parents = [] := by
      match hM : M.parents with
      | [] => rfl
      | x :: l =>
        obtain ⟨b, o, h, -⟩ := hV.pars 0 x (by rw [hM]; rfl)
        cases h
    rw [hp]
    refine (cloneSide_nil w1 _ pc).mono ?_
    rintro e _ ⟨rfl, rfl⟩
    exact ⟨_, rfl, ⟨none, 0, rfl, fun j x hx => by simp at hx⟩, Below.refl _ _⟩
  | some A =>
    refine (cloneSide_at w1 A pc M.parents (fun j x hx => ?_) hs).mono ?_
    · obtain ⟨b, o, h1, h2, -, h4⟩ := hV.pars j x hx
      cases h1
      have hadd : (⟨b, o, none⟩ : Addr).add j = ⟨b, o + j, none⟩ := by unfold Addr.add; split <;> simp_all
      rw [hadd]
      exact (hb.cell (p := ⟨b, o + j, none⟩) (hV.lt b h2)).trans h4
    · rintro e w2 ⟨v, rfl, hv, hb2⟩
      exact ⟨v, rfl, nsides_of hv h0, hb2⟩
/-- A row of the copy's own. -/
def CRow (w0 : World) (e : TypeId) (vs : List Value) (v : Value) (w : World) : Prop :=
  ∃ g cap, v = .slice (some ⟨g, 0, none⟩) vs.length cap ∧ w0.heap.size ≤ g ∧ g < w.heap.size ∧ Row w g e cap vs
theorem CRow.move {w0 : World} {e : TypeId} {vs : List Value} {v : Value} {w w' : World} (h : CRow w0 e vs v w) (hb : Below w.heap.size w w') : CRow w0 e vs v w' := by
  obtain ⟨g, cap, h1, h2, h3, h4⟩ := h
  exact ⟨g, cap, h1, h2, Nat.lt_of_lt_of_le h3 hb.size, h4.of_block (hb.block g h3)⟩
theorem CRow.of {w0 w1 w2 : World} {e : TypeId} {vs : List Value} {v : Value} (h0 : w0.heap.size ≤ w1.heap.size) (hn : 0 < vs.length) (hv : w2.ownsRow w1.heap.size e 1 v vs.length vs) : CRow w0 e vs v w2 := by
  obtain ⟨-, ⟨rfl, h⟩ | ⟨g, cap, cur, rfl, h1, h2, h3, h4, h5, h6⟩⟩ := hv
  · omega
  · refine ⟨g, cap, rfl, by omega, blk_lt h2, cur, h2, by omega, h3, h4, fun j x hx => ?_⟩
    have hj := (List.getElem?_eq_some_iff.1 hx).1
    have e1 : (cur.toList.take (vs.length * 1))[j]? = some x := by rw [h6]; exact hx
    rw [List.getElem?_take, if_pos (by omega)] at e1
    simpa using e1

/-- What is known of each operation of Copy's region. -/
def CPhi (w0 : World) (p : Nat) (M : WM) (pa : Option Addr) (pc cg cc mg mc : Nat) (i : Nat) (v : Value) (w : World) : Prop :=
  match i with
  | 0 | 1 | 5 | 6 | 10 | 11 | 15 | 16 => v = .pointer (some ⟨p, 0, none⟩)
  | 2 => v = .pointer (some ⟨p, 0, none⟩)
  | 3 => v = .slice pa M.parents.length pc
  | 4 => NSides w0 M.parents v w
  | 7 => v = .pointer (some ⟨p, 1, none⟩)
  | 8 => v = .slice (some ⟨cg, 0, none⟩) M.cuts.length cc
  | 9 => CRow w0 4 (M.cuts.map Value.bool) v w
  | 12 => v = .pointer (some ⟨p, 5, none⟩)
  | 13 => v = .slice (some ⟨mg, 0, none⟩) M.made.length mc
  | 14 => CRow w0 3 (M.made.map (Value.int .i64)) v w
  | 17 => v = .pointer (some ⟨p, 4, none⟩)
  | 18 => v = .int .i64 M.last
  | 19 => NMap w0 24 v w
  | 20 => NMap w0 190 v w
  | 21 => ∃ v0 v1 v2 v3 v5, v = .agg #[v0, v1, v2, v3, .int .i64 M.last, v5] ∧ NSides w0 M.parents v0 w ∧ CRow w0 4 (M.cuts.map Value.bool) v1 w ∧ NMap w0 24 v2 w ∧ NMap w0 190 v3 w ∧ CRow w0 3 (M.made.map (Value.int .i64)) v5 w ∧ blkOf v2 ≠ blkOf v3
  | 22 | 23 => ∃ q v0 v1 v2 v3 v5, v = .pointer (some ⟨q, 0, none⟩) ∧ w0.heap.size ≤ q ∧ w.heap[q]? = some (.cells #[v0, v1, v2, v3, .int .i64 M.last, v5] 38 (0, 0)) ∧ NSides w0 M.parents v0 w ∧ CRow w0 4 (M.cuts.map Value.bool) v1 w ∧ NMap w0 24 v2 w ∧ NMap w0 190 v3 w ∧ CRow w0 3 (M.made.map (Value.int .i64)) v5 w ∧ blkOf v2 ≠ blkOf v3
  | _ => True
theorem CPhi.stab {w0 : World} {p : Nat} {M : WM} {pa : Option Addr} {pc cg cc mg mc : Nat} : ∀ (i : Nat) (v : Value) (w w' : World), Below w.heap.size w w' → CPhi w0 p M pa pc cg cc mg mc i v w → CPhi w0 p M pa pc cg cc mg mc i v w' := by
  intro i v w w' hR h
  unfold CPhi at h ⊢
  split at h <;> first
    | exact h
    | exact NSides.move h hR
    | exact CRow.move h hR
    | exact NMap.move h hR
    | (obtain ⟨v0, v1, v2, v3, v5, h0, h1, h2, h3, h4, h5, h6⟩ := h
       exact ⟨v0, v1, v2, v3, v5, h0, h1.move hR, h2.move hR, h3.move hR, h4.move hR, h5.move hR, h6⟩)
    | (obtain ⟨q, v0, v1, v2, v3, v5, h0, hq, hb, h1, h2, h3, h4, h5, h6⟩ := h
       exact ⟨q, v0, v1, v2, v3, v5, h0, hq, below_blk hR hb, h1.move hR, h2.move hR, h3.move hR, h4.move hR, h5.move hR, h6⟩)
    | trivial
end Go.Proofs.YtifmifjbebpomaaGreatDoor
