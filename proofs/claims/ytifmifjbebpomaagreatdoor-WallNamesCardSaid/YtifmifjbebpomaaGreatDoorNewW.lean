/- New: the walk. -/
import Derived.Test.YtifmifjbebpomaaGreatDoorNew
import Derived.Deep.QuietTactic
import Derived.BigQuiet
namespace Go.Proofs.YtifmifjbebpomaaGreatDoor
open Go.RowKit Go.ChangeMaps Go.MapKept

def NewPost (w : World) (xs : List Int) (e : Ending) (w' : World) : Prop :=
  (TreeOk xs ∧ ∃ p F, e = .returned (.tuple #[.pointer (some ⟨p, 0, none⟩), .int .i64 0]) ∧ IsW w' p (WM.new xs) F ∧ (∀ b, F b → w.heap.size ≤ b) ∧ Below w.heap.size w w') ∨
  (¬ TreeOk xs ∧ e = .returned (.tuple #[.pointer none, .int .i64 71]) ∧ w' = w)

def SideArg (w : World) (pa : Option Addr) (xs : List Int) : Prop :=
  xs = [] ∨ ∃ b o, pa = some ⟨b, o, none⟩ ∧ ∀ (j : Nat) (x : Int), xs[j]? = some x → w.cell? ⟨b, o + j, none⟩ = some (.int .i64 x)

structure NInv (w0 : World) (v : Value) (xs : List Int) (L : Array Bool) (a : Act) (w : World) : Prop where
  sz : L.size = 12
  ts : a.tmps.size = 38
  df : a.defers = []
  ni : NI w0 v xs (fun j => L.getD j false) (fun k => a.tmps.getD k undef) w

theorem NInv.put {w0 : World} {v : Value} {xs : List Int} {L : Array Bool} {a : Act} {w : World} (h : NInv w0 v xs L a w) {w' : World} {i d : Nat} {x : Value} (hd : d < 38) (hi : i < 12)
    (hn : NI w0 v xs (upd (fun j => L.getD j false) i true) (upd (fun k => a.tmps.getD k undef) d x) w') : NInv w0 v xs (L.setIfInBounds i true) (a.put (some d) x) w' where
  sz := by simp [h.sz]
  ts := by simp [Act.put, h.ts]
  df := by simpa [Act.put] using h.df
  ni := by
    have e1 : (fun j => (L.setIfInBounds i true).getD j false) = upd (fun j => L.getD j false) i true := by
      funext j
      have := h.sz
      by_cases hj : j = i
      · subst hj
        simp [upd, Array.getD, this, hi]
      · have : ¬ i = j := fun e => hj e.symm
        simp only [upd, if_neg hj, Array.getD_eq_getD_getElem?, Array.getElem?_setIfInBounds, if_neg this]
    have e2 : (fun k => (a.put (some d) x).tmps.getD k undef) = upd (fun k => a.tmps.getD k undef) d x := by
      funext j
      have := h.ts
      by_cases hj : j = d
      · subst hj
        simp [upd, Act.put, Array.getD, this, hd]
      · have : ¬ d = j := fun e => hj e.symm
        simp only [upd, Act.put, if_neg hj, Array.getD_eq_getD_getElem?, Array.getElem?_setIfInBounds, if_neg this]
    rw [e1, e2]
    exact hn

theorem ord_of {ops : Array Oper} (h : (ops.toList.zipIdx.all fun x => x.1.after.all fun e => decide (e.on < x.2)) = true) : ∀ (i : Nat) (o : Oper), ops[i]? = some o → ∀ e ∈ o.after, e.on < i := by
  intro i o ho e he
  rw [List.all_eq_true] at h
  have := h (o, i) (by
    rw [List.mem_zipIdx_iff_getElem?]
    simpa using ho)
  simp only [Array.all_eq_true_iff_forall_mem] at this
  simpa using this e he

theorem getD_tf {L : Array Bool} {i : Nat} (h : L.getD i true = false) : L.getD i false = false := by
  rw [Array.getD_eq_getD_getElem?] at h ⊢
  cases hx : L[i]? with
  | none => rfl
  | some b => rw [hx] at h; exact h

theorem cell_below {w w' : World} (hb : Below w.heap.size w w') {a : Addr} {v : Value} (h : w.cell? a = some v) : w'.cell? a = some v := by
  have : a.block < w.heap.size := by
    unfold World.cell? at h
    cases ho : w.heap[a.block]? with
    | none => simp [ho] at h
    | some o => exact blk_lt ho
  exact (hb.cell this).trans h

theorem make_run {e t : TypeId} {z : Value} {bytes : Nat} (w : World) (hinfo : (Tryz.prog.info? e).map (fun i => (i.zero, i.size, i.bytes)) = some (some z, 1, bytes)) (ht : Tryz.prog.underlying t = some (.slice e)) (hb : bytes ≤ 64)
    {n : Nat} (hn : n ≤ 16) (hz : z.cells = #[z] := by rfl) : (Instr.makeSlice t (.int .i64 (n : Int)) (.int .i64 (n : Int))).run Tryz.prog w = .ok (.slice (some ⟨w.heap.size, 0, none⟩) n n) (w.alloc (.cells (madeCells #[z] n) e)) := by
  obtain ⟨i, hi, hz', h1, h2⟩ := info_parts hinfo
  have := run_makeSlice (P := Tryz.prog) w t e i z ht hi hz' .i64 .i64 n n (by omega) (Int.le_refl _) (by rw [h1]; omega) (by
    rw [h2]
    have : bytes * n ≤ 64 * 16 := Nat.mul_le_mul hb hn
    have h3 : ((bytes * n : Nat) : Int) ≤ 1024 := by omega
    rw [Int.natCast_mul] at h3
    omega) (by omega)
  rw [h1, hz] at this
  simpa using this

theorem nsides_of {w0 w1 w2 : World} {v : Value} {xs : List Int} (hv : w2.ownsRow w1.heap.size 23 1 v xs.length (xs.map (Value.int .i64))) (h : w0.heap.size ≤ w1.heap.size) : NSides w0 xs v w2 := by
  obtain ⟨-, ⟨rfl, h0⟩ | ⟨g, cap, cur, rfl, h1, h2, h3, h4, h5, h6⟩⟩ := hv
  · have : xs = [] := List.length_eq_zero_iff.1 h0
    subst this
    exact ⟨none, 0, rfl, fun j x hx => by simp at hx⟩
  · refine ⟨some ⟨g, 0, none⟩, cap, rfl, fun j x hx => ⟨g, 0, rfl, by omega, blk_lt h2, ⟨_, _, h2⟩, ?_⟩⟩
    rw [cell_blk h2, Nat.zero_add]
    have hj := (List.getElem?_eq_some_iff.1 hx).1
    have e : (cur.toList.take (xs.length * 1))[j]? = (xs.map (Value.int .i64))[j]? := by rw [h6]
    rw [List.getElem?_take, if_pos (by omega), List.getElem?_map, hx] at e
    simpa using e

set_option maxHeartbeats 1000000 in
set_option maxRecDepth 8000 in
theorem New_W (w : World) (pa : Option Addr) (c : Nat) (xs : List Int) (hpa : SideArg w pa xs) : Calls Tryz.prog 17 #[.slice pa xs.length c] w (NewPost w xs) := by
  have Hpa := (show Hid (SideArg w pa xs) from hpa)
  clear hpa
  obtain ⟨n, hn⟩ : ∃ n, n = xs.length := ⟨_, rfl⟩
  have Hn := (show Hid (n = xs.length) from hn)
  rw [← hn]
  clear hn
  by_cases h16 : 16 ≤ n
  · have h16' : (16 : Int) ≤ (n : Int) := by omega
    go_enter Tryz.func17, Tryz.ntmps17
    go_wp2_with fail
    go_ret2
    exact .inr ⟨fun h => by have := h.1; have := Hn.out; omega, rfl, rfl⟩
  · have h16' : ¬ (16 : Int) ≤ (n : Int) := by omega
    go_enter Tryz.func17, Tryz.ntmps17
    go_wp2_with fail
    go_loop [12] (fun vi => ∃ k : Nat, vi = .int .i64 k ∧ k ≤ n ∧ Hid (∀ (j : Nat) (p : Int), j < k → xs[j]? = some p → 0 ≤ p ∧ p ≤ j)) (fun vi => n - (intOf vi).toNat)
    case atStart => exact ⟨0, rfl, Nat.zero_le _, fun j p h => by omega⟩
    case round =>
      obtain ⟨k, rfl, hkn, Hk⟩ := hrel
      by_cases hk : k < n
      · obtain ⟨x, hx⟩ : ∃ x, xs[k]? = some x := ⟨_, List.getElem?_eq_getElem (by have := Hn.out; omega)⟩
        have Hx := (show Hid (xs[k]? = some x) from hx)
        obtain ⟨b, o, rfl, hc⟩ : ∃ b o, pa = some ⟨b, o, none⟩ ∧ w.cell? ⟨b, o + k, none⟩ = some (.int .i64 x) := by
          rcases Hpa.out with rfl | ⟨b, o, h1, h2⟩
          · simp at hx
          · exact ⟨b, o, h1, h2 k x hx⟩
        clear hx
        have hkz : (k : Int) < (n : Int) := by omega
        by_cases hx0 : x < 0
        · go_wp2_with fail
          go_ret2
          exact .inr ⟨fun h => by have h2 := h.2 k x Hx.out; omega, rfl, rfl⟩
        · by_cases hxk : (k : Int) < x
          · go_wp2_with fail
            go_ret2
            exact .inr ⟨fun h => by have h2 := h.2 k x Hx.out; omega, rfl, rfl⟩
          · go_wp2_with fail
            go_round
            case rel =>
              refine ⟨k + 1, by go_num, by omega, fun j p hj hp => ?_⟩
              rcases Nat.lt_succ_iff_lt_or_eq.1 hj with h | rfl
              · exact Hk.out j p h hp
              · have := Hx.out
                rw [this] at hp
                cases hp
                exact ⟨by omega, by omega⟩
            case measure => simp [intOf]; omega
      · have htree : Hid (TreeOk xs) := ⟨by have := Hn.out; omega, fun i p hp => Hk.out i p (by
          have := (List.getElem?_eq_some_iff.1 hp).1
          have := Hn.out
          omega) hp⟩
        clear Hk
        go_wp2_with fail
        refine wp_region_inv (by kernel_rfl) (NInv w (.slice pa n c) xs) (ord_of (by kernel_rfl)) ?_ ?_ ?_
        · refine ⟨rfl, rfl, rfl, ?_⟩
          have hn := Hn.out
          subst hn
          constructor <;> first | exact (Below.refl _ _).drew | rfl | (intro h; cases h)
        · rintro L a w1 i o hI ho hL hdep
          have hi : i < 12 := (Array.getElem?_eq_some_iff.1 ho).1
          have hG : L.getD i false = false := getD_tf hL
          have hn := Hn.out
          match i, hi with
          | 0, _ =>
            simp only [List.getElem?_toArray, List.getElem?_cons_zero, Option.some.injEq] at ho
            subst ho
            simp only [Region.wanted, ↓reduceIte]
            exact hI.put (i := 0) (d := 28) (by decide) (by decide) (NI.step hI.ni 0 28 _ hG rfl (by decide) (fun _ => hI.ni.a0) (fun h => absurd h (by decide)) (fun h => absurd h (by decide)) (fun h => absurd h (by decide)) (fun h => absurd h (by decide)) (fun h => absurd h (by decide)) (fun h => absurd h (by decide)) (fun h => absurd h (by decide)) (fun h => absurd h (by decide)) (fun h => absurd h (by decide)) (fun h => absurd h (by decide)) (fun h => absurd h (by decide)))
          | 1, _ =>
            simp only [List.getElem?_toArray, List.getElem?_cons_zero, List.getElem?_cons_succ, Option.some.injEq] at ho
            subst ho
            simp only [Region.wanted, ↓reduceIte]
            have g0 : L.getD 0 false = true := hdep ⟨0, .data⟩ (by simp) rfl
            have h28 : a.tmps.getD 28 undef = .slice pa n c := hI.ni.k0 g0
            unfold Oper.wp
            simp [go_sem, callFunc, Act.eval, h28, Tryz.func45]
            rcases Hpa.out with rfl | ⟨b, o, rfl, hc⟩
            · cases pa with
              | none =>
                refine (cloneSide_nil w1 n c).mono ?_
                rintro e _ ⟨rfl, rfl⟩
                exact hI.put (i := 1) (d := 29) (by decide) (by decide) (NI.step hI.ni 1 29 _ hG rfl (by decide) (fun h => absurd h (by decide)) (fun _ => ⟨none, 0, rfl, fun j x hx => by simp at hx⟩) (fun h => absurd h (by decide)) (fun h => absurd h (by decide)) (fun h => absurd h (by decide)) (fun h => absurd h (by decide)) (fun h => absurd h (by decide)) (fun h => absurd h (by decide)) (fun h => absurd h (by decide)) (fun h => absurd h (by decide)) (fun h => absurd h (by decide)) (fun h => absurd h (by decide)))
              | some A =>
                have hn0 : n = ([] : List Int).length := hn
                subst hn0
                refine (cloneSide_at w1 A c [] (fun j x hx => by simp at hx) (by simp)).mono ?_
                rintro e w2 ⟨v, rfl, hv, hb⟩
                have hsz := hI.ni.b.size
                exact hI.put (i := 1) (d := 29) (by decide) (by decide) (NI.step (hI.ni.move hb) 1 29 _ hG rfl (by decide) (fun h => absurd h (by decide)) (fun _ => nsides_of hv hsz) (fun h => absurd h (by decide)) (fun h => absurd h (by decide)) (fun h => absurd h (by decide)) (fun h => absurd h (by decide)) (fun h => absurd h (by decide)) (fun h => absurd h (by decide)) (fun h => absurd h (by decide)) (fun h => absurd h (by decide)) (fun h => absurd h (by decide)) (fun h => absurd h (by decide)))
            · have hcells : ∀ (j : Nat) (x : Int), xs[j]? = some x → w1.cell? ⟨b, o + j, none⟩ = some (.int .i64 x) := fun j x hx => cell_below hI.ni.b (hc j x hx)
              subst hn
              refine (cloneSide_some w1 b o c xs hcells (by omega)).mono ?_
              rintro e w2 ⟨v, rfl, hv, hb⟩
              have hsz := hI.ni.b.size
              exact hI.put (i := 1) (d := 29) (by decide) (by decide) (NI.step (hI.ni.move hb) 1 29 _ hG rfl (by decide) (fun h => absurd h (by decide)) (fun _ => nsides_of hv hsz) (fun h => absurd h (by decide)) (fun h => absurd h (by decide)) (fun h => absurd h (by decide)) (fun h => absurd h (by decide)) (fun h => absurd h (by decide)) (fun h => absurd h (by decide)) (fun h => absurd h (by decide)) (fun h => absurd h (by decide)) (fun h => absurd h (by decide)) (fun h => absurd h (by decide)))
          | 2, _ =>
            simp only [List.getElem?_toArray, List.getElem?_cons_zero, List.getElem?_cons_succ, Option.some.injEq] at ho
            subst ho
            simp only [Region.wanted, ↓reduceIte]
            exact hI.put (i := 2) (d := 30) (by decide) (by decide) (NI.step hI.ni 2 30 _ hG rfl (by decide) (fun h => absurd h (by decide)) (fun h => absurd h (by decide)) (fun _ => hI.ni.a6) (fun h => absurd h (by decide)) (fun h => absurd h (by decide)) (fun h => absurd h (by decide)) (fun h => absurd h (by decide)) (fun h => absurd h (by decide)) (fun h => absurd h (by decide)) (fun h => absurd h (by decide)) (fun h => absurd h (by decide)) (fun h => absurd h (by decide)))
          | 4, _ =>
            simp only [List.getElem?_toArray, List.getElem?_cons_zero, List.getElem?_cons_succ, Option.some.injEq] at ho
            subst ho
            simp only [Region.wanted, ↓reduceIte]
            exact hI.put (i := 4) (d := 32) (by decide) (by decide) (NI.step hI.ni 4 32 _ hG rfl (by decide) (fun h => absurd h (by decide)) (fun h => absurd h (by decide)) (fun h => absurd h (by decide)) (fun h => absurd h (by decide)) (fun _ => hI.ni.a6) (fun h => absurd h (by decide)) (fun h => absurd h (by decide)) (fun h => absurd h (by decide)) (fun h => absurd h (by decide)) (fun h => absurd h (by decide)) (fun h => absurd h (by decide)) (fun h => absurd h (by decide)))
          | 3, _ =>
            simp only [List.getElem?_toArray, List.getElem?_cons_zero, List.getElem?_cons_succ, Option.some.injEq] at ho
            subst ho
            simp only [Region.wanted, ↓reduceIte]
            have g0 : L.getD 2 false = true := hdep ⟨2, .data⟩ (by simp) rfl
            have h30 : a.tmps.getD 30 undef = .int .i64 ((xs.length : Int) + 1) := hI.ni.k2 g0
            have hrun := make_run w1 infoBool Tryz.underlying33 (by decide) (n := xs.length + 1) (by omega)
            rw [show ((xs.length + 1 : Nat) : Int) = (xs.length : Int) + 1 from by omega] at hrun
            show Oper.upon _ _ _ _ _ (((Instr.makeSlice 33 (a.tmps.getD 30 undef) (a.tmps.getD 30 undef)) >>= fun v => pure (Next.value v) : Sem Next).run Tryz.prog w1)
            rw [h30]
            simp only [Sem.run_bind, hrun, Result.andThen, Sem.run_pure, Oper.upon_value]
            have hsz := hI.ni.b.size
            exact hI.put (i := 3) (d := 31) (by decide) (by decide) (NI.step (hI.ni.move ((Below.refl _ _).alloc (Nat.le_refl _) _)) 3 31 _ hG rfl (by decide) (fun h => absurd h (by decide)) (fun h => absurd h (by decide)) (fun h => absurd h (by decide)) (fun _ => ⟨w1.heap.size, rfl, hsz, by simp, made_row (by omega)⟩) (fun h => absurd h (by decide)) (fun h => absurd h (by decide)) (fun h => absurd h (by decide)) (fun h => absurd h (by decide)) (fun h => absurd h (by decide)) (fun h => absurd h (by decide)) (fun h => absurd h (by decide)) (fun h => absurd h (by decide)))
          | 5, _ =>
            simp only [List.getElem?_toArray, List.getElem?_cons_zero, List.getElem?_cons_succ, Option.some.injEq] at ho
            subst ho
            simp only [Region.wanted, ↓reduceIte]
            have g0 : L.getD 4 false = true := hdep ⟨4, .data⟩ (by simp) rfl
            have h30 : a.tmps.getD 32 undef = .int .i64 ((xs.length : Int) + 1) := hI.ni.k4 g0
            have hrun := make_run w1 infoInt Tryz.underlying36 (by decide) (n := xs.length + 1) (by omega)
            rw [show ((xs.length + 1 : Nat) : Int) = (xs.length : Int) + 1 from by omega] at hrun
            show Oper.upon _ _ _ _ _ (((Instr.makeSlice 36 (a.tmps.getD 32 undef) (a.tmps.getD 32 undef)) >>= fun v => pure (Next.value v) : Sem Next).run Tryz.prog w1)
            rw [h30]
            simp only [Sem.run_bind, hrun, Result.andThen, Sem.run_pure, Oper.upon_value]
            have hsz := hI.ni.b.size
            exact hI.put (i := 5) (d := 33) (by decide) (by decide) (NI.step (hI.ni.move ((Below.refl _ _).alloc (Nat.le_refl _) _)) 5 33 _ hG rfl (by decide) (fun h => absurd h (by decide)) (fun h => absurd h (by decide)) (fun h => absurd h (by decide)) (fun h => absurd h (by decide)) (fun h => absurd h (by decide)) (fun _ => ⟨w1.heap.size, rfl, hsz, by simp, made_row (by omega)⟩) (fun h => absurd h (by decide)) (fun h => absurd h (by decide)) (fun h => absurd h (by decide)) (fun h => absurd h (by decide)) (fun h => absurd h (by decide)) (fun h => absurd h (by decide)))
          | 6, _ =>
            simp only [List.getElem?_toArray, List.getElem?_cons_zero, List.getElem?_cons_succ, Option.some.injEq] at ho
            subst ho
            simp only [Region.wanted, ↓reduceIte]
            have hsz := hI.ni.b.size
            exact hI.put (i := 6) (d := 34) (by decide) (by decide) (NI.step (hI.ni.move ((Below.refl _ _).alloc (Nat.le_refl _) _)) 6 34 _ hG rfl (by decide) (fun h => absurd h (by decide)) (fun h => absurd h (by decide)) (fun h => absurd h (by decide)) (fun h => absurd h (by decide)) (fun h => absurd h (by decide)) (fun h => absurd h (by decide)) (fun _ => ⟨⟨w1.heap.size, rfl, hsz, HasMap.made w1 _ _⟩, fun g e => by
                obtain ⟨b, h1, h2, h3⟩ := hI.ni.k7 g
                have h4 := h3.lt
                rw [h1] at e
                injection e with e
                injection e with e
                omega⟩) (fun h => absurd h (by decide)) (fun h => absurd h (by decide)) (fun h => absurd h (by decide)) (fun h => absurd h (by decide)) (fun h => absurd h (by decide)))
          | 7, _ =>
            simp only [List.getElem?_toArray, List.getElem?_cons_zero, List.getElem?_cons_succ, Option.some.injEq] at ho
            subst ho
            simp only [Region.wanted, ↓reduceIte]
            have hsz := hI.ni.b.size
            exact hI.put (i := 7) (d := 35) (by decide) (by decide) (NI.step (hI.ni.move ((Below.refl _ _).alloc (Nat.le_refl _) _)) 7 35 _ hG rfl (by decide) (fun h => absurd h (by decide)) (fun h => absurd h (by decide)) (fun h => absurd h (by decide)) (fun h => absurd h (by decide)) (fun h => absurd h (by decide)) (fun h => absurd h (by decide)) (fun h => absurd h (by decide)) (fun _ => ⟨⟨w1.heap.size, rfl, hsz, HasMap.made w1 _ _⟩, fun g e => by
                obtain ⟨b, h1, h2, h3⟩ := hI.ni.k6 g
                have h4 := h3.lt
                rw [h1] at e
                injection e with e
                injection e with e
                omega⟩) (fun h => absurd h (by decide)) (fun h => absurd h (by decide)) (fun h => absurd h (by decide)) (fun h => absurd h (by decide)))
          | 8, _ =>
            simp only [List.getElem?_toArray, List.getElem?_cons_zero, List.getElem?_cons_succ, Option.some.injEq] at ho
            subst ho
            simp only [Region.wanted, ↓reduceIte]
            have g1 : L.getD 1 false = true := hdep ⟨1, .data⟩ (by simp) rfl
            have g3 : L.getD 3 false = true := hdep ⟨3, .data⟩ (by simp) rfl
            have g5 : L.getD 5 false = true := hdep ⟨5, .data⟩ (by simp) rfl
            have g6 : L.getD 6 false = true := hdep ⟨6, .data⟩ (by simp) rfl
            have g7 : L.getD 7 false = true := hdep ⟨7, .data⟩ (by simp) rfl
            obtain ⟨pa', pc', h29, -⟩ := hI.ni.k1 g1
            obtain ⟨b31, h31, -⟩ := hI.ni.k3 g3
            obtain ⟨b33, h33, -⟩ := hI.ni.k5 g5
            obtain ⟨b34, h34, -⟩ := hI.ni.k6 g6
            obtain ⟨b35, h35, -⟩ := hI.ni.k7 g7
            have h29 : a.tmps.getD 29 undef = _ := h29
            have h31 : a.tmps.getD 31 undef = _ := h31
            have h33 : a.tmps.getD 33 undef = _ := h33
            have h34 : a.tmps.getD 34 undef = _ := h34
            have h35 : a.tmps.getD 35 undef = _ := h35
            unfold Oper.wp
            simp only [execOp, List.map_toArray, List.map_cons, List.map_nil, Act.eval, h29, h31, h33, h34, h35]
            simp [go_sem]
            show NInv _ _ _ _ (a.put (some 36) (.agg #[_, _, _, _, _, _])) _
            exact hI.put (i := 8) (d := 36) (by decide) (by decide) (NI.step hI.ni 8 36 _ hG rfl (by decide) (fun h => absurd h (by decide)) (fun h => absurd h (by decide)) (fun h => absurd h (by decide)) (fun h => absurd h (by decide)) (fun h => absurd h (by decide)) (fun h => absurd h (by decide)) (fun h => absurd h (by decide)) (fun h => absurd h (by decide)) (fun _ => ⟨⟨g1, g3, g5, g6, g7⟩, by simp only [h29, h31, h33, h34, h35]⟩) (fun h => absurd h (by decide)) (fun h => absurd h (by decide)) (fun h => absurd h (by decide)))
          | 9, _ =>
            simp only [List.getElem?_toArray, List.getElem?_cons_zero, List.getElem?_cons_succ, Option.some.injEq] at ho
            subst ho
            simp only [Region.wanted, ↓reduceIte]
            have g8 : L.getD 8 false = true := hdep ⟨8, .data⟩ (by simp) rfl
            have h36 := hI.ni.k8 g8
            have hsz := hI.ni.b.size
            obtain ⟨g1, g3, g5, g6, g7⟩ := hI.ni.o8 g8
            obtain ⟨pa', pc', h29, -⟩ := hI.ni.k1 g1
            obtain ⟨b31, h31, -⟩ := hI.ni.k3 g3
            obtain ⟨b33, h33, -⟩ := hI.ni.k5 g5
            obtain ⟨b34, h34, -⟩ := hI.ni.k6 g6
            obtain ⟨b35, h35, -⟩ := hI.ni.k7 g7
            have h29 : a.tmps.getD 29 undef = _ := h29
            have h31 : a.tmps.getD 31 undef = _ := h31
            have h33 : a.tmps.getD 33 undef = _ := h33
            have h34 : a.tmps.getD 34 undef = _ := h34
            have h35 : a.tmps.getD 35 undef = _ := h35
            simp only [h29, h31, h33, h34, h35] at h36
            unfold Oper.wp
            simp [execOp, go_sem, Act.eval, h36]
            have h31 : (fun k => a.tmps.getD k undef) 31 = _ := h31
            show NInv _ _ _ _ (a.put (some 37) (.pointer (some ⟨w1.heap.size, 0, none⟩))) _
            exact hI.put (i := 9) (d := 37) (by decide) (by decide) (NI.step (hI.ni.move ((Below.refl _ _).alloc (Nat.le_refl _) _)) 9 37 _ hG rfl (by decide) (fun h => absurd h (by decide)) (fun h => absurd h (by decide)) (fun h => absurd h (by decide)) (fun h => absurd h (by decide)) (fun h => absurd h (by decide)) (fun h => absurd h (by decide)) (fun h => absurd h (by decide)) (fun h => absurd h (by decide)) (fun h => absurd h (by decide)) (fun _ => ⟨g8, w1.heap.size, rfl, hsz, by simp only [h29, h31, h33, h34, h35]; exact blk_new _ _⟩) (fun h => absurd h (by decide)) (fun h => absurd h (by decide)))
          | 10, _ =>
            simp only [List.getElem?_toArray, List.getElem?_cons_zero, List.getElem?_cons_succ, Option.some.injEq] at ho
            subst ho
            simp only [Region.wanted, ↓reduceIte]
            have g9 : L.getD 9 false = true := hdep ⟨9, .data⟩ (by simp) rfl
            exact hI.put (i := 10) (d := 2) (by decide) (by decide) (NI.step hI.ni 10 2 _ hG rfl (by decide) (fun h => absurd h (by decide)) (fun h => absurd h (by decide)) (fun h => absurd h (by decide)) (fun h => absurd h (by decide)) (fun h => absurd h (by decide)) (fun h => absurd h (by decide)) (fun h => absurd h (by decide)) (fun h => absurd h (by decide)) (fun h => absurd h (by decide)) (fun h => absurd h (by decide)) (fun _ => ⟨g9, rfl⟩) (fun h => absurd h (by decide)))
          | 11, _ =>
            simp only [List.getElem?_toArray, List.getElem?_cons_zero, List.getElem?_cons_succ, Option.some.injEq] at ho
            subst ho
            simp only [Region.wanted, ↓reduceIte]
            exact hI.put (i := 11) (d := 3) (by decide) (by decide) (NI.step hI.ni 11 3 _ hG rfl (by decide) (fun h => absurd h (by decide)) (fun h => absurd h (by decide)) (fun h => absurd h (by decide)) (fun h => absurd h (by decide)) (fun h => absurd h (by decide)) (fun h => absurd h (by decide)) (fun h => absurd h (by decide)) (fun h => absurd h (by decide)) (fun h => absurd h (by decide)) (fun h => absurd h (by decide)) (fun h => absurd h (by decide)) (fun _ => rfl))
        · rintro L a w1 hI hall
          obtain ⟨p, h2, h3, hW⟩ := hI.ni.world htree.out (fun i hi => by
            have := hall i hi
            have hs := hI.sz
            simp only [Array.getD_eq_getD_getElem?] at this ⊢
            rw [Array.getElem?_eq_getElem (by omega)] at this ⊢
            exact this)
          have h2 : a.tmps.getD 2 undef = _ := h2
          have h3 : a.tmps.getD 3 undef = _ := h3
          refine ‹∀ (a : Act) (w : World), Code.wp Tryz.prog Code.ret _ a w → _› a w1 ?_
          have hb := hI.ni.b
          refine wp_ret (bodyPost_ret (v := .tuple #[.pointer (some ⟨p, 0, none⟩), .int .i64 0]) ?_ hI.df (show NewPost w xs _ w1 from Or.inl ⟨htree.out, p, _, rfl, hW, fun b hb => hb.1, hb⟩))
          simp only [Array.getD_eq_getD_getElem?] at h2 h3
          simp [results, Tryz.results17, go_sem, h2, h3]
end Go.Proofs.YtifmifjbebpomaaGreatDoor
