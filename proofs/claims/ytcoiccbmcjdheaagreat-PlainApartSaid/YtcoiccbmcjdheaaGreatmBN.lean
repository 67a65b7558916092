/- A part of the proof, several texts in one: Cop, Room, All, SameA. -/
import Derived.Test.YtcoiccbmcjdheaaGreatmAG
import Derived.Test.YtcoiccbmcjdheaaGreatmAM
import Derived.Test.YtcoiccbmcjdheaaGreatmAK
import Derived.Test.YtcoiccbmcjdheaaGreatmAB
/- copied of posternlaw08 at any value: it answers, and changes nothing but what it counts. -/
namespace Go.Proofs.YtcoiccbmcjdheaaGreat
open Go.RowKit Go.ChangeMaps Go.MapKept

/-- A list of values that a law makes grows by one. -/
theorem append_valS {w : World} {ops : Array Oper} {rest : List Oper} {o : Oper} {a : Act} {Q : Exit → Act → World → Prop} (hgd : o.guard = none) (s x : Operand)
    (ho : o.op = .call { callee := .builtin .append, args := #[s, x], argTypes := #[22, 22] }) (base : Nat)
    (v : Value) (xs : List Value) (n : Nat) (hs : a.eval s = v) (hown : Hid (w.ownsRow base 34 5 v n xs)) (y : Val) (raw : Value) (hraw : ∃ p n c, raw = .slice p n c) (hx : a.eval x = .slice (some ⟨w.heap.size, 0, none⟩) 1 1)
    (hn : Hid ((n : Int) ≤ 1000)) (hbase : Hid (base ≤ w.heap.size))
    (h : ∀ v' w', Hid (w'.ownsRow base 34 5 v' (n + 1) (xs ++ (vcs y raw).toList)) → Hid (w.grownBy w' v.ownBlock) → wpList Tryz.prog ops Q rest (a.put o.dst v') w') : wpList Tryz.prog ops Q (o :: rest) a (w.alloc (.cells (vcs y raw) 34)) := by
  obtain ⟨i, hi, hz, h1, h2⟩ := info_parts infoVal
  have hn' := hn.out
  obtain ⟨p, m, c, rfl⟩ := hraw
  have hone : ∀ u ∈ (vcs y (.slice p m c)).toList, u.oneCell' = true := by
    intro u hu
    simp [vcs] at hu
    rcases hu with rfl | rfl | rfl | rfl | rfl <;> rfl
  refine wpList_append_own_at _ hgd s x 22 ho base 34 i (.agg zV) 5 64 Tryz.underlying22 hi hz h1 h2 rfl (by decide) v n _ hs (hown.out.alloc _) ⟨w.heap.size, 0, none⟩ 1 1 (vcs y (.slice p m c)).toList hx (by simp [vcs]) (fun j u hj => by
    rw [Addr.add_lit, Nat.zero_add, cell_blk (blk_new w _)]
    simpa using hj) hone (by unfold maxLen; omega) (by omega) (by have := hbase.out; simp; omega) ?_
  intro v' w' r1 r2 _ r4
  exact h v' w' r1 ((World.grownBy_alloc w _ _).trans r2)

def CopPost (w : World) (v : Val) (q : Nat) (e : Ending) (w' : World) : Prop :=
  ∃ raw' B x', e = .returned (.tuple #[.agg (vcs v raw'), .bool B]) ∧ (∃ p n c, raw' = .slice p n c) ∧ Keeps (fun b => b = q) w w' ∧ w'.heap[q]? = some (.cells #[.int .i64 x'] 3 (0, 0))
theorem copPost {w w' : World} {kind nn r : Int} {s : ByteArray} {l : List Val} {q : Nat} (p : Option Addr) (n c : Nat) (B : Bool) {x' : Int} (hk : Keeps (fun b => b = q) w w') (hc : w'.heap[q]? = some (.cells #[.int .i64 x'] 3 (0, 0))) :
    CopPost w ⟨kind, nn, s, l, r⟩ q (.returned (.tuple #[.agg #[.int .u8 kind, .int .i64 nn, .string s, .slice p n c, .int .i64 r], .bool B])) w' := ⟨_, B, x', rfl, ⟨p, n, c, rfl⟩, hk, hc⟩
def CopC (n : Nat) : Prop := ∀ (v : Val) (raw : Value) (w : World) (F : Nat → Prop) (q : Nat) (x d : Int), d < n → d ≤ 40 → SlAt w F raw v.l → ¬ F q → w.heap[q]? = some (.cells #[.int .i64 x] 3 (0, 0)) →
  Calls Tryz.prog 50 #[.agg (vcs v raw), .pointer (some ⟨q, 0, none⟩), .int .i64 d] w (CopPost w v q)

theorem execOp_stVc31 (ρ : Operand → Value) (ty : TypeId) (pos : String) (af : Array Edge) (g : Option (Nat × Bool)) :
    execOp ρ { dst := none, op := .store 34 (.tmp 6) (.tmp 31), type := ty, pos := pos, after := af, guard := g } = stV (ρ (.tmp 6)) (ρ (.tmp 31)) := rfl
theorem execOp_stVc55 (ρ : Operand → Value) (ty : TypeId) (pos : String) (af : Array Edge) (g : Option (Nat × Bool)) :
    execOp ρ { dst := none, op := .store 34 (.tmp 6) (.tmp 55), type := ty, pos := pos, after := af, guard := g } = stV (ρ (.tmp 6)) (ρ (.tmp 55)) := rfl
theorem execOp_stVc62 (ρ : Operand → Value) (ty : TypeId) (pos : String) (af : Array Edge) (g : Option (Nat × Bool)) :
    execOp ρ { dst := none, op := .store 34 (.tmp 6) (.tmp 62), type := ty, pos := pos, after := af, guard := g } = stV (ρ (.tmp 6)) (ρ (.tmp 62)) := rfl
theorem execOp_ldVc46 (ρ : Operand → Value) (ty : TypeId) (pos : String) (af : Array Edge) (g : Option (Nat × Bool)) :
    execOp ρ { dst := some 46, op := .load 34 (.tmp 45), type := ty, pos := pos, after := af, guard := g } = ldV (ρ (.tmp 45)) := rfl
theorem results_Cop (w : World) (b : Nat) (v : Value) (B : Bool) (ts : Array Value) {x0 x1 x2 x3 x4 : Value} (h : w.heap[b]? = some (.cells #[x0, x1, x2, x3, x4] 34 (0, 0))) (h2 : ts[6]? = some (.pointer (some ⟨b, 0, none⟩))) (h3 : ts[7]? = some (.bool B)) (hv : v = .agg #[x0, x1, x2, x3, x4]) :
    (results Tryz.f50 ts).run Tryz.prog w = .ok (.tuple #[v, .bool B]) w := by
  obtain ⟨⟨c0, c1, c2, c3, c4⟩, -⟩ := cells5 h
  simp [results, Tryz.results50, go_sem, c0, c1, c2, c3, c4, h2, h3, hv]

theorem keepsRow (w : World) (b : Nat) (c : Array Value) : Keeps (fun z => z = b) w (w.setRow b c) := ⟨rfl, rfl, rfl, by simp [World.setRow], fun k _ hk => heap_setRow_other _ _ _ _ hk⟩
/-- The world ahead of copied's loop. -/
structure Cop0 (w : World) (A : Array Value) (q : Nat) (x : Int) (wr : World) : Prop where
  keeps : Keeps (fun b => b = q) w wr
  box : wr.heap[w.heap.size]? = some (.cells A 34 (0, 0))
  res : wr.heap[w.heap.size + 1]? = some (.cells zV 34 (0, 0))
  cnt : wr.heap[q]? = some (.cells #[.int .i64 x] 3 (0, 0))

theorem Cop0.put {w w3 : World} {A c' : Array Value} {q : Nat} {X : Int} (h : Cop0 w A q X w3) (hq : q < w.heap.size) (hs : c'.size = 5) (h1 : c'.all (·.oneCell') = true) :
    (stV (.pointer (some ⟨w.heap.size + 1, 0, none⟩)) (.agg c')).run Tryz.prog w3 = .ok .skip (w3.setRow (w.heap.size + 1) c') ∧
    Hid (∀ w4, w4 = w3.setRow (w.heap.size + 1) c' → w4.heap[w.heap.size + 1]? = some (.cells c' 34 (0, 0)) ∧ Keeps (fun b => b = q) w w4 ∧ w4.heap[q]? = some (.cells #[.int .i64 X] 3 (0, 0))) := by
  refine ⟨storeV_blk h.res rfl hs h1, fun w4 e => ?_⟩
  subst e
  refine ⟨heap_setRow_at h.res, h.keeps.trans (keepsRow w3 _ _) (fun _ _ h => h) (fun y hy h => absurd h (by omega)), ?_⟩
  rw [heap_setRow_other _ _ _ _ (by omega)]
  exact h.cnt
theorem row_form {w : World} {base n : Nat} {u : Value} {xs : List Value} (h : w.ownsRow base 34 5 u n xs) : ∃ p m c, u = .slice p m c := by
  obtain ⟨-, ⟨rfl, -⟩ | ⟨g, cap, cur, rfl, -⟩⟩ := h
  · exact ⟨_, _, _, rfl⟩
  · exact ⟨_, _, _, rfl⟩
/-- In copied's loop. -/
structure CopR (w : World) (A : Array Value) (v : Val) (q b8 i : Nat) (u : Value) (xs : List Value) (x : Int) (wr : World) : Prop where
  at0 : Cop0 w A q x wr
  hb8 : w.heap.size + 2 ≤ b8
  copy : wr.heap[b8]? = some (.cells (vcs v u) 34 (0, 0))
  row : wr.ownsRow (b8 + 1) 34 5 u i xs
theorem Keeps.none {S : Nat → Prop} {a b : World} (h : Keeps S a b) {k : Nat} {o : Obj} (hk : a.heap[k]? = some o) (hS : ¬ S k) : b.heap[k]? = some o := (h.block k (blk_lt hk) hS).trans hk
theorem CopR.keeps {w wr w' : World} {A : Array Value} {v : Val} {q b8 i : Nat} {u : Value} {xs : List Value} {x x' : Int} (h : CopR w A v q b8 i u xs x wr) (hk : Keeps (fun b => b = q) wr w') (hq : q < w.heap.size) (hc : w'.heap[q]? = some (.cells #[.int .i64 x'] 3 (0, 0))) : CopR w A v q b8 i u xs x' w' where
  at0 := ⟨h.at0.keeps.trans hk (fun _ _ h => h) (fun _ _ h => h), hk.none h.at0.box (fun e => by have e' : w.heap.size = q := e; omega), hk.none h.at0.res (fun e => by have e' : w.heap.size + 1 = q := e; omega), hc⟩
  hb8 := h.hb8
  copy := hk.none h.copy (fun e => by have := h.hb8; have e' : b8 = q := e; omega)
  row := by
    obtain ⟨h1, h2⟩ := h.row
    refine ⟨h1, h2.imp id fun ⟨g, cap, cur, e1, e2, e3, e4⟩ => ⟨g, cap, cur, e1, e2, hk.none e3 (fun e => by have := h.hb8; have e' : g = q := e; omega), e4⟩⟩
theorem CopR.below {w wr w' : World} {A : Array Value} {v : Val} {q b8 i : Nat} {u : Value} {xs : List Value} {x : Int} (h : CopR w A v q b8 i u xs x wr) (hq : q < w.heap.size) (hb : Below wr.heap.size wr w') : CopR w A v q b8 i u xs x w' :=
  h.keeps (Keeps.of_below hb) hq (below_blk hb h.at0.cnt)
/-- One element more. -/
theorem CopR.more {w wr w1 : World} {A : Array Value} {kind nn r : Int} {s : ByteArray} {l : List Val} {q b8 i : Nat} {u u' : Value} {xs xs' : List Value} {x : Int} (h : CopR w A ⟨kind, nn, s, l, r⟩ q b8 i u xs x wr) (hq : q < w.heap.size) (hg : wr.grownBy w1 u.ownBlock) (hr : w1.ownsRow (b8 + 1) 34 5 u' (i + 1) xs') :
    CopR w A ⟨kind, nn, s, l, r⟩ q b8 (i + 1) u' xs' x (w1.setCell ⟨b8, 3, none⟩ u') ∧ w1.heap[b8]? = some (.cells #[.int .u8 kind, .int .i64 nn, .string s, u, .int .i64 r] 34 (0, 0)) := by
  have hne : ∀ k, u.ownBlock = some k → b8 + 1 ≤ k := fun k e => by
    obtain ⟨-, ⟨rfl, -⟩ | ⟨g, cap, cur, rfl, h2, -⟩⟩ := h.row
    · cases e
    · cases e
      exact h2
  have hb8 := h.hb8
  have hk : Keeps (fun b => b8 + 1 ≤ b) wr w1 := Keeps.of_grown hg hne
  have hcp := hk.none h.copy (by show ¬ b8 + 1 ≤ b8; omega)
  have old : ∀ {k : Nat} {o : Obj}, wr.heap[k]? = some o → k < b8 → (w1.setCell ⟨b8, 3, none⟩ u').heap[k]? = some o := fun {k o} e hk8 => by
    rw [Below.heap_setCell w1 ⟨b8, 3, none⟩ _ _ (by simp; omega)]
    exact hk.none e (by show ¬ b8 + 1 ≤ k; omega)
  refine ⟨⟨⟨?_, old h.at0.box (by omega), old h.at0.res (by omega), old h.at0.cnt (by omega)⟩, hb8, ?_, ?_⟩, hcp⟩
  · refine (h.at0.keeps.trans hk (T := fun b => b = q) (fun _ _ h => h) (fun y hy h => by have : b8 + 1 ≤ y := h; omega)).trans (Keeps.setCell (S := fun b => b = b8) w1 ⟨b8, 3, none⟩ u' rfl) (fun _ _ h => h) (fun y hy h => by have : y = b8 := h; omega)
  · rw [blk_setCell hcp]
    rfl
  · obtain ⟨h1, h2⟩ := hr
    refine ⟨h1, h2.imp id fun ⟨g, cap, cur, e1, e2, e3, e4⟩ => ⟨g, cap, cur, e1, e2, ?_, e4⟩⟩
    rw [Below.heap_setCell w1 ⟨b8, 3, none⟩ _ _ (by simp; omega)]
    exact e3

attribute [local go_sem ↓] execOp_stVc31 execOp_stVc55 execOp_stVc62 execOp_ldVc46 in
set_option maxHeartbeats 4000000 in
set_option maxRecDepth 20000 in
theorem cop_step (n : Nat) (ih : ∀ m, n = m + 1 → CopC m) : CopC n := by
  intro v raw w F q x d hd hd40 hS hFq hq
  obtain ⟨pa, c, rfl⟩ := hS.form
  obtain ⟨kind, nn, s, l, r⟩ := v
  have IH := (show Hid _ from ih)
  have HS := (show Hid (SlAt w F (.slice pa l.length c) l) from hS)
  have HFq := (show Hid (¬ F q) from hFq)
  have hqlt := blk_lt hq
  have hq2 : ((w.alloc (.cells #[.int .u8 kind, .int .i64 nn, .string s, .slice pa l.length c, .int .i64 r] 34)).alloc (.cells zV 34)).heap[q]? = some (.cells #[.int .i64 x] 3 (0, 0)) := blk_old _ _ (blk_old _ _ hq)
  have hcq := cell_blk hq2 0
  have hfq := frozen_blk hq2 0
  have H2 := (show Hid _ from hq2)
  have Hq := (show Hid _ from hq)
  clear ih hS hFq hq hq2
  simp only [vcs]
  simp only [zV] at hcq hfq
  go_enter Tryz.func50, Tryz.ntmps50
  go_upto_region 2 with fail
  have HC : Hid (Cop0 w #[.int .u8 kind, .int .i64 nn, .string s, .slice pa l.length c, .int .i64 r] q (wrap64 (x - 1)) (((w.setCell ⟨q, 0, none⟩ (.int .i64 (wrap64 (x - 1)))).alloc (.cells #[.int .u8 kind, .int .i64 nn, .string s, .slice pa l.length c, .int .i64 r] 34)).alloc (.cells zV 34))) := by
    refine ⟨((Keeps.setCell (S := fun b => b = q) w ⟨q, 0, none⟩ _ rfl).alloc _).alloc _, ?_, ?_, ?_⟩
    · have := blk2_old (w.setCell ⟨q, 0, none⟩ (.int .i64 (wrap64 (x - 1)))) (.cells #[.int .u8 kind, .int .i64 nn, .string s, .slice pa l.length c, .int .i64 r] 34) (.cells zV 34)
      simpa using this
    · have := blk2_new (w.setCell ⟨q, 0, none⟩ (.int .i64 (wrap64 (x - 1)))) (.cells #[.int .u8 kind, .int .i64 nn, .string s, .slice pa l.length c, .int .i64 r] 34) (.cells zV 34)
      simpa using this
    · exact blk_old _ _ (blk_old _ _ (by rw [blk_setCell Hq.out]; rfl))
  simp only [zV] at HC
  revert HC
  generalize ((w.setCell _ _).alloc _).alloc _ = w3
  generalize wrap64 (x - 1) = X
  intro HC
  clear hcq hfq H2
  have hcq : w3.cell? ⟨q, 0, none⟩ = some (.int .i64 X) := by rw [cell_blk HC.out.cnt]; rfl
  obtain ⟨⟨a0, a1, a2, a3, a4⟩, -⟩ := cells5 HC.out.box
  by_cases hbad : X < 0 ∨ d < 0 ∨ 600 < (l.length : Int)
  · obtain ⟨hst, HE⟩ := HC.out.put (c' := #[.int .u8 kind, .int .i64 nn, .string s, .slice pa l.length c, .int .i64 r]) hqlt rfl (by simp [go_sem])
    clear HC
    by_cases h0 : X < 0
    · go_wp2_with fail
      refine bodyPost_ret (results_Cop _ _ _ _ _ (HE.out _ rfl).1 rfl rfl rfl) rfl (copPost _ _ _ _ (HE.out _ rfl).2.1 (HE.out _ rfl).2.2)
    · by_cases h1 : d < 0
      · go_wp2_with fail
        refine bodyPost_ret (results_Cop _ _ _ _ _ (HE.out _ rfl).1 rfl rfl rfl) rfl (copPost _ _ _ _ (HE.out _ rfl).2.1 (HE.out _ rfl).2.2)
      · have h2 : 600 < (l.length : Int) := by omega
        go_wp2_with fail
        refine bodyPost_ret (results_Cop _ _ _ _ _ (HE.out _ rfl).1 rfl rfl rfl) rfl (copPost _ _ _ _ (HE.out _ rfl).2.1 (HE.out _ rfl).2.2)
  · obtain ⟨h0, h1, h2⟩ : ¬ X < 0 ∧ ¬ d < 0 ∧ ¬ 600 < (l.length : Int) := ⟨fun h => hbad (.inl h), fun h => hbad (.inr (.inl h)), fun h => hbad (.inr (.inr h))⟩
    obtain ⟨m, rfl⟩ : ∃ m, n = m + 1 := by
      cases n with
      | zero => omega
      | succ m => exact ⟨m, rfl⟩
    have hwd : wrap64 (d - 1) = d - 1 := by unfold wrap64; omega
    clear hbad
    go_upto_region 7 with fail
    have HR : Hid (∃ u xs x', CopR w #[.int .u8 kind, .int .i64 nn, .string s, .slice pa l.length c, .int .i64 r] ⟨kind, nn, s, l, r⟩ q w3.heap.size 0 u xs x' (w3.alloc (.cells #[.int .u8 kind, .int .i64 nn, .string s, .slice none 0 0, .int .i64 r] 34))) :=
      ⟨_, [], X, ⟨HC.out.keeps.alloc _, blk_old _ _ HC.out.box, blk_old _ _ HC.out.res, blk_old _ _ HC.out.cnt⟩, by have := blk_lt HC.out.res; omega, blk_new _ _, World.ownsRow_nil _ _ _ _⟩
    revert HR
    generalize w3.alloc _ = w4
    generalize w3.heap.size = b8
    intro HR
    clear HC hcq a0 a1 a2 a3 a4
    clear w3
    go_loopw [9] (fun vi wr => ∃ i : Nat, vi = .int .i64 i ∧ i ≤ l.length ∧ Hid (∃ u xs x', CopR w #[.int .u8 kind, .int .i64 nn, .string s, .slice pa l.length c, .int .i64 r] ⟨kind, nn, s, l, r⟩ q b8 i u xs x' wr)) (fun vi _ => l.length - (intOf vi).toNat)
    case atStart => exact ⟨0, rfl, Nat.zero_le _, HR⟩
    case round =>
      clear HR
      obtain ⟨i, rfl, hi, HR⟩ := hrel
      obtain ⟨u, xs, x', hR⟩ := HR.out
      have HR := (show Hid _ from hR)
      obtain ⟨⟨a0, a1, a2, a3, a4⟩, -⟩ := cells5 hR.at0.box
      by_cases hil : i < l.length
      · obtain ⟨y, hy⟩ : ∃ y, l[i]? = some y := ⟨_, List.getElem?_eq_getElem hil⟩
        have hSr := HS.out.keeps hR.at0.keeps (fun b e hb => HFq.out (by have : b = q := e; rw [← this]; exact hb))
        obtain ⟨b, o, c', raw, hpe, hrg, -, -, hSx⟩ := hSr.range hy
        cases hpe
        obtain ⟨yk, yn, ys, yl, yr⟩ := y
        obtain ⟨pa2, c2, rfl⟩ := hSx.form
        have hld0 := loadV_mid hrg rfl
        have hld : (ldV (.pointer (some ⟨b, o + i * 5, none⟩))).run Tryz.prog wr = .ok (.value (.agg #[.int .u8 yk, .int .i64 yn, .string ys, .slice pa2 yl.length c2, .int .i64 yr])) wr := hld0
        have hiz : (i : Int) < (l.length : Int) := by omega
        have hwi : wrap64 ((i : Int) + 1) = (i : Int) + 1 := by unfold wrap64; omega
        have HSX := (show Hid (SlAt wr F (.slice pa2 yl.length c2) yl) from hSx)
        clear hld0 hy hrg hSx hSr hR
        go_wp2_with fail
        refine (IH.out m rfl ⟨yk, yn, ys, yl, yr⟩ (.slice pa2 yl.length c2) _ F q x' (d - 1) (by omega) (by omega) HSX.out HFq.out HR.out.at0.cnt).mono ?_
        rintro e w5 ⟨raw', B, x5, rfl, ⟨pr, nr, cr, rfl⟩, hk5, hc5⟩
        have HR5 := (show Hid _ from HR.out.keeps hk5 hqlt hc5)
        have HB6 : Hid (Below w5.heap.size w5 (w5.alloc (.cells #[.int .u8 yk, .int .i64 yn, .string ys, .slice pr nr cr, .int .i64 yr] 34))) := (Below.refl _ _).alloc (Nat.le_refl _) _
        have HR6 := (show Hid _ from HR5.out.below hqlt HB6.out)
        clear hk5 hc5 HR HSX hld a0 a1 a2 a3 a4
        simp only [vcs]
        cases B with
        | false =>
          obtain ⟨hst, HE⟩ := HR6.out.at0.put (c' := #[.int .u8 kind, .int .i64 nn, .string s, .slice (some ⟨b, o, none⟩) l.length c, .int .i64 r]) hqlt rfl (by simp [go_sem])
          obtain ⟨⟨a0, a1, a2, a3, a4⟩, -⟩ := cells5 HR6.out.at0.box
          clear HR6 HR5 HB6
          go_wp2_with fail
          refine bodyPost_ret (results_Cop _ _ _ _ _ (HE.out _ rfl).1 rfl rfl rfl) rfl (copPost _ _ _ _ (HE.out _ rfl).2.1 (HE.out _ rfl).2.2)
        | true =>
          go_upto_region 12 with fail
          have HY : Hid ((w5.alloc (.cells #[.int .u8 yk, .int .i64 yn, .string ys, .slice pr nr cr, .int .i64 yr] 34)).heap[w5.heap.size]? = some (.cells #[.int .u8 yk, .int .i64 yn, .string ys, .slice pr nr cr, .int .i64 yr] 34 (0, 0))) := blk_new _ _
          clear HB6 HR5
          revert HR6 HY
          generalize w5.alloc _ = w6
          generalize w5.heap.size = b10
          intro HR6 HY
          clear w5
          have hcp := HR6.out.copy
          simp only [vcs] at hcp
          have e3 := cell_blk hcp 3
          obtain ⟨⟨y0, y1, y2, y3, y4⟩, -⟩ := cells5 HY.out
          have HRW := (show Hid _ from HR6.out.row)
          have HN : Hid ((i : Int) ≤ 1000) := (by omega : (i : Int) ≤ 1000)
          have HBs : Hid (b8 + 1 ≤ w6.heap.size) := blk_lt HR6.out.copy
          clear hcp HY
          go_wp2_with (at_builtin; refine append_valS rfl _ _ rfl (b8 + 1) u xs i rfl HRW ⟨yk, yn, ys, yl, yr⟩ (.slice pr nr cr) ⟨_, _, _, rfl⟩ rfl HN HBs ?_; intro v' w7 hrow hg
                       obtain ⟨p9, n9, c9, e9⟩ := row_form hrow.out
                       subst e9
                       obtain ⟨hR7, hb7⟩ := HR6.out.more hqlt hg.out hrow.out
                       have e7 := cell_blk hb7 3
                       have f7 := frozen_blk hb7 3
                       have HR7 := (show Hid _ from hR7)
                       clear hrow hg hR7 hb7 HR6 HRW e3)
          go_roundw
          case rel => exact ⟨i + 1, by go_num, by omega, _, _, _, HR7.out⟩
          case measure => simp [intOf]; omega
      · obtain rfl : i = l.length := by omega
        have hiz : ¬ ((l.length : Int) < (l.length : Int)) := by omega
        obtain ⟨p8, n8, c8, rfl⟩ := row_form hR.row
        obtain ⟨hst, HE⟩ := hR.at0.put (c' := #[.int .u8 kind, .int .i64 nn, .string s, .slice p8 n8 c8, .int .i64 r]) hqlt rfl (by simp [go_sem])
        have hcp := hR.copy
        simp only [vcs] at hcp
        obtain ⟨⟨b0, b1, b2, b3, b4⟩, -⟩ := cells5 hcp
        clear hcp hR HR
        go_wp2_with fail
        refine bodyPost_ret (results_Cop _ _ _ _ _ (HE.out _ rfl).1 rfl rfl rfl) rfl (copPost _ _ _ _ (HE.out _ rfl).2.1 (HE.out _ rfl).2.2)
theorem copied_W (n : Nat) : CopC n := by
  induction n with
  | zero => exact cop_step 0 (fun m h => by cases h)
  | succ n ih => exact cop_step (n + 1) (fun m h => by cases h; exact ih)

end Go.Proofs.YtcoiccbmcjdheaaGreat
/- room of posternlaw08 at any value. -/
namespace Go.Proofs.YtcoiccbmcjdheaaGreat
open Go.RowKit Go.ChangeMaps Go.MapKept

def RoomPost (w : World) (v : Val) (e : Ending) (w' : World) : Prop :=
  ∃ raw' B, e = .returned (.tuple #[.agg (vcs v raw'), .bool B]) ∧ (∃ p n c, raw' = .slice p n c) ∧ Below w.heap.size w w'
theorem execOp_stVr7 (ρ : Operand → Value) (ty : TypeId) (pos : String) (af : Array Edge) (g : Option (Nat × Bool)) :
    execOp ρ { dst := none, op := .store 34 (.tmp 2) (.tmp 7), type := ty, pos := pos, after := af, guard := g } = stV (ρ (.tmp 2)) (ρ (.tmp 7)) := rfl
theorem results_Room (w : World) (b : Nat) (v : Value) (B : Bool) (ts : Array Value) {x0 x1 x2 x3 x4 : Value} (h : w.heap[b]? = some (.cells #[x0, x1, x2, x3, x4] 34 (0, 0))) (h2 : ts[2]? = some (.pointer (some ⟨b, 0, none⟩))) (h3 : ts[3]? = some (.bool B)) (hv : v = .agg #[x0, x1, x2, x3, x4]) :
    (results Tryz.f26 ts).run Tryz.prog w = .ok (.tuple #[v, .bool B]) w := by
  obtain ⟨⟨c0, c1, c2, c3, c4⟩, -⟩ := cells5 h
  simp [results, Tryz.results26, go_sem, c0, c1, c2, c3, c4, h2, h3, hv]

attribute [local go_sem ↓] execOp_stVr7 in
set_option maxHeartbeats 4000000 in
set_option maxRecDepth 20000 in
theorem room_W {w : World} {F : Nat → Prop} (v : Val) (raw : Value) (hS : SlAt w F raw v.l) : Calls Tryz.prog 26 #[.agg (vcs v raw)] w (RoomPost w v) := by
  obtain ⟨pa, c, rfl⟩ := hS.form
  have hS3 := (((hS.lt.on ((Below.refl _ _).alloc (Nat.le_refl _) (.cells (vcs v (.slice pa v.l.length c)) 34))).on ((Below.refl _ _).alloc (Nat.le_refl _) (.cells zV 34)))).on ((Below.refl _ _).alloc (Nat.le_refl _) (.cells #[.int .i64 600] 3))
  have hcall := copied_W 41 v (.slice pa v.l.length c) _ _ (w.heap.size + 2) 600 40 (by decide) (by decide) hS3 (fun e => by have := e.2; omega) (by
    have := blk_new ((w.alloc (.cells (vcs v (.slice pa v.l.length c)) 34)).alloc (.cells zV 34)) (.cells #[.int .i64 600] 3)
    simpa using this)
  have HB3 : Hid (Below w.heap.size w (((w.alloc (.cells (vcs v (.slice pa v.l.length c)) 34)).alloc (.cells zV 34)).alloc (.cells #[.int .i64 600] 3)) ∧
      (((w.alloc (.cells (vcs v (.slice pa v.l.length c)) 34)).alloc (.cells zV 34)).alloc (.cells #[.int .i64 600] 3)).heap[w.heap.size + 1]? = some (.cells zV 34 (0, 0))) :=
    ⟨(((Below.refl _ _).alloc (Nat.le_refl _) _).alloc (by simp) _).alloc (by simp; omega) _, blk_old _ _ (blk2_new _ _ _)⟩
  obtain ⟨kind, nn, s, l, r⟩ := v
  have HC := (show Hid _ from hcall)
  clear hS hS3 hcall
  simp only [vcs, zV] at HC HB3 ⊢
  go_enter Tryz.func26, Tryz.ntmps26
  go_wp2_with fail
  refine Calls.mono HC.out ?_
  rintro e w4 ⟨raw', B, x', rfl, ⟨p, m, c', rfl⟩, hk, -⟩
  have HB4 : Hid (Below w.heap.size w w4) := HB3.out.1.trans (hk.below HB3.out.1.size fun y hy => by have : y = w.heap.size + 2 := hy; omega)
  have hg : w4.heap[w.heap.size + 1]? = some (.cells #[.int .u8 0, .int .i64 0, .string ⟨#[]⟩, .slice none 0 0, .int .i64 0] 34 (0, 0)) := hk.none HB3.out.2 (fun e => by have : w.heap.size + 1 = w.heap.size + 2 := e; omega)
  have hst := storeV_blk (c' := #[.int .u8 kind, .int .i64 nn, .string s, .slice p m c', .int .i64 r]) hg rfl rfl (by simp [go_sem])
  have HG := (show Hid _ from heap_setRow_at (c' := #[.int .u8 kind, .int .i64 nn, .string s, .slice p m c', .int .i64 r]) hg)
  clear hk hg HC HB3
  simp only [vcs]
  go_wp2_with fail
  refine bodyPost_ret (results_Room _ _ _ B _ HG.out rfl rfl rfl) rfl ⟨_, B, rfl, ⟨p, m, c', rfl⟩, Below.setRow HB4.out (by omega) _⟩
end Go.Proofs.YtcoiccbmcjdheaaGreat
/- all of posternlaw08: what a list is of which it says yes. -/
namespace Go.Proofs.YtcoiccbmcjdheaaGreat
open Go.RowKit Go.ChangeMaps Go.MapKept

set_option maxHeartbeats 1000000 in
set_option maxRecDepth 8000 in
theorem vParts_G {w : World} {F : Nat → Prop} {v : Val} {raw : Value} (hS : SlAt w F raw v.l) : Calls Tryz.prog 29 #[.agg (vcs v raw)] w fun e w' => e = .returned (.int .i64 (partsV v)) ∧ Below w.heap.size w w' := by
  obtain ⟨pa, c, rfl⟩ := hS.form
  have hb0 : Below w.heap.size w (w.alloc (.cells (vcs v (.slice pa v.l.length c)) 34)) := (Below.refl _ _).alloc (Nat.le_refl _) _
  have HM := (show Hid _ from And.intro hb0 (measure_W (hS.on hb0)))
  obtain ⟨kind, n, s, l, r⟩ := v
  clear hS hb0
  simp only [vcs] at HM ⊢
  go_enter Tryz.func29, Tryz.ntmps29
  go_wp2_with fail
  refine Calls.mono HM.out.2 ?_
  rintro e w1 ⟨rfl, hb⟩
  have HB : Hid (Below w.heap.size w w1) := HM.out.1.trans (hb.mono HM.out.1.size)
  clear hb HM
  go_wp2_with fail
  go_ret
  exact ⟨rfl, HB.out⟩

/-- What all says yes of. -/
def AllOk (l : List Val) : Prop := (∀ x ∈ l, mayV x = true ∧ refsV x = []) ∧ l.length ≤ 100 ∧ (l.map partsV).sum < 500
def AllQ (w : World) (l : List Val) (e : Ending) (w' : World) : Prop := ∃ B, e = .returned (.bool B) ∧ Below w.heap.size w w' ∧ (B = true → AllOk l)
/-- In all's loop. -/
def AllR (w : World) (l : List Val) (k : Nat) (sum : Nat) (wr : World) : Prop := Below w.heap.size w wr ∧ (∀ x ∈ l.take k, mayV x = true ∧ refsV x = []) ∧ sum = ((l.take k).map partsV).sum ∧ sum ≤ 512 * k
theorem row_nil_len {w : World} {base n : Nat} {u : Value} {xs : List Value} (h : w.ownsRow base 28 1 u n xs) : ∃ p c, u = .slice p n c := by
  obtain ⟨-, ⟨rfl, rfl⟩ | ⟨g, cap, cur, rfl, -⟩⟩ := h
  · exact ⟨_, _, rfl⟩
  · exact ⟨_, _, rfl⟩

theorem execOp_ldVa20 (ρ : Operand → Value) (ty : TypeId) (pos : String) (af : Array Edge) (g : Option (Nat × Bool)) :
    execOp ρ { dst := some 20, op := .load 34 (.tmp 19), type := ty, pos := pos, after := af, guard := g } = ldV (ρ (.tmp 19)) := rfl
theorem execOp_ldVa30 (ρ : Operand → Value) (ty : TypeId) (pos : String) (af : Array Edge) (g : Option (Nat × Bool)) :
    execOp ρ { dst := some 30, op := .load 34 (.tmp 29), type := ty, pos := pos, after := af, guard := g } = ldV (ρ (.tmp 29)) := rfl
theorem execOp_ldVa38 (ρ : Operand → Value) (ty : TypeId) (pos : String) (af : Array Edge) (g : Option (Nat × Bool)) :
    execOp ρ { dst := some 38, op := .load 34 (.tmp 37), type := ty, pos := pos, after := af, guard := g } = ldV (ρ (.tmp 37)) := rfl
theorem execOp_ldVa47 (ρ : Operand → Value) (ty : TypeId) (pos : String) (af : Array Edge) (g : Option (Nat × Bool)) :
    execOp ρ { dst := some 47, op := .load 34 (.tmp 46), type := ty, pos := pos, after := af, guard := g } = ldV (ρ (.tmp 46)) := rfl
attribute [local go_sem ↓] execOp_ldVa20 execOp_ldVa30 execOp_ldVa38 execOp_ldVa47 in
set_option maxHeartbeats 4000000 in
set_option maxRecDepth 20000 in
theorem all08_W {w : World} {F : Nat → Prop} (l : List Val) (s : Value) (hS : SlAt w F s l) : Calls Tryz.prog 7 #[s] w (AllQ w l) := by
  obtain ⟨pa, c, rfl⟩ := hS.form
  have HS := (show Hid (SlAt w F (.slice pa l.length c) l) from hS)
  clear hS
  by_cases h100 : (l.length : Int) > 100
  · go_enter Tryz.func7, Tryz.ntmps7
    go_wp2_with fail
    go_ret
    exact ⟨false, rfl, Below.refl _ _, fun h => by cases h⟩
  · go_enter Tryz.func7, Tryz.ntmps7
    go_wp2_with fail
    go_loopw [3, 4] (fun vs vi wr => ∃ (k sum : Nat), vs = .int .i64 sum ∧ vi = .int .i64 k ∧ k ≤ l.length ∧ Hid (AllR w l k sum wr)) (fun _ vi _ => l.length - (intOf vi).toNat)
    case atStart => exact ⟨0, 0, rfl, rfl, Nat.zero_le _, Below.refl _ _, fun x hx => by simp at hx, by simp, by omega⟩
    case round =>
      obtain ⟨k, sum, rfl, rfl, hk, HI⟩ := hrel
      by_cases hkl : k < l.length
      · have hkz : (k : Int) < (l.length : Int) := by omega
        obtain ⟨x, hx⟩ : ∃ x, l[k]? = some x := ⟨_, List.getElem?_eq_getElem hkl⟩
        obtain ⟨b, o, c', raw, hpe, -, -, -, hSx⟩ := (HS.out.on HI.out.1).range hx
        cases hpe
        have HRG : Hid (∀ w', Below w.heap.size w w' → ∃ raw', (ldV (.pointer (some ⟨b, o + k * 5, none⟩))).run Tryz.prog w' = .ok (.value (.agg (vcs x raw'))) w' ∧ SlAt w' F raw' x.l) := fun w' hb => by
          obtain ⟨b', o', c'', raw', hpe, hrg, -, -, hSx⟩ := (HS.out.on hb).range hx
          cases hpe
          exact ⟨raw', loadV_mid hrg rfl, hSx⟩
        have Htk : Hid (l.take (k + 1) = l.take k ++ [x]) := by show _ = _; rw [List.take_add_one, hx]; rfl
        have hwk : wrap64 ((k : Int) + 1) = (k : Int) + 1 := by unfold wrap64; omega
        have hpl := partsV_le x
        have hws : wrap64 ((sum : Int) + (partsV x : Int)) = (sum : Int) + (partsV x : Int) := by have := HI.out.2.2.2; unfold wrap64; omega
        clear hx hSx raw
        obtain ⟨raw, hld0, hSx⟩ := HRG.out _ HI.out.1
        obtain ⟨pa2, c2, rfl⟩ := hSx.form
        have HR := (show Hid _ from room_W x (.slice pa2 x.l.length c2) hSx)
        obtain ⟨xk, xn, xs, xl, xr⟩ := x
        have hld : (ldV (.pointer (some ⟨b, o + k * 5, none⟩))).run Tryz.prog wr = .ok (.value (.agg #[.int .u8 xk, .int .i64 xn, .string xs, .slice pa2 xl.length c2, .int .i64 xr])) wr := hld0
        simp only [vcs] at HR
        clear hld0 hSx
        go_wp2_with fail
        refine Calls.mono HR.out ?_
        rintro e w5 ⟨raw', B, rfl, ⟨pr, nr, cr, rfl⟩, hb5⟩
        have HB6 : Hid (Below w.heap.size w (w5.alloc (.cells #[.int .u8 xk, .int .i64 xn, .string xs, .slice pr nr cr, .int .i64 xr] 34))) := (HI.out.1.trans (hb5.mono HI.out.1.size)).alloc (HI.out.1.trans (hb5.mono HI.out.1.size)).size _
        clear hb5 HR hld
        simp only [vcs]
        cases B with
        | false =>
          go_wp2_with fail
          go_ret
          exact ⟨false, rfl, HB6.out, fun h => by cases h⟩
        | true =>
          obtain ⟨raw2, hld0, hSx⟩ := HRG.out _ HB6.out
          obtain ⟨pa3, c3, rfl⟩ := hSx.form
          have HM := (show Hid _ from vMay_G (v := ⟨xk, xn, xs, xl, xr⟩) hSx)
          have hld : (ldV (.pointer (some ⟨b, o + k * 5, none⟩))).run Tryz.prog (w5.alloc (.cells #[.int .u8 xk, .int .i64 xn, .string xs, .slice pr nr cr, .int .i64 xr] 34)) = .ok (.value (.agg #[.int .u8 xk, .int .i64 xn, .string xs, .slice pa3 xl.length c3, .int .i64 xr])) (w5.alloc (.cells #[.int .u8 xk, .int .i64 xn, .string xs, .slice pr nr cr, .int .i64 xr] 34)) := hld0
          simp only [vcs] at HM
          clear hld0 hSx
          cases hmv : mayV ⟨xk, xn, xs, xl, xr⟩ with
          | false =>
            rw [hmv] at HM
            clear hmv
            go_wp2_with fail
            refine Calls.mono HM.out ?_
            rintro e w6 ⟨rfl, hb6⟩
            have HB7 : Hid (Below w.heap.size w w6) := HB6.out.trans (hb6.mono HB6.out.size)
            clear hb6 HM hld HB6
            go_wp2_with fail
            go_ret
            exact ⟨false, rfl, HB7.out, fun h => by cases h⟩
          | true =>
            rw [hmv] at HM
            have Hmv := (show Hid (mayV ⟨xk, xn, xs, xl, xr⟩ = true) from hmv)
            clear hmv
            go_wp2_with fail
            refine Calls.mono HM.out ?_
            rintro e w6 ⟨rfl, hb6⟩
            have HB7 : Hid (Below w.heap.size w w6) := HB6.out.trans (hb6.mono HB6.out.size)
            clear hb6 HM hld HB6
            obtain ⟨raw4, hld0, hSx⟩ := HRG.out _ HB7.out
            obtain ⟨pa4, c4, rfl⟩ := hSx.form
            have HM := (show Hid _ from Refs_G ⟨xk, xn, xs, xl, xr⟩ _ hSx)
            have hld : (ldV (.pointer (some ⟨b, o + k * 5, none⟩))).run Tryz.prog w6 = .ok (.value (.agg #[.int .u8 xk, .int .i64 xn, .string xs, .slice pa4 xl.length c4, .int .i64 xr])) w6 := hld0
            simp only [vcs] at HM
            clear hld0 hSx
            go_wp2_with fail
            refine Calls.mono HM.out ?_
            rintro e w7 ⟨u, rfl, hra, hb7⟩
            obtain ⟨pu, cu, rfl⟩ := row_nil_len hra
            have HB8 : Hid (Below w.heap.size w w7) := HB7.out.trans (hb7.mono HB7.out.size)
            clear hb7 hra HM hld HB7
            by_cases hrf : ((refsV ⟨xk, xn, xs, xl, xr⟩).length : Int) > 0
            · go_wp2_with fail
              go_ret
              exact ⟨false, rfl, HB8.out, fun h => by cases h⟩
            · obtain ⟨raw5, hld0, hSx⟩ := HRG.out _ HB8.out
              obtain ⟨pa5, c5, rfl⟩ := hSx.form
              have HM := (show Hid _ from vParts_G (v := ⟨xk, xn, xs, xl, xr⟩) hSx)
              have hld : (ldV (.pointer (some ⟨b, o + k * 5, none⟩))).run Tryz.prog w7 = .ok (.value (.agg #[.int .u8 xk, .int .i64 xn, .string xs, .slice pa5 xl.length c5, .int .i64 xr])) w7 := hld0
              simp only [vcs] at HM
              clear hld0 hSx
              go_wp2_with fail
              refine Calls.mono HM.out ?_
              rintro e w8 ⟨rfl, hb8⟩
              have HI8 : Hid (AllR w l (k + 1) (sum + partsV ⟨xk, xn, xs, xl, xr⟩) w8) := by
                refine ⟨HB8.out.trans (hb8.mono HB8.out.size), fun y hy => ?_, ?_, ?_⟩
                · rw [Htk.out] at hy
                  rcases List.mem_append.1 hy with hy | hy
                  · exact HI.out.2.1 y hy
                  · simp at hy
                    subst hy
                    exact ⟨Hmv.out, List.length_eq_zero_iff.1 (by omega)⟩
                · rw [Htk.out, List.map_append, List.sum_append, ← HI.out.2.2.1]
                  simp
                · have := HI.out.2.2.2
                  omega
              clear hb8 HM hld HB8
              go_wp2_with fail
              go_roundw
              case rel => exact ⟨k + 1, _, by go_num, by go_num, by omega, HI8⟩
              case measure => simp [intOf]; omega
      · have hkz : ¬ (k : Int) < (l.length : Int) := by omega
        obtain rfl : k = l.length := by omega
        have hkk : ¬ ((l.length : Int) < (l.length : Int)) := by omega
        go_wp2_with fail
        go_ret
        refine ⟨_, rfl, HI.out.1, fun h => ?_⟩
        have h1 := HI.out.2.1
        have h2 := HI.out.2.2.1
        rw [List.take_length] at h1 h2
        have h3 := of_decide_eq_true h
        exact ⟨h1, by omega, by rw [← h2]; omega⟩
end Go.Proofs.YtcoiccbmcjdheaaGreat
/- Are two light things the same? The calls below world.Same: at equal values they say yes. -/
namespace Go.Proofs.YtcoiccbmcjdheaaGreat
open Go.RowKit Go.ChangeMaps Go.MapKept

set_option maxRecDepth 8000 in
theorem cmpI64_W (w : World) (a : Int) : Calls Tryz.prog 63 #[.int .i64 a, .int .i64 a] w fun e w' => e = .returned (.int .i64 0) ∧ w = w' := by
  have h1 : ¬ (a < a) := Int.lt_irrefl a
  have h2 : ¬ (a > a) := Int.lt_irrefl a
  go_enter Tryz.func63, Tryz.ntmps63
  go_wp2
  go_ret
  exact ⟨rfl, rfl⟩
set_option maxRecDepth 8000 in
theorem cmpfVal_nil (w : World) (f : Value) : Calls Tryz.prog 66 #[.slice none 0 0, .slice none 0 0, f] w fun e w' => e = .returned (.int .i64 0) ∧ w = w' := by
  go_enter Tryz.func66, Tryz.ntmps66
  go_wp2_with fail
  go_loopw [13] (fun vi wr => vi = .int .i64 0 ∧ wr = w) (fun _ _ => 0)
  case atStart => exact ⟨rfl, rfl⟩
  case round =>
    obtain ⟨rfl, rfl⟩ := hrel
    go_wp2_with fail
    go_ret
    exact ⟨rfl, rfl⟩




set_option maxRecDepth 8000 in
theorem vorder_W (w : World) (k n : Int) (h : Plain k n) : Calls Tryz.prog 42 #[.agg #[.int .u8 k, .int .i64 n, .string ⟨#[]⟩, .slice none 0 0, .int .i64 0], .agg #[.int .u8 k, .int .i64 n, .string ⟨#[]⟩, .slice none 0 0, .int .i64 0]] w fun e w' => e = .returned (.int .i64 0) ∧ Below w.heap.size w w' := by
  have HB : Hid (Below w.heap.size w ((w.alloc (.cells #[.int .u8 k, .int .i64 n, .string ⟨#[]⟩, .slice none 0 0, .int .i64 0] 34)).alloc (.cells #[.int .u8 k, .int .i64 n, .string ⟨#[]⟩, .slice none 0 0, .int .i64 0] 34))) := ((Below.refl _ _).alloc (Nat.le_refl _) _).alloc (by simp) _
  rcases h with ⟨rfl, rfl⟩ | rfl
  · go_enter Tryz.func42, Tryz.ntmps42
    go_wp2_with fail
    refine (cmpfVal_nil _ _).mono ?_
    rintro e _ ⟨rfl, rfl⟩
    go_wp2_with fail
    go_ret
    exact ⟨rfl, HB.out⟩
  · go_enter Tryz.func42, Tryz.ntmps42
    go_wp2_with fail
    refine (cmpI64_W _ n).mono ?_
    rintro e _ ⟨rfl, rfl⟩
    go_wp2_with fail
    go_ret
    exact ⟨rfl, HB.out⟩

set_option maxRecDepth 8000 in
theorem vSame_W (w : World) (k n : Int) (h : Plain k n) : Calls Tryz.prog 20 #[.agg #[.int .u8 k, .int .i64 n, .string ⟨#[]⟩, .slice none 0 0, .int .i64 0], .agg #[.int .u8 k, .int .i64 n, .string ⟨#[]⟩, .slice none 0 0, .int .i64 0]] w fun e w' => e = .returned (.bool true) ∧ Below w.heap.size w w' := by
  go_enter Tryz.func20, Tryz.ntmps20
  go_wp2_with fail
  refine (vMay_W _ k n h).mono ?_
  rintro e w1 ⟨rfl, hb1⟩
  have HB1 : Hid (Below w.heap.size w w1) := (((Below.refl _ w).alloc (Nat.le_refl _) _).alloc (by simp) _).trans (hb1.mono (by simp; omega))
  obtain ⟨⟨a0, a1, a2, a3, a4⟩, -⟩ := cells5 (below_blk hb1 (blk2_old w _ _))
  obtain ⟨⟨b0, b1, b2, b3, b4⟩, -⟩ := cells5 (below_blk hb1 (blk2_new w _ _))
  have HA := (show Hid _ from below_blk hb1 (blk2_old w _ _))
  have HC := (show Hid _ from below_blk hb1 (blk2_new w _ _))
  clear hb1
  go_wp2_with fail
  refine (vMay_W _ k n h).mono ?_
  rintro e w2 ⟨rfl, hb2⟩
  have HB2 : Hid (Below w.heap.size w w2) := HB1.out.trans (hb2.mono HB1.out.size)
  have hA2 := below_blk hb2 HA.out
  have hC2 := below_blk hb2 HC.out
  clear a0 a1 a2 a3 a4 b0 b1 b2 b3 b4
  obtain ⟨⟨a0, a1, a2, a3, a4⟩, -⟩ := cells5 hA2
  obtain ⟨⟨b0, b1, b2, b3, b4⟩, -⟩ := cells5 hC2
  clear hb2 hA2 hC2 HA HC HB1
  go_wp2_with fail
  refine (vorder_W _ k n h).mono ?_
  rintro e w3 ⟨rfl, hb3⟩
  have HB3 : Hid (Below w.heap.size w w3) := HB2.out.trans (hb3.mono HB2.out.size)
  clear hb3 a0 a1 a2 a3 a4 b0 b1 b2 b3 b4
  go_wp2_with fail
  go_ret
  exact ⟨rfl, HB3.out⟩
end Go.Proofs.YtcoiccbmcjdheaaGreat
