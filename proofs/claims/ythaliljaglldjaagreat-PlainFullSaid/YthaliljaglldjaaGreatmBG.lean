/- A part of the proof, several texts in one: Spoil, Md, Fu1, FuK. -/
import Derived.Test.YthaliljaglldjaaGreatmBF
import Derived.Test.YthaliljaglldjaaGreatmAU
/- spoil of posternlaw08: a value's lists are written over, and nothing else. -/
namespace Go.Proofs.YthaliljaglldjaaGreat
open Go.RowKit Go.ChangeMaps Go.MapKept
theorem Below.setCells {w w' : World} {F : Nat → Prop} {b : Nat} (h : Keeps F w w') (hF : F b) : ∀ (cs : List Value) (o : Nat), Keeps F w (w'.setCells b o cs)
  | [], _ => h
  | v :: r, o => by
    show Keeps F w ((w'.setCell ⟨b, o, none⟩ v).setCells b (o + 1) r)
    refine Below.setCells (h.trans (Keeps.setCell (S := F) w' ⟨b, o, none⟩ v hF) (fun _ _ h => h) (fun _ _ h => h)) hF r (o + 1)
theorem storeV_mid {w : World} {b o : Nat} {cs : Array Value} (ht : w.there b o cs.size) (hs : cs.size = 5) (h1 : cs.all (·.oneCell') = true) : (stV (.pointer (some ⟨b, o, none⟩)) (.agg cs)).run Tryz.prog w = .ok .skip (w.setCells b o cs.toList) := by
  have := run_storeAt_mid (P := Tryz.prog) w b o 27 cs ht (by rw [hs]; exact sizeValue) h1
  simp only [stV, Sem.run_bind, this, Result.andThen, Sem.run_pure]
def SpoilQ (w : World) (F : Nat → Prop) (w' : World) : Prop := Keeps F w w' ∧ ∀ m u, Sp w F m u → Sp w' F m u
def SpoilC (n : Nat) : Prop := ∀ (k x r : Int) (s : ByteArray) (raw : Value) (w : World) (F : Nat → Prop), (∀ b, F b → b < w.heap.size) → Sp w F n raw →
  Calls Tryz.prog 89 #[.agg #[.int .u8 k, .int .i64 x, .string s, raw, .int .i64 r]] w fun e w' => e = .returned (.tuple #[]) ∧ SpoilQ w F w'
structure SpL (w : World) (F : Nat → Prop) (A : Array Value) (wr : World) : Prop where
  q : SpoilQ w F wr
  box : wr.heap[w.heap.size]? = some (.cells A 27 (0, 0))
theorem SpL.next {w wr w5 : World} {F : Nat → Prop} {A : Array Value} (h : SpL w F A wr) (hF : ∀ b, F b → b < w.heap.size) (hq : SpoilQ wr F w5) : SpL w F A w5 :=
  ⟨⟨h.q.1.trans hq.1 (fun _ _ h => h) (fun _ _ h => h), fun m u hu => hq.2 m u (h.q.2 m u hu)⟩, hq.1.none h.box (fun e => by have := hF _ e; omega)⟩
theorem SpL.below {w wr w5 : World} {F : Nat → Prop} {A : Array Value} (h : SpL w F A wr) (hb : Below wr.heap.size wr w5) : SpL w F A w5 :=
  ⟨⟨h.q.1.trans (Keeps.of_below hb) (fun _ _ h => h) (fun _ _ h => h), fun m u hu => (h.q.2 m u hu).on hb⟩, below_blk hb h.box⟩
theorem SpL.over {w wr : World} {F : Nat → Prop} {A : Array Value} (h : SpL w F A wr) (hF : ∀ b, F b → b < w.heap.size) {b j : Nat} (hb : F b) (k x r : Int) (s : ByteArray) :
    SpL w F A (wr.setCells b (j * 5) [.int .u8 k, .int .i64 x, .string s, .slice none 0 0, .int .i64 r]) :=
  ⟨⟨Below.setCells h.q.1 hb _ _, fun m u hu => (h.q.2 m u hu).over b j k x r s⟩, (Below.setCells (Keeps.of_below (S := F) (Below.refl wr.heap.size wr)) hb _ _).none h.box (fun e => by have := hF _ e; omega)⟩
def SplP (B0 b len c i : Nat) (j : Nat) (v : Value) (_ : World) : Prop :=
  match j with
  | 0 => v = .pointer (some ⟨B0, 3, none⟩)
  | 1 => v = .slice (some ⟨b, 0, none⟩) len c
  | 2 => v = .int .i64 i
  | 3 => v = .agg #[.int .u8 1, .int .i64 (-5), .string ⟨#[]⟩, .slice none 0 0, .int .i64 0]
  | 4 => v = .pointer (some ⟨b, i * 5, none⟩)
  | _ => True
theorem execOp_ldSp14 (ρ : Operand → Value) (ty : TypeId) (pos : String) (af : Array Edge) (g : Option (Nat × Bool)) :
    execOp ρ { dst := some 14, op := .load 27 (.tmp 13), type := ty, pos := pos, after := af, guard := g } = ldV (ρ (.tmp 13)) := rfl
theorem execOp_stSp (ρ : Operand → Value) (ty : TypeId) (pos : String) (af : Array Edge) (g : Option (Nat × Bool)) :
    execOp ρ { dst := none, op := .store 27 (.tmp 20) (.tmp 19), type := ty, pos := pos, after := af, guard := g } = stV (ρ (.tmp 20)) (ρ (.tmp 19)) := rfl
attribute [local go_sem ↓] execOp_ldSp14 execOp_stSp in
set_option maxHeartbeats 4000000 in
set_option maxRecDepth 8000 in
theorem spoil_step (n : Nat) (ih : ∀ m, n = m + 1 → SpoilC m) : SpoilC n := by
  intro k x r s raw w F hF hS
  obtain ⟨m, p, len, c, rfl, rfl, hl⟩ := hS.form
  have HS : Hid (∀ w', SpoilQ w F w' → Sp w' F (m + 1) (.slice p len c)) := fun w' h => h.2 _ _ hS
  have HF : Hid ((∀ b, F b → b < w.heap.size) ∧ len ≤ 600) := ⟨hF, hl⟩
  have IH := (show Hid (SpoilC m) from ih m rfl)
  have H0 : Hid (SpL w F #[.int .u8 k, .int .i64 x, .string s, .slice p len c, .int .i64 r] (w.alloc (.cells #[.int .u8 k, .int .i64 x, .string s, .slice p len c, .int .i64 r] 27))) :=
    ⟨⟨Keeps.of_below ((Below.refl _ w).alloc (Nat.le_refl _) _), fun m u hu => hu.on ((Below.refl _ w).alloc (Nat.le_refl _) _)⟩, blk_new _ _⟩
  clear hF hS hl ih
  go_enter Tryz.func89, Tryz.ntmps89
  go_wp2_with fail
  go_loopw [2] (fun vi wr => ∃ i : Nat, vi = .int .i64 i ∧ i ≤ len ∧ Hid (SpL w F #[.int .u8 k, .int .i64 x, .string s, .slice p len c, .int .i64 r] wr)) (fun vi _ => len - (intOf vi).toNat)
  case atStart => exact ⟨0, rfl, Nat.zero_le _, H0.out⟩
  case round =>
    clear H0
    obtain ⟨i, rfl, hi, HR⟩ := hrel
    have c3 : wr.cell? ⟨w.heap.size, 3, none⟩ = some (.slice p len c) := by rw [cell_blk HR.out.box]; rfl
    by_cases hil : i < len
    · have hiz : (i : Int) < (len : Int) := by omega
      have hi0 : (0 : Int) ≤ (i : Int) := by omega
      obtain ⟨b, k', x', s', r', raw', rfl, hFb, hrg, hth, hSr⟩ := (HS.out wr HR.out.q).ent hil
      obtain ⟨m', p', len', c', rfl, rfl, -⟩ := hSr.form
      have hld0 := loadV_mid hrg rfl
      have hld : (ldV (.pointer (some ⟨b, i * 5, none⟩))).run Tryz.prog wr = .ok (.value (.agg #[.int .u8 k', .int .i64 x', .string s', .slice p' len' c', .int .i64 r'])) wr := hld0
      have HX := (show Hid (F b ∧ Sp wr F (m' + 1) (.slice p' len' c')) from ⟨hFb, hSr⟩)
      have hwi : wrap64 ((i : Int) + 1) = (i : Int) + 1 := by have := HF.out.2; unfold wrap64; omega
      clear hrg hth hSr hFb hld0
      go_wp2_with fail
      refine (IH.out k' x' r' s' (.slice p' len' c') wr F (fun b hb => Nat.lt_of_lt_of_le (HF.out.1 b hb) HR.out.q.1.size) HX.out.2).mono ?_
      rintro e w5 ⟨rfl, hq5⟩
      have HR5 := (show Hid (SpL w F _ w5) from HR.out.next HF.out.1 hq5)
      clear hq5 HR c3 hld
      go_upto_region 5 with fail
      have HP5 : Hid (∀ w', Below w5.heap.size w5 w' → w'.cell? ⟨w.heap.size, 3, none⟩ = some (.slice (some ⟨b, 0, none⟩) len c)) := fun w' hb => by rw [cell_blk (below_blk hb HR5.out.box)]; rfl
      have HBx : Hid (w5.heap[w.heap.size]? = some (.cells #[.int .u8 k, .int .i64 x, .string s, .slice (some ⟨b, 0, none⟩) len c, .int .i64 r] 27 (0, 0))) := HR5.out.box
      obtain ⟨B0, hB0⟩ : ∃ B0, B0 = w.heap.size := ⟨_, rfl⟩
      rw [← hB0] at HBx HP5 ⊢
      refine wp_region_growK 5 (by kernel_rfl) rfl (by kernel_rfl) (by kernel_rfl) (fun a b => Below a.heap.size a b) (SplP B0 b len c i) (fun w' => Below w5.heap.size w5 w') (fun j v w w' _ h => h) below_drew (fun a b h hR => h.trans (hR.mono h.size)) ?_ ?_ ?_
      · exact fun _ _ _ _ h1 h2 => noGuard (by kernel_rfl) h1 h2
      · intro j q a w7 hq hC hG
        have hj : j < 5 := (List.getElem?_eq_some_iff.1 hq).1
        match j, hj with
        | 0, _ => cases hq; have h1' : a.tmps[1]?.getD undef = .pointer (some ⟨B0, 0, none⟩) := gq (hG.fr 1 (by simp)); unfold Oper.wp; simp [go_sem, Act.eval, h1']; exact ⟨_, rfl, Below.refl _ _, rfl⟩
        | 1, _ =>
          cases hq
          have h16' : a.tmps[16]?.getD undef = .pointer (some ⟨B0, 3, none⟩) := gq (hG.dep ⟨0, .data⟩ (by simp) rfl _ rfl)
          have c3 : w7.cell? ⟨B0, 3, none⟩ = some (.slice (some ⟨b, 0, none⟩) len c) := by rw [cell_blk (below_blk hC HBx.out)]; rfl
          unfold Oper.wp
          simp [go_sem, Act.eval, h16', c3]
          exact ⟨_, rfl, Below.refl _ _, rfl⟩
        | 2, _ => cases hq; have h2' : a.tmps[2]?.getD undef = .int .i64 i := gq (hG.fr 2 (by simp)); unfold Oper.wp; simp [go_sem, Act.eval, h2']; exact ⟨_, rfl, Below.refl _ _, rfl⟩
        | 3, _ =>
          cases hq
          unfold Oper.wp
          simp [go_sem, callFunc, Act.eval, Tryz.func65]
          refine Calls.mono (num08_W _ _) ?_
          rintro e w8 ⟨rfl, hb8⟩
          exact ⟨_, rfl, hb8, rfl⟩
        | 4, _ => cases hq; have h17' : a.tmps[17]?.getD undef = .slice (some ⟨b, 0, none⟩) len c := gq (hG.dep ⟨1, .data⟩ (by simp) rfl _ rfl); have h18' : a.tmps[18]?.getD undef = .int .i64 i := gq (hG.dep ⟨2, .data⟩ (by simp) rfl _ rfl); unfold Oper.wp; simp [go_sem, Act.eval, h17', h18', hiz, hi0]; exact ⟨_, rfl, Below.refl _ _, rfl⟩
      · intro a w7 hC hdf hsz hfr hphi
        have e0 : a.tmps.getD 16 undef = .pointer (some ⟨B0, 3, none⟩) := hphi 0 _ rfl
        have e1 : a.tmps.getD 17 undef = .slice (some ⟨b, 0, none⟩) len c := hphi 1 _ rfl
        have e2 : a.tmps.getD 18 undef = .int .i64 i := hphi 2 _ rfl
        have e3 : a.tmps.getD 19 undef = .agg #[.int .u8 1, .int .i64 (-5), .string ⟨#[]⟩, .slice none 0 0, .int .i64 0] := hphi 3 _ rfl
        have e4 : a.tmps.getD 20 undef = .pointer (some ⟨b, i * 5, none⟩) := hphi 4 _ rfl
        have ha := act_of hdf hsz hfr
        simp only [List.take_succ_cons, List.take_zero, List.filterMap_cons, List.filterMap_nil, List.foldl_cons, List.foldl_nil, List.setIfInBounds_toArray, List.set_cons_zero, List.set_cons_succ, e0, e1, e2, e3, e4] at ha
        clear hdf hsz hfr hphi e0 e1 e2 e3 e4
        subst ha
        have HR7 := (show Hid (SpL w F _ w7) from HR5.out.below hC)
        obtain ⟨b', _, _, _, _, _, e', -, hrg, hth, -⟩ := (HS.out w7 HR7.out.q).ent hil
        cases e'
        have hst := storeV_mid (cs := #[.int .u8 1, .int .i64 (-5), .string ⟨#[]⟩, .slice none 0 0, .int .i64 0]) hth rfl (by simp [go_sem])
        have HR8 := (show Hid (SpL w F _ _) from HR7.out.over HF.out.1 (j := i) HX.out.1 1 (-5) 0 ⟨#[]⟩)
        clear hrg hth HR7 HP5 HBx hC HR5
        subst hB0
        refine ⟨rfl, ?_⟩
        unfold Oper.wp
        rw [execOp_stSp]
        simp [Act.eval, go_sem, hst, wpTailG]
        refine ‹∀ (a : Act) (w : World), Code.wp Tryz.prog _ _ a w → _› _ _ ?_
        clear hst
        revert HR8
        generalize World.setCells _ _ _ _ = w8
        intro HR8
        go_wp2_with fail
        go_roundw
        case rel => exact ⟨i + 1, by go_num, by omega, HR8.out⟩
        case measure => (rw [hwi]; clear hwi; simp [intOf]; omega)
    · have hiz : ¬ (i : Int) < (len : Int) := by omega
      have HQ := (show Hid (SpoilQ w F wr) from HR.out.q)
      clear HR
      go_wp2_with fail
      go_end0
      exact ⟨rfl, HQ.out⟩
theorem spoil_G (n : Nat) : SpoilC n := by
  induction n with
  | zero => exact spoil_step 0 (fun m h => by cases h)
  | succ n ih => exact spoil_step (n + 1) (fun m h => by cases h; exact ih)
end Go.Proofs.YthaliljaglldjaaGreat
/- made of posternlaw08: what is known between its calls. -/
namespace Go.Proofs.YthaliljaglldjaaGreat
open Go.RowKit Go.ChangeMaps Go.MapKept
def stepc (d k h on ab : Int) (v : Val) (raw : Value) : Array Value := #[.int .i64 d, .int .u8 k, .int .i64 h, .int .i64 on, .int .u8 ab, .int .u8 v.kind, .int .i64 v.n, .string v.s, raw, .int .i64 v.r]
theorem stepld_v {w : World} {b : Nat} {d k h on ab : Int} {v : Val} {raw : Value} (hg : w.heap[b]? = some (.cells (stepc d k h on ab v raw) 49 (0, 0))) : (ldV (.pointer (some ⟨b, 5, none⟩))).run Tryz.prog w = .ok (.value (.agg (vcs v raw))) w := by
  have := loadV_mid (w := w) (b := b) (o := 5) (cs := (vcs v raw).toList) (fun j y hj => by
    rw [cell_blk hg]
    match j, hj with
    | 0, hj => exact hj
    | 1, hj => exact hj
    | 2, hj => exact hj
    | 3, hj => exact hj
    | 4, hj => exact hj
    | j + 5, hj => simp [vcs] at hj) (by simp [vcs])
  rw [Array.toArray_toList] at this
  exact this
structure MdW (n n7 : Nat) (d k h on ab : Int) (v vd : Val) (raw raw' rawd : Value) (F1 : Nat → Prop) (w : World) : Prop where
  lt : n < n7
  b5 : w.heap[n]? = some (.cells (stepc d k h on ab v raw) 49 (0, 0))
  b7 : w.heap[n7]? = some (.cells (vcs v raw') 27 (0, 0))
  b12 : w.heap[n7 + 1]? = some (.cells (vcs vd rawd) 27 (0, 0))
  sl : SlAt w (fun b => n + 1 ≤ b ∧ b < n7) raw' v.l
  sp : Sp w (fun b => n + 1 ≤ b ∧ b < n7) 42 raw'
  sv : SlAt w F1 raw v.l
  sd : SlAt w F1 rawd vd.l
section
variable {n n7 : Nat} {d k h on ab : Int} {v vd : Val} {raw raw' rawd : Value} {F1 : Nat → Prop} {w w' : World}
theorem MdW.keeps {S : Nat → Prop} (m : MdW n n7 d k h on ab v vd raw raw' rawd F1 w) (hk : Keeps S w w') (h1 : ∀ b, S b → b < n) (h2 : ∀ b, S b → ¬ F1 b) : MdW n n7 d k h on ab v vd raw raw' rawd F1 w' where
  lt := m.lt
  b5 := hk.none m.b5 (fun e => by have := h1 _ e; omega)
  b7 := hk.none m.b7 (fun e => by have := h1 _ e; have := m.lt; omega)
  b12 := hk.none m.b12 (fun e => by have := h1 _ e; have := m.lt; omega)
  sl := m.sl.keeps hk fun b hb hF => by have := h1 b hb; omega
  sp := m.sp.keeps hk fun b hb hF => by have := h1 b hb; omega
  sv := m.sv.keeps hk fun b hb hF => h2 b hb hF
  sd := m.sd.keeps hk fun b hb hF => h2 b hb hF
theorem MdW.below (m : MdW n n7 d k h on ab v vd raw raw' rawd F1 w) (hb : Below w.heap.size w w') : MdW n n7 d k h on ab v vd raw raw' rawd F1 w' :=
  m.keeps (S := fun _ => False) (Keeps.of_below hb) (fun _ h => h.elim) (fun _ h => h.elim)
theorem MdW.zero (m : MdW n n7 d k h on ab v v raw raw' raw F1 w) (hF : ∀ b, F1 b → b < n) (e : w' = w.setRow (n7 + 1) zV) : MdW n n7 d k h on ab v ⟨0, 0, ⟨#[]⟩, [], 0⟩ raw raw' (.slice none 0 0) F1 w' ∧ Below n w w' := by
    have hk := keepsRow w (n7 + 1) zV
    rw [← e] at hk
    have hlt := m.lt
    refine ⟨⟨m.lt, hk.none m.b5 (fun e => by have e' : n = n7 + 1 := e; omega), hk.none m.b7 (fun e => by have e' : n7 = n7 + 1 := e; omega), ?_, m.sl.keeps hk fun b e hb => by have e' : b = n7 + 1 := e; omega, m.sp.keeps hk fun b e hb => by have e' : b = n7 + 1 := e; omega, ?_, SlAt.nil _ _ _ _⟩, hk.below (by have := blk_lt m.b5; omega) fun b e => by have e' : b = n7 + 1 := e; omega⟩
    · rw [e]
      exact heap_setRow_at m.b12
    · exact m.sv.keeps hk fun b e hb => by have e' : b = n7 + 1 := e; have := hF b hb; omega
end
theorem ret2_inj {a b c d : Int} (h : Ending.returned (.tuple #[.int .i64 a, .int .i64 b]) = .returned (.tuple #[.int .i64 c, .int .i64 d])) : a = c ∧ b = d := by
  cases h
  exact ⟨rfl, rfl⟩
theorem made8_form {w w' : World} {q : Nat} {N : WM} {G : Nat → Prop} {k h : Int} {v : Val} {raw : Value} {e : Ending} (hm : Made8 w q N G k h v raw e w') : ∃ r a, e = .returned (.tuple #[.int .i64 r, .int .i64 a]) := by
  rcases hm with ⟨-, rfl, -⟩ | ⟨-, ⟨-, rfl, -⟩ | ⟨-, -, rfl, -⟩ | ⟨-, -, rfl, -⟩⟩ <;> exact ⟨_, _, rfl⟩
theorem made8_keeps {w w' : World} {q : Nat} {N : WM} {G : Nat → Prop} {k h : Int} {v : Val} {raw : Value} {e : Ending} (hm : Made8 w q N G k h v raw e w') : Keeps G w w' := by
  rcases hm with ⟨-, -, h⟩ | ⟨-, ⟨-, -, h⟩ | ⟨-, -, -, h⟩ | ⟨-, -, -, _, _, _, -, h, -⟩⟩
  · exact Keeps.of_below h
  · exact Keeps.of_below h
  · exact Keeps.of_below h
  · exact h
theorem thc_oneR {w : World} {q : Nat} {N : WM} {G : Nat → Prop} {t : Th} (h : IsR w q (N.add t) G) : (thc t).all (·.oneCell') = true := by
  obtain ⟨sP, sC, sT, sM, h⟩ := h
  have d := h.deep (N.last + 1) t (List.mem_append.2 (.inr (List.mem_singleton.2 rfl)))
  obtain ⟨a, b, e⟩ := d.v.form
  obtain ⟨a', b', e'⟩ := d.vs.form
  simp only [thc, d.code, d.names, e, e']
  simp [go_sem]
theorem nilL_wf : (listV []).wf := .mk _ _ _ _ _ ⟨by decide, by decide⟩ (by simp [maxLen]) (fun x hx => by cases hx) ⟨rfl, rfl⟩
theorem nilL_may : mayV (listV []) = true := by rfl
def MadeL8 (w : World) (p q : Nat) (M : WM) (F G : Nat → Prop) (e : Ending) (w' : World) : Prop :=
  e = .returned (.bool true) ∧ ∃ M' N' F' G', Both w' p q M' N' F' G' ∧ Keeps (fun b => F b ∨ G b) w w' ∧ (∀ b, F' b ∨ G' b → (F b ∨ G b) ∨ w.heap.size ≤ b) ∧ M'.last ≤ M.last + 2 ∧ M'.made.length = M.made.length ∧ M'.parents = M.parents
structure Md2 (w : World) (p q : Nat) (M N : WM) (F G : Nat → Prop) (w6 : World) : Prop where
  both : ∃ M' N' F' G', Both w6 p q M' N' F' G' ∧ (∀ b, F' b ∨ G' b → (F b ∨ G b) ∨ w.heap.size ≤ b) ∧ M'.last ≤ M.last + 2 ∧ M'.made.length = M.made.length ∧ M'.parents = M.parents
  keeps : Keeps (fun b => F b ∨ G b) w w6
theorem Md2.no {w w5 w6 : World} {p q : Nat} {M N : WM} {F G : Nat → Prop} (hB : Both w p q M N F G) (h5 : Below w.heap.size w w5) (h6 : Below w5.heap.size w5 w6) : Md2 w p q M N F G w6 :=
  ⟨⟨M, N, F, G, (hB.below h5).below h6, fun b h => .inl h, by omega, rfl, rfl⟩, Keeps.of_below (h5.trans (h6.mono h5.size))⟩
theorem Md2.one {w w5 w6 : World} {p q : Nat} {M N : WM} {F G F' G' : Nat → Prop} {t t' : Th} (hB : Both w p q M N F G) (hW : IsW w5 p (M.add t) F') (hg : Grew F w F' w5) (hR : IsR w6 q (N.add t') G') (hk : Keeps G w5 w6) (hG' : ∀ b, G' b → G b ∨ w5.heap.size ≤ b)
    (ht : ThLike t t') (hone : (thc t').all (·.oneCell') = true) (hmay : mayV t.v = true ∧ (∀ v ∈ t.vs, mayV v = true) ∧ t.vs.length ≤ 1000) (hwf : t.v.wf ∧ (listV t.vs).wf) (hkp : t.kind = 11 → t.tgt ≤ M.last + 1) : Md2 w p q M N F G w6 := by
  have hFG : ∀ b, F' b → ¬ G b := fun b h1 h2 => (hg.2 b h1).elim (fun h => hB.ap b h h2) fun h => by have := hB.R.lt b h2; omega
  refine ⟨⟨_, _, F', G', hB.add (hW.keeps hk hFG) hR (fun b h1 h2 => (hG' b h2).elim (hFG b h1) fun h => by have := hW.lt b h1; omega) ht hone hmay hwf hkp, fun b h => h.elim (fun h => (hg.2 b h).imp .inl id) (fun h => (hG' b h).imp .inr fun h => Nat.le_trans hg.1.size h), by show M.last + 1 ≤ M.last + 2; omega, ?_, rfl⟩, hg.1.trans hk (fun _ _ h => .inl h) (fun _ _ h => .inr h)⟩
  show (if t.kind = 14 then M.made else M.made.set t.home.toNat (M.made.getD t.home.toNat 0 + 1)).length = M.made.length
  split
  · rfl
  · rw [List.length_set]
theorem Md2.two {w w5 w6 : World} {p q : Nat} {M N : WM} {F G F' G' : Nat → Prop} {t1 t2 : Th} (hB : Both w p q M N F G) (hW : IsW w5 p ((M.add t1).add t2) F') (hg : Grew F w F' w5) (hR : IsR w6 q ((N.add t1).add t2) G') (hk : Keeps G w5 w6) (hG' : ∀ b, G' b → G b ∨ w5.heap.size ≤ b)
    (hall : ∀ t, t = t1 ∨ t = t2 → (thc t).all (·.oneCell') = true ∧ (mayV t.v = true ∧ (∀ v ∈ t.vs, mayV v = true) ∧ t.vs.length ≤ 1000) ∧ (t.v.wf ∧ (listV t.vs).wf) ∧ (t.kind = 11 → t.tgt ≤ M.last + 1 + 1)) : Md2 w p q M N F G w6 := by
  have hFG : ∀ b, F' b → ¬ G b := fun b h1 h2 => (hg.2 b h1).elim (fun h => hB.ap b h h2) fun h => by have := hB.R.lt b h2; omega
  have cases3 : ∀ {L : List (Int × Th)} {a b : Int} {x : Int × Th}, x ∈ (L ++ [(a, t1)]) ++ [(b, t2)] → x ∈ L ∨ x.2 = t1 ∨ x.2 = t2 := fun {L a b x} hx => by
    rcases List.mem_append.1 hx with hx | hx
    · rcases List.mem_append.1 hx with hx | hx
      · exact .inl hx
      · exact .inr (.inl (by rw [List.mem_singleton.1 hx]))
    · exact .inr (.inr (by rw [List.mem_singleton.1 hx]))
  refine ⟨⟨_, _, F', G', {
    W := hW.keeps hk hFG
    R := hR
    ap := fun b h1 h2 => (hG' b h2).elim (hFG b h1) fun h => by have := hW.lt b h1; omega
    al := (hB.al.add ⟨_, _, rfl⟩).add ⟨_, _, rfl⟩
    one := fun x hx => (cases3 (show x ∈ (N.things ++ [(N.last + 1, t1)]) ++ [((N.add t1).last + 1, t2)] from hx)).elim (hB.one x) fun h => (hall x.2 h).1
    may := fun r u hu => (cases3 (show (r, u) ∈ (M.things ++ [(M.last + 1, t1)]) ++ [((M.add t1).last + 1, t2)] from at_mem hu)).elim (fun h => hB.may r u (hB.W.ok.at_of_mem h)) fun h => (hall u h).2.1
    wfs := fun x hx => (cases3 (show x ∈ (M.things ++ [(M.last + 1, t1)]) ++ [((M.add t1).last + 1, t2)] from hx)).elim (hB.wfs x) fun h => (hall x.2 h).2.2.1
    cutM := hB.cutM
    cutN := hB.cutN
    cutL := hB.cutL
    kp := fun r u hu hk => by
      show u.tgt ≤ M.last + 1 + 1
      rcases cases3 (show (r, u) ∈ (M.things ++ [(M.last + 1, t1)]) ++ [((M.add t1).last + 1, t2)] from at_mem hu) with h | h
      · have := hB.kp r u (hB.W.ok.at_of_mem h) hk
        omega
      · exact (hall u h).2.2.2 hk }, fun b h => h.elim (fun h => (hg.2 b h).imp .inl id) (fun h => (hG' b h).imp .inr fun h => Nat.le_trans hg.1.size h), by show M.last + 1 + 1 ≤ M.last + 2; omega, ?_, rfl⟩, hg.1.trans hk (fun _ _ h => .inl h) (fun _ _ h => .inr h)⟩
  have hl : ∀ (M : WM) (t : Th), (M.add t).made.length = M.made.length := fun M t => by
    show (if t.kind = 14 then M.made else M.made.set t.home.toNat (M.made.getD t.home.toNat 0 + 1)).length = M.made.length
    split
    · rfl
    · rw [List.length_set]
  rw [hl, hl]
theorem Md2.done {w w4 w6 w7 w8 : World} {p q n n7 : Nat} {M N : WM} {F G : Nat → Prop} (hn : n = w.heap.size) (h4 : Below w.heap.size w w4) (h6 : Md2 w4 p q M N F G w6) (hF : ∀ b, F b ∨ G b → b < w.heap.size) (h47 : n7 ≤ w4.heap.size) (h7 : Below w6.heap.size w6 w7) (h8 : Keeps (fun b => n + 1 ≤ b ∧ b < n7) w7 w8) : MadeL8 w p q M F G (.returned (.bool true)) w8 := by
  obtain ⟨⟨M', N', F', G', hB, hg, h1, h2, h3⟩, hk⟩ := h6
  have hs : ∀ b, F' b ∨ G' b → ¬ (n + 1 ≤ b ∧ b < n7) := fun b hb => fun ⟨a1, a2⟩ => (hg b hb).elim (fun h => by have := hF b h; omega) fun h => by omega
  refine ⟨rfl, M', N', F', G', (hB.below h7).keeps h8 (fun b h => hs b (.inl h)) (fun b h => hs b (.inr h)), ?_, fun b h => (hg b h).imp id fun h => Nat.le_trans h4.size h, h1, h2, h3⟩
  refine ((Keeps.of_below (S := fun b => F b ∨ G b) h4).trans hk (fun _ _ h => h) (fun _ _ h => h)).trans ((Keeps.of_below (S := fun b => n + 1 ≤ b ∧ b < n7) h7).trans h8 (fun _ _ h => h) (fun _ _ h => h)) (fun _ _ h => h) (fun b hb h => by omega)
end Go.Proofs.YthaliljaglldjaaGreat
/- made of posternlaw08 at the kind 1. (gen_fu.py) -/
namespace Go.Proofs.YthaliljaglldjaaGreat
open Go.RowKit Go.ChangeMaps Go.MapKept
theorem execOp_fu1_17 (ρ : Operand → Value) (ty : TypeId) (pos : String) (af : Array Edge) (g : Option (Nat × Bool)) :
    execOp ρ { dst := some 17, op := .load 27 (.tmp 16), type := ty, pos := pos, after := af, guard := g } = ldV (ρ (.tmp 16)) := rfl
theorem execOp_fu1_22 (ρ : Operand → Value) (ty : TypeId) (pos : String) (af : Array Edge) (g : Option (Nat × Bool)) :
    execOp ρ { dst := some 22, op := .load 27 (.tmp 21), type := ty, pos := pos, after := af, guard := g } = ldV (ρ (.tmp 21)) := rfl
theorem execOp_fu1_82 (ρ : Operand → Value) (ty : TypeId) (pos : String) (af : Array Edge) (g : Option (Nat × Bool)) :
    execOp ρ { dst := some 82, op := .load 27 (.tmp 12), type := ty, pos := pos, after := af, guard := g } = ldV (ρ (.tmp 12)) := rfl
theorem execOp_fu1_95 (ρ : Operand → Value) (ty : TypeId) (pos : String) (af : Array Edge) (g : Option (Nat × Bool)) :
    execOp ρ { dst := some 95, op := .load 27 (.tmp 7), type := ty, pos := pos, after := af, guard := g } = ldV (ρ (.tmp 7)) := rfl
theorem execOp_fu1_97 (ρ : Operand → Value) (ty : TypeId) (pos : String) (af : Array Edge) (g : Option (Nat × Bool)) :
    execOp ρ { dst := some 97, op := .load 27 (.tmp 96), type := ty, pos := pos, after := af, guard := g } = ldV (ρ (.tmp 96)) := rfl
theorem execOp_fu1_101 (ρ : Operand → Value) (ty : TypeId) (pos : String) (af : Array Edge) (g : Option (Nat × Bool)) :
    execOp ρ { dst := some 101, op := .load 27 (.tmp 7), type := ty, pos := pos, after := af, guard := g } = ldV (ρ (.tmp 7)) := rfl
theorem execOp_fu1_35 (ρ : Operand → Value) (ty : TypeId) (pos : String) (af : Array Edge) (g : Option (Nat × Bool)) :
    execOp ρ { dst := some 35, op := .load 27 (.tmp 7), type := ty, pos := pos, after := af, guard := g } = ldV (ρ (.tmp 7)) := rfl
theorem execOp_fu1_s7 (ρ : Operand → Value) (ty : TypeId) (pos : String) (af : Array Edge) (g : Option (Nat × Bool)) :
    execOp ρ { dst := none, op := .store 27 (.tmp 7) (.tmp 19), type := ty, pos := pos, after := af, guard := g } = stV (ρ (.tmp 7)) (ρ (.tmp 19)) := rfl
theorem execOp_fu1_s12 (ρ : Operand → Value) (ty : TypeId) (pos : String) (af : Array Edge) (g : Option (Nat × Bool)) :
    execOp ρ { dst := none, op := .store 27 (.tmp 12) (.tmp 22), type := ty, pos := pos, after := af, guard := g } = stV (ρ (.tmp 12)) (ρ (.tmp 22)) := rfl
attribute [local go_sem ↓] execOp_fu1_17 execOp_fu1_22 execOp_fu1_82 execOp_fu1_95 execOp_fu1_97 execOp_fu1_101 execOp_fu1_35 execOp_fu1_s7 execOp_fu1_s12 in
set_option maxHeartbeats 16000000 in
set_option maxRecDepth 20000 in
theorem made8_1 {w : World} {p q : Nat} {M N : WM} {F G F1 : Nat → Prop} (hB : Both w p q M N F G) (hl : M.last + 2 ≤ 100000) (d h on ab : Int) (v : Val) (raw : Value) (hS : SlAt w F1 raw v.l) (hF1 : ∀ b, F1 b → ¬ F b ∧ ¬ G b) (hwf : v.wf) (hroom : roomB v = true) :
    Calls Tryz.prog 16 #[.pointer (some ⟨p, 0, none⟩), .pointer (some ⟨q, 0, none⟩), .agg (stepc d 1 h on ab v raw)] w (MadeL8 w p q M F G) := by
  obtain ⟨pa, c, rfl⟩ := hS.form
  have hFl : ∀ b, F b ∨ G b → b < w.heap.size := fun b hb => hb.elim (hB.W.lt b) (hB.R.lt b)
  have HB := (show Hid _ from hB)
  have HA : Hid (M.last + 2 ≤ 100000 ∧ (∀ b, F1 b → ¬ F b ∧ ¬ G b) ∧ v.wf ∧ ∀ b, F b ∨ G b → b < w.heap.size) := ⟨hl, hF1, hwf, hFl⟩
  have H1 : Hid (Below w.heap.size w (w.alloc (.cells (stepc d 1 h on ab v (.slice pa v.l.length c)) 49)) ∧ (w.alloc (.cells (stepc d 1 h on ab v (.slice pa v.l.length c)) 49)).heap[w.heap.size]? = some (.cells (stepc d 1 h on ab v (.slice pa v.l.length c)) 49 (0, 0)) ∧ (w.alloc (.cells (stepc d 1 h on ab v (.slice pa v.l.length c)) 49)).heap.size = w.heap.size + 1) := ⟨(Below.refl _ w).alloc (Nat.le_refl _) _, blk_new _ _, by simp⟩
  have HS := (show Hid (SlAt w F1 (.slice pa v.l.length c) v.l) from hS)
  have HRm : Hid (roomB v = true) := hroom
  clear hB hl hF1 hwf hFl hS hroom
  have e5 : stepc d 1 h on ab v (.slice pa v.l.length c) = #[.int .i64 d, .int .u8 1, .int .i64 h, .int .i64 on, .int .u8 ab, .int .u8 v.kind, .int .i64 v.n, .string v.s, .slice pa v.l.length c, .int .i64 v.r] := rfl
  rw [e5]
  clear e5
  go_enter Tryz.func16, Tryz.ntmps16
  go_upto_region 1 with fail
  revert H1
  simp only [stepc]
  generalize w.alloc _ = w1
  intro H1
  have hld1 := stepld_v (d := d) (k := 1) (h := h) (on := on) (ab := ab) H1.out.2.1
  go_wp2_with fail
  refine (room_T v (.slice pa v.l.length c) (HS.out.on H1.out.1)).mono ?_
  rintro e w2 ⟨raw', rfl, ⟨pr, nr, cr, rfl⟩, hb2, hq2⟩
  rw [HRm.out]
  obtain ⟨hsl, hsp⟩ := hq2 HRm.out
  have H2 : Hid (Below w.heap.size w w2 ∧ w2.heap[w.heap.size]? = some (.cells (stepc d 1 h on ab v (.slice pa v.l.length c)) 49 (0, 0)) ∧ SlAt w2 (fun b => w.heap.size + 1 ≤ b ∧ b < w2.heap.size) (.slice pr nr cr) v.l ∧ Sp w2 (fun b => w.heap.size + 1 ≤ b ∧ b < w2.heap.size) 42 (.slice pr nr cr) ∧ w.heap.size < w2.heap.size) :=
    ⟨H1.out.1.trans (hb2.mono H1.out.1.size), below_blk hb2 H1.out.2.1, (SlAt.lt hsl).mono fun b hb => ⟨by have := H1.out.2.2; omega, hb.2⟩, (Sp.lt hsp).mono fun b hb => ⟨by have := H1.out.2.2; omega, hb.2⟩, by have := H1.out.2.2; have := hb2.size; omega⟩
  clear hsl hsp hq2 hb2 hld1 H1 HRm
  have H3 : Hid (∀ w3, w3 = (w2.alloc (.cells zV 27)).setRow w2.heap.size (vcs v (.slice pr nr cr)) → Below w.heap.size w w3 ∧ Below w2.heap.size w2 w3 ∧ w3.heap[w2.heap.size]? = some (.cells (vcs v (.slice pr nr cr)) 27 (0, 0)) ∧ w3.heap.size = w2.heap.size + 1) := fun w3 e => by
    subst e
    have hb : Below w2.heap.size w2 ((w2.alloc (.cells zV 27)).setRow w2.heap.size (vcs v (.slice pr nr cr))) := Below.setRow ((Below.refl _ w2).alloc (Nat.le_refl _) _) (Nat.le_refl _) _
    exact ⟨H2.out.1.trans (hb.mono H2.out.1.size), hb, heap_setRow_at (blk_new _ _), by simp [World.setRow]⟩
  have hst7 := storeV_blk (c' := vcs v (.slice pr nr cr)) (blk_new w2 (.cells zV 27)) rfl rfl (by simp [go_sem, vcs])
  simp only [vcs, zV] at hst7 H3 ⊢
  go_upto_region 4 with fail
  clear hst7
  revert H3
  generalize hw3 : World.setRow _ _ _ = w3
  intro H3
  have H3 := (show Hid (Below w.heap.size w w3 ∧ Below w2.heap.size w2 w3 ∧ w3.heap[w2.heap.size]? = some (.cells (vcs v (.slice pr nr cr)) 27 (0, 0)) ∧ w3.heap.size = w2.heap.size + 1) from H3.out w3 rfl)
  clear hw3
  have hld3 := stepld_v (d := d) (k := 1) (h := h) (on := on) (ab := ab) (below_blk H3.out.2.1 H2.out.2.1)
  have hst12 := storeV_blk (c' := vcs v (.slice pa v.l.length c)) (blk_new w3 (.cells zV 27)) rfl rfl (by simp [go_sem, vcs])
  have H4 : Hid (∀ w4, w4 = (w3.alloc (.cells zV 27)).setRow w3.heap.size (vcs v (.slice pa v.l.length c)) → Below w.heap.size w w4 ∧ MdW w.heap.size w2.heap.size d 1 h on ab v v (.slice pa v.l.length c) (.slice pr nr cr) (.slice pa v.l.length c) F1 w4 ∧ w2.heap.size ≤ w4.heap.size) := fun w4 e => by
    subst e
    have hb : Below w3.heap.size w3 ((w3.alloc (.cells zV 27)).setRow w3.heap.size (vcs v (.slice pa v.l.length c))) := Below.setRow ((Below.refl _ w3).alloc (Nat.le_refl _) _) (Nat.le_refl _) _
    have hb2 := H3.out.2.1.trans (hb.mono H3.out.2.1.size)
    refine ⟨H3.out.1.trans (hb.mono H3.out.1.size), ⟨H2.out.2.2.2.2, below_blk hb2 H2.out.2.1, below_blk hb H3.out.2.2.1, ?_, H2.out.2.2.1.on hb2, H2.out.2.2.2.1.on hb2, HS.out.on (H2.out.1.trans (hb2.mono H2.out.1.size)), HS.out.on (H2.out.1.trans (hb2.mono H2.out.1.size))⟩, hb2.size⟩
    rw [← H3.out.2.2.2]
    exact heap_setRow_at (blk_new _ _)
  simp only [vcs, zV] at hst12 H4 hld3 ⊢
  go_upto_region 5 with fail
  clear hst12 hld3
  revert H4
  generalize hw4 : World.setRow _ _ _ = w4
  intro H4
  have H4 := (show Hid (Below w.heap.size w w4 ∧ MdW w.heap.size w2.heap.size d 1 h on ab v v (.slice pa v.l.length c) (.slice pr nr cr) (.slice pa v.l.length c) F1 w4 ∧ w2.heap.size ≤ w4.heap.size) from H4.out w4 rfl)
  have hsz := H3.out.2.2.2
  rw [hsz]
  clear hw4 H2 H3 HS hsz
  generalize w2.heap.size = n7 at *
  have HB4 := (show Hid (Both w4 p q M N F G) from HB.out.below H4.out.1)
  have hd := H4.out.2.1
  have HC : Hid ((mayE M h v ≠ 0 → Calls Tryz.prog 64 #[.pointer (some ⟨p, 0, none⟩), .int .i64 h, .agg (vcs v (.slice pr nr cr))] w4 fun e w' => e = .returned (.tuple #[.int .i64 0, .int .i64 (mayE M h v)]) ∧ Below w4.heap.size w4 w') ∧ (mayE M h v = 0 → Calls Tryz.prog 64 #[.pointer (some ⟨p, 0, none⟩), .int .i64 h, .agg (vcs v (.slice pr nr cr))] w4 (MadeG w4 p M F h (fun t => ∃ vl', t = cellT h v vl')))) :=
    ⟨fun h0 => Cell_no HB4.out.W v _ hd.sl (refsV_wf HA.out.2.2.1) h0, fun h0 => Cell_G HB4.out.W (by have := HA.out.1; omega) (mayE_zero h0).1 v _ hd.sl (mayE_zero h0).2.1 (known_all HA.out.2.2.1 (mayE_zero h0).2.2)⟩
  have HM8 : Hid (∀ w', Keeps F w4 w' → Calls Tryz.prog 87 #[.pointer (some ⟨q, 0, none⟩), .int .u8 1, .int .i64 h, .agg (vcs v (.slice pa v.l.length c))] w' (Made8 w' q N G 1 h v (.slice pa v.l.length c))) := fun w' hk => by
    have hR' := HB4.out.R.keeps hk fun b h1 h2 => HB4.out.ap b h2 h1
    have hS' : SlAt w' F1 (.slice pa v.l.length c) (v : Val).l := hd.sd.keeps hk fun b h1 h2 => (HA.out.2.1 b h2).1 h1
    have hg := HB4.out.good (by have := HA.out.1; omega)
    have hwf' : (v : Val).wf := HA.out.2.2.1
    refine make8_W hR' hg (by decide) v (.slice pa v.l.length c) hS' hwf' fun h0 w1 hb1 => ?_
    obtain ⟨hh, hm, hkn⟩ := mayE_zero h0
    have hS2 := hS'.on hb1
    exact rmake_0 (hR'.below hb1) hg (.inl rfl) hh v (.slice pa v.l.length c) hS2 (fun b h1 => (HA.out.2.1 b h1).2) hm hkn fun w2 hb2 => form7_1 w2 _ h hh v pa c (hS2.on hb2) hwf' hm
  have hE : mayE N h v = mayE M h v := HB.out.al.mayE h v
  have hMd : N.made = M.made := HB.out.al.made
  have hLs : N.last = M.last := HB.out.al.last
  have HE := (show Hid (mayE N h v = mayE M h v ∧ N.made = M.made ∧ N.last = M.last) from ⟨hE, hMd, hLs⟩)
  clear hE hMd hLs hd
  have b5 := H4.out.2.1.b5
  have b7 := H4.out.2.1.b7
  have k1 : w4.cell? ⟨w.heap.size, 1, none⟩ = some (.int .u8 1) := by rw [cell_blk b5]; rfl
  have k2 : w4.cell? ⟨w.heap.size, 2, none⟩ = some (.int .i64 h) := by rw [cell_blk b5]; rfl
  have hl7 := loadV_blk b7 rfl
  clear b5 b7
  simp only [vcs] at HC HM8 hl7 ⊢
  go_wp2_with fail
  obtain ⟨E, hE⟩ : ∃ E, E = mayE M h v := ⟨_, rfl⟩
  have HP : Hid (∀ (R : Ending → World → Prop), (∀ r5 e5 w5, Keeps F w4 w5 → (∀ w6 r6 e6, Made8 w5 q N G 1 h v (.slice pa v.l.length c) (.returned (.tuple #[.int .i64 r6, .int .i64 e6])) w6 → r6 = r5 ∧ e6 = e5 ∧ Md2 w4 p q M N F G w6) → (∀ e6 w6, Made8 w5 q N G 1 h v (.slice pa v.l.length c) e6 w6 → ∃ r a, e6 = .returned (.tuple #[.int .i64 r, .int .i64 a])) → R (.returned (.tuple #[.int .i64 r5, .int .i64 e5])) w5) → Calls Tryz.prog 64 #[.pointer (some ⟨p, 0, none⟩), .int .i64 h, .agg #[.int .u8 v.kind, .int .i64 v.n, .string v.s, .slice pr nr cr, .int .i64 v.r]] w4 R) := fun R hR => by
    by_cases h0 : mayE M h v = 0
    · refine (HC.out.2 h0).mono ?_
      rintro e w5 (⟨hr, rfl, t, F', hT, hW, hg⟩ | ⟨hr, rfl, hb⟩)
      · obtain ⟨vl', rfl⟩ := hT
        refine hR _ _ w5 hg.1 (fun w6 r6 e6 h8 => ?_) (fun e6 w6 h8 => made8_form h8)
        rcases h8 with ⟨h8, -⟩ | ⟨-, h8⟩
        · exact absurd (HE.out.1.trans h0) h8
        rcases h8 with ⟨h8, -⟩ | ⟨-, h8, -⟩ | ⟨-, -, h8, vl2, vals2, G', h9, h10, h11, -⟩
        · exact absurd rfl h8
        · rw [HE.out.2.1] at h8
          exact absurd hr h8
        · rw [HE.out.2.2] at h8
          obtain ⟨e1, e2⟩ := ret2_inj h8
          exact ⟨e1, e2, Md2.one (t := cellT h v vl') HB4.out (by simpa [makeM] using hW) hg h9 h10 h11 ⟨vl2, vals2, rfl⟩ (thc_oneR h9) ⟨(mayE_zero h0).2.1, fun x hx => (by cases hx), Nat.zero_le _⟩ ⟨HA.out.2.2.1, nilL_wf⟩ (fun e => absurd (show (1 : Int) = 11 from e) (by decide))⟩
      · refine hR _ _ w5 (Keeps.of_below hb) (fun w6 r6 e6 h8 => ?_) (fun e6 w6 h8 => made8_form h8)
        rcases h8 with ⟨h8, -⟩ | ⟨-, h8⟩
        · exact absurd (HE.out.1.trans h0) h8
        rcases h8 with ⟨h8, -⟩ | ⟨-, -, h8, hb6⟩ | ⟨-, h8, -⟩
        · exact absurd rfl h8
        · obtain ⟨e1, e2⟩ := ret2_inj h8
          exact ⟨e1, e2, Md2.no HB4.out hb hb6⟩
        · rw [HE.out.2.1] at h8
          exact absurd h8 hr
    · refine (HC.out.1 h0).mono ?_
      rintro e w5 ⟨rfl, hb⟩
      refine hR _ _ w5 (Keeps.of_below hb) (fun w6 r6 e6 h8 => ?_) (fun e6 w6 h8 => made8_form h8)
      rcases h8 with ⟨-, h8, hb6⟩ | ⟨h8, -⟩
      · rw [HE.out.1] at h8
        obtain ⟨e1, e2⟩ := ret2_inj h8
        exact ⟨e1, e2, Md2.no HB4.out hb hb6⟩
      · exact absurd (HE.out.1.symm.trans h8) h0
  clear hE
  refine HP.out _ fun r5 e5 w5 hk5 hm5 hf5 => ?_
  have H5 := (show Hid (Keeps F w4 w5 ∧ (∀ w6 r6 e6, Made8 w5 q N G 1 h v (.slice pa v.l.length c) (.returned (.tuple #[.int .i64 r6, .int .i64 e6])) w6 → r6 = r5 ∧ e6 = e5 ∧ Md2 w4 p q M N F G w6) ∧ ∀ e6 w6, Made8 w5 q N G 1 h v (.slice pa v.l.length c) e6 w6 → ∃ r a, e6 = .returned (.tuple #[.int .i64 r, .int .i64 a])) from ⟨hk5, hm5, hf5⟩)
  have HX5 := (show Hid _ from H4.out.2.1.keeps hk5 (fun b hb => HA.out.2.2.2 b (.inl hb)) (fun b h1 h2 => (HA.out.2.1 b h2).1 h1))
  have b5 := HX5.out.b5
  have b12 := HX5.out.b12
  clear k1 k2 hl7 hk5 hm5 hf5 HP HC
  have k1 : w5.cell? ⟨w.heap.size, 1, none⟩ = some (.int .u8 1) := by rw [cell_blk b5]; rfl
  have k2 : w5.cell? ⟨w.heap.size, 2, none⟩ = some (.int .i64 h) := by rw [cell_blk b5]; rfl
  have hl12 := loadV_blk b12 rfl
  clear b5 b12
  simp only [vcs] at hl12
  go_wp2_with fail
  refine (HM8.out w5 H5.out.1).mono ?_
  intro e6 w6 h8
  obtain ⟨r6, a6, rfl⟩ := H5.out.2.2 e6 w6 h8
  have hk6 : Keeps G w5 w6 := made8_keeps h8
  obtain ⟨rfl, rfl, hMd⟩ := H5.out.2.1 w6 r6 a6 h8
  have H6 := (show Hid (Md2 w4 p q M N F G w6) from hMd)
  have HX6 := (show Hid _ from HX5.out.keeps hk6 (fun b hb => HA.out.2.2.2 b (.inr hb)) (fun b h1 h2 => (HA.out.2.1 b h2).2 h1))
  clear hk6 hMd h8 H5 HX5 hl12 k1 k2 HM8
  have b7 := HX6.out.b7
  have hl7 := loadV_blk b7 rfl
  have hl5 := stepld_v HX6.out.b5
  clear b7
  have HPs : Hid (Calls Tryz.prog 88 #[.agg (vcs v (.slice pr nr cr)), .agg (vcs v (.slice pa v.l.length c))] w6 fun e w' => e = .returned (.bool true) ∧ Below w6.heap.size w6 w') := (psame_G v HA.out.2.2.1 v (.slice pr nr cr) (.slice pa v.l.length c) w6 _ _ HX6.out.sl HX6.out.sv).mono fun e w' ⟨B, h1, h2, h3⟩ => by
    rw [h2.2 rfl] at h1
    exact ⟨h1, h3⟩
  simp only [vcs] at hl7 hl5 HPs
  go_wp2_with fail
  refine Calls.mono HPs.out ?_
  rintro e w7 ⟨rfl, hb7⟩
  have H7 := (show Hid (Below w6.heap.size w6 w7) from hb7)
  have HX7 := (show Hid _ from HX6.out.below hb7)
  clear hb7 HX6 hl7 hl5 HPs
  have b7 := HX7.out.b7
  have hl7 := loadV_blk b7 rfl
  clear b7
  simp only [vcs] at hl7
  go_wp2_with fail
  refine (spoil_G 42 v.kind v.n v.r v.s (.slice pr nr cr) w7 (fun b => w.heap.size + 1 ≤ b ∧ b < n7) (fun b hb => by have := blk_lt HX7.out.b7; have := hb.2; omega) HX7.out.sp).mono ?_
  rintro e w8 ⟨rfl, hk8, -⟩
  have HF : Hid (MadeL8 w p q M F G (.returned (.bool true)) w8) := Md2.done rfl H4.out.1 H6.out HA.out.2.2.2 H4.out.2.2 H7.out hk8
  have k1 : w8.cell? ⟨w.heap.size, 1, none⟩ = some (.int .u8 1) := by rw [cell_blk (hk8.none HX7.out.b5 (fun e => by have := e.1; omega))]; rfl
  clear hk8 hl7 HX7 H7 H6
  go_wp2_with fail
  go_ret
  exact HF.out
end Go.Proofs.YthaliljaglldjaaGreat
/- made of posternlaw08 at logs, tallies, queues (from gen_fu.py's print) -/
namespace Go.Proofs.YthaliljaglldjaaGreat
open Go.RowKit Go.ChangeMaps Go.MapKept
def plFn (k : Int) : Nat := if k = 2 then 84 else if k = 3 then 85 else 66
theorem stepc_at {w : World} {b : Nat} {d k h on ab : Int} {v : Val} {raw : Value} {ty : TypeId} {fr : Nat × Nat} (hg : w.heap[b]? = some (.cells (stepc d k h on ab v raw) ty fr)) : w.cell? ⟨b, 1, none⟩ = some (.int .u8 k) ∧ w.cell? ⟨b, 2, none⟩ = some (.int .i64 h) :=
  ⟨by rw [cell_blk hg]; rfl, by rw [cell_blk hg]; rfl⟩
theorem execOp_fuK_17 (ρ : Operand → Value) (ty : TypeId) (pos : String) (af : Array Edge) (g : Option (Nat × Bool)) :
    execOp ρ { dst := some 17, op := .load 27 (.tmp 16), type := ty, pos := pos, after := af, guard := g } = ldV (ρ (.tmp 16)) := rfl
theorem execOp_fuK_22 (ρ : Operand → Value) (ty : TypeId) (pos : String) (af : Array Edge) (g : Option (Nat × Bool)) :
    execOp ρ { dst := some 22, op := .load 27 (.tmp 21), type := ty, pos := pos, after := af, guard := g } = ldV (ρ (.tmp 21)) := rfl
theorem execOp_fuK_82 (ρ : Operand → Value) (ty : TypeId) (pos : String) (af : Array Edge) (g : Option (Nat × Bool)) :
    execOp ρ { dst := some 82, op := .load 27 (.tmp 12), type := ty, pos := pos, after := af, guard := g } = ldV (ρ (.tmp 12)) := rfl
theorem execOp_fuK_95 (ρ : Operand → Value) (ty : TypeId) (pos : String) (af : Array Edge) (g : Option (Nat × Bool)) :
    execOp ρ { dst := some 95, op := .load 27 (.tmp 7), type := ty, pos := pos, after := af, guard := g } = ldV (ρ (.tmp 7)) := rfl
theorem execOp_fuK_97 (ρ : Operand → Value) (ty : TypeId) (pos : String) (af : Array Edge) (g : Option (Nat × Bool)) :
    execOp ρ { dst := some 97, op := .load 27 (.tmp 96), type := ty, pos := pos, after := af, guard := g } = ldV (ρ (.tmp 96)) := rfl
theorem execOp_fuK_101 (ρ : Operand → Value) (ty : TypeId) (pos : String) (af : Array Edge) (g : Option (Nat × Bool)) :
    execOp ρ { dst := some 101, op := .load 27 (.tmp 7), type := ty, pos := pos, after := af, guard := g } = ldV (ρ (.tmp 7)) := rfl
theorem execOp_fuK_s7 (ρ : Operand → Value) (ty : TypeId) (pos : String) (af : Array Edge) (g : Option (Nat × Bool)) :
    execOp ρ { dst := none, op := .store 27 (.tmp 7) (.tmp 19), type := ty, pos := pos, after := af, guard := g } = stV (ρ (.tmp 7)) (ρ (.tmp 19)) := rfl
theorem execOp_fuK_s12 (ρ : Operand → Value) (ty : TypeId) (pos : String) (af : Array Edge) (g : Option (Nat × Bool)) :
    execOp ρ { dst := none, op := .store 27 (.tmp 12) (.tmp 22), type := ty, pos := pos, after := af, guard := g } = stV (ρ (.tmp 12)) (ρ (.tmp 22)) := rfl
theorem execOp_fuK_s12b (ρ : Operand → Value) (ty : TypeId) (pos : String) (af : Array Edge) (g : Option (Nat × Bool)) :
    execOp ρ { dst := none, op := .store 27 (.tmp 12) (.tmp 26), type := ty, pos := pos, after := af, guard := g } = stV (ρ (.tmp 12)) (ρ (.tmp 26)) := rfl
attribute [local go_sem ↓] execOp_fuK_17 execOp_fuK_22 execOp_fuK_82 execOp_fuK_95 execOp_fuK_97 execOp_fuK_101 execOp_fuK_s7 execOp_fuK_s12 execOp_fuK_s12b in
set_option maxHeartbeats 16000000 in
set_option maxRecDepth 20000 in
theorem made8_k {w : World} {p q : Nat} {M N : WM} {F G F1 : Nat → Prop} (hB : Both w p q M N F G) {k : Int} (hk : k = 2 ∨ k = 3 ∨ k = 4) (hl : M.last + 2 ≤ 100000) (d h on ab : Int) (v : Val) (raw : Value) (hS : SlAt w F1 raw v.l) (hF1 : ∀ b, F1 b → ¬ F b ∧ ¬ G b) (hwf : v.wf) (hroom : roomB v = true) (hF0 : ∀ b, F1 b → b < w.heap.size) :
    Calls Tryz.prog 16 #[.pointer (some ⟨p, 0, none⟩), .pointer (some ⟨q, 0, none⟩), .agg (stepc d k h on ab v raw)] w (MadeL8 w p q M F G) := by
  obtain ⟨pa, c, rfl⟩ := hS.form
  have hFl : ∀ b, F b ∨ G b → b < w.heap.size := fun b hb => hb.elim (hB.W.lt b) (hB.R.lt b)
  have HB := (show Hid _ from hB)
  have HA : Hid (M.last + 2 ≤ 100000 ∧ (∀ b, F1 b → ¬ F b ∧ ¬ G b) ∧ v.wf ∧ ∀ b, F b ∨ G b → b < w.heap.size) := ⟨hl, hF1, hwf, hFl⟩
  have H1 : Hid (Below w.heap.size w (w.alloc (.cells (stepc d k h on ab v (.slice pa v.l.length c)) 49)) ∧ (w.alloc (.cells (stepc d k h on ab v (.slice pa v.l.length c)) 49)).heap[w.heap.size]? = some (.cells (stepc d k h on ab v (.slice pa v.l.length c)) 49 (0, 0)) ∧ (w.alloc (.cells (stepc d k h on ab v (.slice pa v.l.length c)) 49)).heap.size = w.heap.size + 1) := ⟨(Below.refl _ w).alloc (Nat.le_refl _) _, blk_new _ _, by simp⟩
  have HS := (show Hid (SlAt w F1 (.slice pa v.l.length c) v.l) from hS)
  have HRm : Hid (roomB v = true) := hroom
  have HKk : Hid (k = 2 ∨ k = 3 ∨ k = 4) := hk
  have hk1 : (k != 1) = true := by have : ¬ k = 1 := by omega
                                   simpa using this
  have HF1 : Hid (∀ b, F1 b → b < w.heap.size) := hF0
  clear hB hl hF1 hwf hFl hS hroom hF0 hk
  have e5 : stepc d k h on ab v (.slice pa v.l.length c) = #[.int .i64 d, .int .u8 k, .int .i64 h, .int .i64 on, .int .u8 ab, .int .u8 v.kind, .int .i64 v.n, .string v.s, .slice pa v.l.length c, .int .i64 v.r] := rfl
  rw [e5]
  clear e5
  go_enter Tryz.func16, Tryz.ntmps16
  go_upto_region 1 with fail
  revert H1
  simp only [stepc]
  generalize w.alloc _ = w1
  intro H1
  have hld1 := stepld_v (d := d) (k := k) (h := h) (on := on) (ab := ab) H1.out.2.1
  go_wp2_with fail
  refine (room_T v (.slice pa v.l.length c) (HS.out.on H1.out.1)).mono ?_
  rintro e w2 ⟨raw', rfl, ⟨pr, nr, cr, rfl⟩, hb2, hq2⟩
  rw [HRm.out]
  obtain ⟨hsl, hsp⟩ := hq2 HRm.out
  have H2 : Hid (Below w.heap.size w w2 ∧ w2.heap[w.heap.size]? = some (.cells (stepc d k h on ab v (.slice pa v.l.length c)) 49 (0, 0)) ∧ SlAt w2 (fun b => w.heap.size + 1 ≤ b ∧ b < w2.heap.size) (.slice pr nr cr) v.l ∧ Sp w2 (fun b => w.heap.size + 1 ≤ b ∧ b < w2.heap.size) 42 (.slice pr nr cr) ∧ w.heap.size < w2.heap.size) :=
    ⟨H1.out.1.trans (hb2.mono H1.out.1.size), below_blk hb2 H1.out.2.1, (SlAt.lt hsl).mono fun b hb => ⟨by have := H1.out.2.2; omega, hb.2⟩, (Sp.lt hsp).mono fun b hb => ⟨by have := H1.out.2.2; omega, hb.2⟩, by have := H1.out.2.2; have := hb2.size; omega⟩
  clear hsl hsp hq2 hb2 hld1 H1 HRm
  have H3 : Hid (∀ w3, w3 = (w2.alloc (.cells zV 27)).setRow w2.heap.size (vcs v (.slice pr nr cr)) → Below w.heap.size w w3 ∧ Below w2.heap.size w2 w3 ∧ w3.heap[w2.heap.size]? = some (.cells (vcs v (.slice pr nr cr)) 27 (0, 0)) ∧ w3.heap.size = w2.heap.size + 1) := fun w3 e => by
    subst e
    have hb : Below w2.heap.size w2 ((w2.alloc (.cells zV 27)).setRow w2.heap.size (vcs v (.slice pr nr cr))) := Below.setRow ((Below.refl _ w2).alloc (Nat.le_refl _) _) (Nat.le_refl _) _
    exact ⟨H2.out.1.trans (hb.mono H2.out.1.size), hb, heap_setRow_at (blk_new _ _), by simp [World.setRow]⟩
  have hst7 := storeV_blk (c' := vcs v (.slice pr nr cr)) (blk_new w2 (.cells zV 27)) rfl rfl (by simp [go_sem, vcs])
  simp only [vcs, zV] at hst7 H3 ⊢
  go_upto_region 4 with fail
  clear hst7
  revert H3
  generalize hw3 : World.setRow _ _ _ = w3
  intro H3
  have H3 := (show Hid (Below w.heap.size w w3 ∧ Below w2.heap.size w2 w3 ∧ w3.heap[w2.heap.size]? = some (.cells (vcs v (.slice pr nr cr)) 27 (0, 0)) ∧ w3.heap.size = w2.heap.size + 1) from H3.out w3 rfl)
  clear hw3
  have hld3 := stepld_v (d := d) (k := k) (h := h) (on := on) (ab := ab) (below_blk H3.out.2.1 H2.out.2.1)
  have hst12 := storeV_blk (c' := vcs v (.slice pa v.l.length c)) (blk_new w3 (.cells zV 27)) rfl rfl (by simp [go_sem, vcs])
  have H4a : Hid (∀ w4a, w4a = (w3.alloc (.cells zV 27)).setRow w3.heap.size (vcs v (.slice pa v.l.length c)) → Below w.heap.size w w4a ∧ MdW w.heap.size w2.heap.size d k h on ab v v (.slice pa v.l.length c) (.slice pr nr cr) (.slice pa v.l.length c) F1 w4a ∧ w2.heap.size ≤ w4a.heap.size) := fun w4a e => by
    subst e
    have hb : Below w3.heap.size w3 ((w3.alloc (.cells zV 27)).setRow w3.heap.size (vcs v (.slice pa v.l.length c))) := Below.setRow ((Below.refl _ w3).alloc (Nat.le_refl _) _) (Nat.le_refl _) _
    have hb2 := H3.out.2.1.trans (hb.mono H3.out.2.1.size)
    refine ⟨H3.out.1.trans (hb.mono H3.out.1.size), ⟨H2.out.2.2.2.2, below_blk hb2 H2.out.2.1, below_blk hb H3.out.2.2.1, ?_, H2.out.2.2.1.on hb2, H2.out.2.2.2.1.on hb2, HS.out.on (H2.out.1.trans (hb2.mono H2.out.1.size)), HS.out.on (H2.out.1.trans (hb2.mono H2.out.1.size))⟩, hb2.size⟩
    rw [← H3.out.2.2.2]
    exact heap_setRow_at (blk_new _ _)
  simp only [vcs, zV] at hst12 H4a hld3 ⊢
  go_upto_region 5 with fail
  clear hst12 hld3
  revert H4a
  generalize hw4 : World.setRow _ _ _ = w4a
  intro H4a
  have H4a := (show Hid (Below w.heap.size w w4a ∧ MdW w.heap.size w2.heap.size d k h on ab v v (.slice pa v.l.length c) (.slice pr nr cr) (.slice pa v.l.length c) F1 w4a ∧ w2.heap.size ≤ w4a.heap.size) from H4a.out w4a rfl)
  have hsz := H3.out.2.2.2
  rw [hsz]
  clear hw4 H2 H3 HS hsz
  generalize w2.heap.size = n7 at *
  have b5 := H4a.out.2.1.b5
  have k1 : w4a.cell? ⟨w.heap.size, 1, none⟩ = some (.int .u8 k) := by rw [cell_blk b5]; rfl
  have hst12b := storeV_blk (c' := zV) H4a.out.2.1.b12 rfl rfl (by simp [go_sem, zV])
  have H5 := (show Hid (∀ w4, w4 = w4a.setRow (n7 + 1) zV → Below w.heap.size w w4 ∧ MdW w.heap.size n7 d k h on ab v ⟨0, 0, ⟨#[]⟩, [], 0⟩ (.slice pa v.l.length c) (.slice pr nr cr) (.slice none 0 0) F1 w4 ∧ n7 ≤ w4.heap.size) from fun w4 e => by
    obtain ⟨h1, h2⟩ := H4a.out.2.1.zero HF1.out e
    exact ⟨H4a.out.1.trans h2, h1, Nat.le_trans H4a.out.2.2 h2.size⟩)
  clear b5
  simp only [zV] at hst12b H5
  go_upto_region 7 with fail
  clear hst12b k1
  revert H5
  generalize hw4 : World.setRow _ _ _ = w4
  intro H5
  have H4 := (show Hid (Below w.heap.size w w4 ∧ MdW w.heap.size n7 d k h on ab v ⟨0, 0, ⟨#[]⟩, [], 0⟩ (.slice pa v.l.length c) (.slice pr nr cr) (.slice none 0 0) F1 w4 ∧ n7 ≤ w4.heap.size) from H5.out w4 rfl)
  clear hw4 H5
  have HB4 := (show Hid (Both w4 p q M N F G) from HB.out.below H4.out.1)
  have hd := H4.out.2.1
  have HC : Hid ((mayE M h ⟨0, 0, ⟨#[]⟩, [], 0⟩ ≠ 0 → Calls Tryz.prog (plFn k) #[.pointer (some ⟨p, 0, none⟩), .int .i64 h] w4 fun e w' => e = .returned (.tuple #[.int .i64 0, .int .i64 (mayE M h ⟨0, 0, ⟨#[]⟩, [], 0⟩)]) ∧ Below w4.heap.size w4 w') ∧ (mayE M h ⟨0, 0, ⟨#[]⟩, [], 0⟩ = 0 → Calls Tryz.prog (plFn k) #[.pointer (some ⟨p, 0, none⟩), .int .i64 h] w4 (MadeG w4 p M F h (fun t => t = lt k h 0 0 0 0 0 0 0 false)))) :=
    ⟨fun h0 => by
      rcases HKk.out with rfl | rfl | rfl
      · exact Log_no HB4.out.W h0
      · exact Tally_no HB4.out.W h0
      · exact Queue_no HB4.out.W h0, fun h0 => by
      rcases HKk.out with rfl | rfl | rfl
      · exact Log_G HB4.out.W (by have := HA.out.1; omega) (mayE_zero h0).1
      · exact Tally_G HB4.out.W (by have := HA.out.1; omega) (mayE_zero h0).1
      · exact Queue_G HB4.out.W (by have := HA.out.1; omega) (mayE_zero h0).1⟩
  have HM8 : Hid (∀ w', Keeps F w4 w' → Calls Tryz.prog 87 #[.pointer (some ⟨q, 0, none⟩), .int .u8 k, .int .i64 h, .agg (vcs ⟨0, 0, ⟨#[]⟩, [], 0⟩ (.slice none 0 0))] w' (Made8 w' q N G k h ⟨0, 0, ⟨#[]⟩, [], 0⟩ (.slice none 0 0))) := fun w' hk => by
    have hR' := HB4.out.R.keeps hk fun b h1 h2 => HB4.out.ap b h2 h1
    have hS' : SlAt w' F1 (.slice none 0 0) (⟨0, 0, ⟨#[]⟩, [], 0⟩ : Val).l := hd.sd.keeps hk fun b h1 h2 => (HA.out.2.1 b h2).1 h1
    have hg := HB4.out.good (by have := HA.out.1; omega)
    have hwf' : (⟨0, 0, ⟨#[]⟩, [], 0⟩ : Val).wf := nil_wf
    refine make8_W hR' hg (by have := HKk.out; omega) ⟨0, 0, ⟨#[]⟩, [], 0⟩ (.slice none 0 0) hS' hwf' fun h0 w1 hb1 => ?_
    obtain ⟨hh, hm, hkn⟩ := mayE_zero h0
    have hS2 := hS'.on hb1
    refine rmake_0 (hR'.below hb1) hg (.inr (by have := HKk.out; omega)) hh ⟨0, 0, ⟨#[]⟩, [], 0⟩ (.slice none 0 0) hS2 (fun b h1 => (HA.out.2.1 b h1).2) hm hkn fun w2 hb2 => ?_
    rcases HKk.out with rfl | rfl | rfl
    · exact form7_2 w2 _ h hh [] none 0 (SlAt.nil w2 (fun _ => False) _ _) nilL_wf nilL_may (Nat.zero_le _)
    · exact form7_3 w2 _ h hh 0 ⟨by decide, by decide⟩
    · exact form7_4 w2 _ h hh [] none 0 (SlAt.nil w2 (fun _ => False) _ _) nilL_wf nilL_may (Nat.zero_le _)
  have hE : mayE N h ⟨0, 0, ⟨#[]⟩, [], 0⟩ = mayE M h ⟨0, 0, ⟨#[]⟩, [], 0⟩ := HB.out.al.mayE h ⟨0, 0, ⟨#[]⟩, [], 0⟩
  have hMd : N.made = M.made := HB.out.al.made
  have hLs : N.last = M.last := HB.out.al.last
  have HE := (show Hid (mayE N h ⟨0, 0, ⟨#[]⟩, [], 0⟩ = mayE M h ⟨0, 0, ⟨#[]⟩, [], 0⟩ ∧ N.made = M.made ∧ N.last = M.last) from ⟨hE, hMd, hLs⟩)
  clear hE hMd hLs hd
  have b5 := H4.out.2.1.b5
  have b7 := H4.out.2.1.b7
  have k1 : w4.cell? ⟨w.heap.size, 1, none⟩ = some (.int .u8 k) := by rw [cell_blk b5]; rfl
  have k2 : w4.cell? ⟨w.heap.size, 2, none⟩ = some (.int .i64 h) := by rw [cell_blk b5]; rfl
  have hl7 := loadV_blk b7 rfl
  clear b5 b7
  simp only [vcs] at HC HM8 hl7 ⊢
  have HP : Hid (∀ (R : Ending → World → Prop), (∀ r5 e5 w5, Keeps F w4 w5 → (∀ w6 r6 e6, Made8 w5 q N G k h ⟨0, 0, ⟨#[]⟩, [], 0⟩ (.slice none 0 0) (.returned (.tuple #[.int .i64 r6, .int .i64 e6])) w6 → r6 = r5 ∧ e6 = e5 ∧ Md2 w4 p q M N F G w6) → (∀ e6 w6, Made8 w5 q N G k h ⟨0, 0, ⟨#[]⟩, [], 0⟩ (.slice none 0 0) e6 w6 → ∃ r a, e6 = .returned (.tuple #[.int .i64 r, .int .i64 a])) → R (.returned (.tuple #[.int .i64 r5, .int .i64 e5])) w5) → Calls Tryz.prog (plFn k) #[.pointer (some ⟨p, 0, none⟩), .int .i64 h] w4 R) := fun R hR => by
    by_cases h0 : mayE M h ⟨0, 0, ⟨#[]⟩, [], 0⟩ = 0
    · refine (HC.out.2 h0).mono ?_
      rintro e w5 (⟨hr, rfl, t, F', hT, hW, hg⟩ | ⟨hr, rfl, hb⟩)
      · subst hT
        refine hR _ _ w5 hg.1 (fun w6 r6 e6 h8 => ?_) (fun e6 w6 h8 => made8_form h8)
        rcases h8 with ⟨h8, -⟩ | ⟨-, h8⟩
        · exact absurd (HE.out.1.trans h0) h8
        rcases h8 with ⟨h8, -⟩ | ⟨-, h8, -⟩ | ⟨-, -, h8, vl2, vals2, G', h9, h10, h11, -⟩
        · exact absurd rfl h8
        · rw [HE.out.2.1] at h8
          exact absurd hr h8
        · rw [HE.out.2.2] at h8
          obtain ⟨e1, e2⟩ := ret2_inj h8
          exact ⟨e1, e2, Md2.one (t := lt k h 0 0 0 0 0 0 0 false) HB4.out (by unfold makeM at hW; rw [if_neg (by show ¬ k = 15; have := HKk.out; omega)] at hW; exact hW) hg h9 h10 h11 ⟨vl2, vals2, rfl⟩ (thc_oneR h9) ⟨(mayE_zero h0).2.1, fun x hx => (by cases hx), Nat.zero_le _⟩ ⟨nil_wf, nilL_wf⟩ (fun e => by have e' : k = 11 := e; have := HKk.out; omega)⟩
      · refine hR _ _ w5 (Keeps.of_below hb) (fun w6 r6 e6 h8 => ?_) (fun e6 w6 h8 => made8_form h8)
        rcases h8 with ⟨h8, -⟩ | ⟨-, h8⟩
        · exact absurd (HE.out.1.trans h0) h8
        rcases h8 with ⟨h8, -⟩ | ⟨-, -, h8, hb6⟩ | ⟨-, h8, -⟩
        · exact absurd rfl h8
        · obtain ⟨e1, e2⟩ := ret2_inj h8
          exact ⟨e1, e2, Md2.no HB4.out hb hb6⟩
        · rw [HE.out.2.1] at h8
          exact absurd h8 hr
    · refine (HC.out.1 h0).mono ?_
      rintro e w5 ⟨rfl, hb⟩
      refine hR _ _ w5 (Keeps.of_below hb) (fun w6 r6 e6 h8 => ?_) (fun e6 w6 h8 => made8_form h8)
      rcases h8 with ⟨-, h8, hb6⟩ | ⟨h8, -⟩
      · rw [HE.out.1] at h8
        obtain ⟨e1, e2⟩ := ret2_inj h8
        exact ⟨e1, e2, Md2.no HB4.out hb hb6⟩
      · exact absurd (HE.out.1.symm.trans h8) h0
  have HKc := (show Hid (k = 2 ∨ k = 3 ∨ k = 4) from HKk.out)
  rcases HKk.out with rfl | rfl | rfl
  all_goals
    clear HKk HKc HC
    go_wp2_with fail
    refine HP.out _ fun r5 e5 w5 hk5 hm5 hf5 => ?_
    have H5 := (show Hid _ from And.intro hk5 (And.intro hm5 hf5))
    have HX5 := (show Hid _ from H4.out.2.1.keeps hk5 (fun b hb => HA.out.2.2.2 b (.inl hb)) (fun b h1 h2 => (HA.out.2.1 b h2).1 h1))
    have b5 := HX5.out.b5
    have b12 := HX5.out.b12
    clear k1 k2 hl7 hk5 hm5 hf5 HP
    have k1 := (stepc_at b5).1
    have k2 := (stepc_at b5).2
    have hl12 := loadV_blk b12 rfl
    clear b5 b12
    simp only [vcs] at hl12
    go_wp2_with fail
    refine (HM8.out w5 H5.out.1).mono ?_
    intro e6 w6 h8
    obtain ⟨r6, a6, rfl⟩ := H5.out.2.2 e6 w6 h8
    have hk6 : Keeps G w5 w6 := made8_keeps h8
    obtain ⟨rfl, rfl, hMd⟩ := H5.out.2.1 w6 r6 a6 h8
    have H6 := (show Hid (Md2 w4 p q M N F G w6) from hMd)
    have HX6 := (show Hid _ from HX5.out.keeps hk6 (fun b hb => HA.out.2.2.2 b (.inr hb)) (fun b h1 h2 => (HA.out.2.1 b h2).2 h1))
    clear hk6 hMd h8 H5 HX5 hl12 k1 k2 HM8
    have b7 := HX6.out.b7
    have hl7 := loadV_blk b7 rfl
    have hl5 := stepld_v HX6.out.b5
    clear b7
    have HPs : Hid (Calls Tryz.prog 88 #[.agg (vcs v (.slice pr nr cr)), .agg (vcs v (.slice pa v.l.length c))] w6 fun e w' => e = .returned (.bool true) ∧ Below w6.heap.size w6 w') := (psame_G v HA.out.2.2.1 v (.slice pr nr cr) (.slice pa v.l.length c) w6 _ _ HX6.out.sl HX6.out.sv).mono fun e w' ⟨B, h1, h2, h3⟩ => by
      rw [h2.2 rfl] at h1
      exact ⟨h1, h3⟩
    simp only [vcs] at hl7 hl5 HPs
    go_wp2_with fail
    refine Calls.mono HPs.out ?_
    rintro e w7 ⟨rfl, hb7⟩
    have H7 := (show Hid (Below w6.heap.size w6 w7) from hb7)
    have HX7 := (show Hid _ from HX6.out.below hb7)
    clear hb7 HX6 hl7 hl5 HPs
    have b7 := HX7.out.b7
    have hl7 := loadV_blk b7 rfl
    clear b7
    simp only [vcs] at hl7
    go_wp2_with fail
    refine (spoil_G 42 v.kind v.n v.r v.s (.slice pr nr cr) w7 (fun b => w.heap.size + 1 ≤ b ∧ b < n7) (fun b hb => by have := blk_lt HX7.out.b7; have := hb.2; omega) HX7.out.sp).mono ?_
    rintro e w8 ⟨rfl, hk8, -⟩
    have HF : Hid (MadeL8 w p q M F G (.returned (.bool true)) w8) := Md2.done rfl H4.out.1 H6.out HA.out.2.2.2 H4.out.2.2 H7.out hk8
    have k1 := (stepc_at (hk8.none HX7.out.b5 (fun e => by have := e.1; omega))).1
    clear hk8 hl7 HX7 H7 H6
    go_wp2_with fail
    go_ret
    exact HF.out
end Go.Proofs.YthaliljaglldjaaGreat
