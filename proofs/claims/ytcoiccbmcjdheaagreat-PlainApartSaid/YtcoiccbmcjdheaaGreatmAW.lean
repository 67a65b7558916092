/- A part of the proof, several texts in one: PlB, PlC. -/
import Derived.Test.YtcoiccbmcjdheaaGreatmAV
import Derived.Laws.Tables
/- plain: a thing is made. -/
namespace Go.Proofs.YtcoiccbmcjdheaaGreat
open Go.RowKit Go.ChangeMaps Go.MapKept
variable {w : World} {p : Nat} {M : WM} {F : Nat → Prop}

theorem Grew.start {w w1 w' : World} {F F' : Nat → Prop} (h : Grew F w1 F' w') (hb : Below w.heap.size w w1) : Grew F w F' w' :=
  ⟨Below.keeps hb h.1, fun b hF => (h.2 b hF).imp id fun h => Nat.le_trans hb.size h⟩
theorem MadeG.start {w1 w' : World} {h : Int} {T : Th → Prop} {e : Ending} (hm : MadeG w1 p M F h T e w') (hb : Below w.heap.size w w1) : MadeG w p M F h T e w' := by
  rcases hm with ⟨h1, h2, t, F', h3, h4, h5⟩ | ⟨h1, h2, h3⟩
  · exact .inl ⟨h1, h2, t, F', h3, h4, h5.start hb⟩
  · exact .inr ⟨h1, h2, hb.trans (h3.mono hb.size)⟩

/-- made: what Make answers, where the thing may be. -/
theorem made_G (hW : IsW w p M F) {F1 : Nat → Prop} {h : Int} (hh : 0 ≤ h ∧ h < M.made.length) (t : Th) (hth : t.home = h) (hS : SlAt w F1 t.vl t.v.l) (hvs : ∃ a n c, t.vals = .slice a n c) (hc : t.code = .slice none 0 0) (hnm : t.names = .slice none 0 0) (hm : mayV t.v = true) (hk : ∀ r ∈ refsV t.v, (Lit.int .i64 r).wf = true ∧ (M.at r).isSome = true)
    {T : Th → Prop} (hMake : ∀ w', Below w.heap.size w w' → Calls Tryz.prog 49 #[.pointer (some ⟨p, 0, none⟩), .agg (thc t)] w' (MadeG w' p M F h T)) :
    Calls Tryz.prog 31 #[.pointer (some ⟨p, 0, none⟩), .agg (thc t)] w (MadeG w p M F h T) := by
  obtain ⟨pa, c, hv⟩ := hS.form
  obtain ⟨ps, ns, cs, hvals⟩ := hvs
  have hb0 : Below w.heap.size w (w.alloc (.cells (thc t) 42)) := (Below.refl _ _).alloc (Nat.le_refl _) _
  have HMay := (show Hid _ from may_G (hW.below hb0) hh t.v t.vl (hS.on hb0) hm hk)
  have HMk := (show Hid _ from hMake)
  have HB0 := (show Hid _ from And.intro hb0 (blk_new w (.cells (thc t) 42)))
  clear hS hW hb0 hm hk hMake hh
  obtain ⟨k, h', ⟨vk, vn, vstr, vlist, vr⟩, raw, vs, vals, n, l, tg, bi, s, fu, code, names⟩ := t
  simp only at hth hv hvals hc hnm
  subst hth hv hvals hc hnm
  simp only [thc, vcs] at HMay HMk HB0 ⊢
  go_enter Tryz.func31, Tryz.ntmps31
  go_wp2_with fail
  refine Calls.mono HMay.out ?_
  rintro e w1 ⟨rfl, hb1⟩
  have b1 := below_blk hb1 HB0.out.2
  have l1 := loadWhat_blk b1 rfl
  have HB1 := (show Hid (Below w.heap.size w w1) from HB0.out.1.trans (hb1.mono HB0.out.1.size))
  clear hb1 b1
  go_wp2_with fail
  refine Calls.mono (HMk.out _ HB1.out) ?_
  rintro e w2 hmade
  have hmade := hmade.start HB1.out
  rcases hmade with ⟨h1, rfl, h3⟩ | ⟨h1, rfl, h3⟩
  · have H := (show Hid _ from And.intro h1 h3)
    clear h1 h3
    go_wp2_with fail
    go_ret2
    exact .inl ⟨H.out.1, rfl, H.out.2⟩
  · have H := (show Hid _ from And.intro h1 h3)
    clear h1 h3
    go_wp2_with fail
    go_ret2
    exact .inr ⟨by have := H.out.1; omega, rfl, H.out.2⟩
theorem MadeL.toG {h : Int} {t : Th} {e : Ending} {w' : World} (hm : MadeL w p M F h t e w') : MadeG w p M F h (fun u => u = t) e w' := by
  rcases hm with ⟨h1, h2, F', h4, h5⟩ | h
  · exact .inl ⟨h1, h2, t, F', rfl, h4, h5⟩
  · exact .inr h
theorem refsV0 (vk vn : Int) (h : Plain vk vn) : refsV ⟨vk, vn, ⟨#[]⟩, [], 0⟩ = [] ∧ mayV ⟨vk, vn, ⟨#[]⟩, [], 0⟩ = true := by
  rcases h with ⟨rfl, rfl⟩ | rfl
  · exact ⟨by rfl, by rfl⟩
  · constructor
    · show (if mayV _ then refsN 16 _ else []) = []
      split <;> rfl
    · rfl

set_option maxRecDepth 8000 in
theorem Log_G (hW : IsW w p M F) (hl : M.last + 1 ≤ 1099511627776) {h : Int} (hh : 0 ≤ h ∧ h < M.made.length) : Calls Tryz.prog 10 #[.pointer (some ⟨p, 0, none⟩), .int .i64 h] w (MadeG w p M F h (fun t => t = lt 2 h 0 0 0 0 0 0 0 false)) := by
  have HM : Hid (Calls Tryz.prog 31 #[.pointer (some ⟨p, 0, none⟩), .agg (thc (lt 2 h 0 0 0 0 0 0 0 false))] w (MadeG w p M F h (fun t => t = lt 2 h 0 0 0 0 0 0 0 false))) :=
    made_G hW hh (lt 2 h 0 0 0 0 0 0 0 false) rfl (SlAt.nil w F none 0) ⟨_, _, _, rfl⟩ rfl rfl (refsV0 0 0 (.inl ⟨rfl, rfl⟩)).2 (fun r hr => by rw [(refsV0 0 0 (.inl ⟨rfl, rfl⟩)).1] at hr; cases hr) fun w' hb => (Make_2 (hW.below hb) hl hh).mono fun _ _ h => h.toG
  clear hW hl hh
  rw [thc_lt] at HM
  go_enter Tryz.func10, Tryz.ntmps10
  go_wp2_with fail
  refine Calls.mono HM.out ?_
  rintro e w2 (⟨h1, rfl, h3⟩ | ⟨h1, rfl, h3⟩)
  · have H := (show Hid _ from And.intro h1 h3)
    clear h1 h3 HM
    go_wp2_with fail
    go_ret2
    exact .inl ⟨H.out.1, rfl, H.out.2⟩
  · have H := (show Hid _ from And.intro h1 h3)
    clear h1 h3 HM
    go_wp2_with fail
    go_ret2
    exact .inr ⟨by have := H.out.1; omega, rfl, H.out.2⟩


set_option maxRecDepth 8000 in
theorem Queue_G (hW : IsW w p M F) (hl : M.last + 1 ≤ 1099511627776) {h : Int} (hh : 0 ≤ h ∧ h < M.made.length) : Calls Tryz.prog 11 #[.pointer (some ⟨p, 0, none⟩), .int .i64 h] w (MadeG w p M F h (fun t => t = lt 4 h 0 0 0 0 0 0 0 false)) := by
  have HM : Hid (Calls Tryz.prog 31 #[.pointer (some ⟨p, 0, none⟩), .agg (thc (lt 4 h 0 0 0 0 0 0 0 false))] w (MadeG w p M F h (fun t => t = lt 4 h 0 0 0 0 0 0 0 false))) :=
    made_G hW hh (lt 4 h 0 0 0 0 0 0 0 false) rfl (SlAt.nil w F none 0) ⟨_, _, _, rfl⟩ rfl rfl (refsV0 0 0 (.inl ⟨rfl, rfl⟩)).2 (fun r hr => by rw [(refsV0 0 0 (.inl ⟨rfl, rfl⟩)).1] at hr; cases hr) fun w' hb => (Make_4 (hW.below hb) hl hh).mono fun _ _ h => h.toG
  clear hW hl hh
  rw [thc_lt] at HM
  go_enter Tryz.func11, Tryz.ntmps11
  go_wp2_with fail
  refine Calls.mono HM.out ?_
  rintro e w2 (⟨h1, rfl, h3⟩ | ⟨h1, rfl, h3⟩)
  · have H := (show Hid _ from And.intro h1 h3)
    clear h1 h3 HM
    go_wp2_with fail
    go_ret2
    exact .inl ⟨H.out.1, rfl, H.out.2⟩
  · have H := (show Hid _ from And.intro h1 h3)
    clear h1 h3 HM
    go_wp2_with fail
    go_ret2
    exact .inr ⟨by have := H.out.1; omega, rfl, H.out.2⟩

/-- A cell. -/
abbrev cellT (h : Int) (v : Val) (raw : Value) : Th := ⟨1, h, v, raw, [], .slice none 0 0, 0, 0, 0, 0, 0, false, .slice none 0 0, .slice none 0 0⟩
set_option maxRecDepth 8000 in
theorem fitsV_1 (w : World) (q : Option Addr) (r h vk vn vr : Int) (vstr : ByteArray) (pv : Option Addr) (nv cv : Nat) : Calls Tryz.prog 75 #[.pointer q, .int .i64 r, .agg #[.int .u8 1, .int .i64 h, .int .u8 vk, .int .i64 vn, .string vstr, .slice pv nv cv, .int .i64 vr, .slice none 0 0, .int .i64 0, .int .i64 0, .int .i64 0, .int .i64 0, .int .u8 0, .bool false, .slice none 0 0, .slice none 0 0]] w fun e w' => e = .returned (.bool true) ∧ Below w.heap.size w w' := by
  go_enter Tryz.func75, Tryz.ntmps75
  go_wp2
  go_ret
  exact ⟨rfl, by go_grown⟩
theorem namesB_cell {h : Int} {v : Val} {raw : Value} (hk : ∀ r ∈ refsV v, (Lit.int .i64 r).wf = true ∧ (M.at r).isSome = true) : namesB M (cellT h v raw) = true ∧ ∀ r ∈ heldL (cellT h v raw), (Lit.int .i64 r).wf = true := by
  have e : heldL (cellT h v raw) = refsV v := by simp [heldL]
  unfold namesB
  rw [e]
  exact ⟨by rw [List.all_eq_true]; exact fun r hr => (hk r hr).2, fun r hr => (hk r hr).1⟩
theorem Make_V1 (hW : IsW w p M F) (hl : M.last + 1 ≤ 1099511627776) {h : Int} (home : 0 ≤ h ∧ h < M.made.length) {F1 : Nat → Prop} (v : Val) (raw : Value) (hS : SlAt w F1 raw v.l) (hm : mayV v = true) (hk : ∀ r ∈ refsV v, (Lit.int .i64 r).wf = true ∧ (M.at r).isSome = true) :
    Calls Tryz.prog 49 #[.pointer (some ⟨p, 0, none⟩), .agg (thc (cellT h v raw))] w (MadeG w p M F h (fun t => ∃ vl', t = cellT h v vl')) := by
  obtain ⟨pa, c, rfl⟩ := hS.form
  have hL : Lies w F1 (cellT h v (.slice pa v.l.length c)) := ⟨hS, SlAt.nil _ _ _ _, rfl, rfl⟩
  refine Make_G hW (T := fun t => ∃ vl', t = cellT h v vl') (c2 := .int .u8 v.kind) (c3 := .int .i64 v.n) (c4 := .string v.s) (c5 := .slice pa v.l.length c) (c6 := .int .i64 v.r) (c7 := .slice none 0 0) (c14 := .slice none 0 0) (c15 := .slice none 0 0) {
    form := fun w1 hb => formV_1 (hW.below hb) (sideB_iff.2 home) (vYes (hS.on hb) hm) ofYes0
    names := fun w1 hb => by
      have := names_G (hW.below hb) _ (hL.on hb) (Nat.zero_le _) (namesB_cell (M := M) hk).2
      rw [(namesB_cell (M := M) hk).1] at this
      exact this
    fits := fun w1 hb => fitsV_1 w1 _ 0 h _ _ _ _ _ _ _
    own := fun w1 hb => (ownWhat_G _ (hL.on hb) hm (fun x hx => by cases hx) (Nat.zero_le _)).mono fun e w' ⟨vl', vals', he, hb', hd, _, h2, _⟩ => by
      have h3 := h2 rfl
      subst h3
      refine ⟨_, ⟨vl', rfl⟩, he, hb', ⟨hd.v.monoLt fun b hb h2 => ⟨hb, h2⟩, SlT.nil _ _ _ _, rfl, rfl⟩⟩
    k14 := rfl
    k13 := fun e => absurd (show (1 : Int) = 13 from e) (by decide)
    tgw := rfl
    biw := rfl
    home := home
    hA := fun e => absurd (show asksOfB 1 = true from e) (by decide)
    hB := fun e => absurd (show asksByB 1 = true from e) (by decide)
    add := fun hr t ht => by
      obtain ⟨vl', rfl⟩ := ht
      exact ⟨rfl, rfl, rfl, {
        wf := ⟨by show (1 : Int) ≤ 1 ∧ (1 : Int) ≤ 16; decide, rfl, rfl, by show (0 : Int) ≤ 0 ∧ (0 : Int) ≤ 255; decide⟩
        last := hl
        home := fun _ => home
        made := fun _ => hr
        wrap := fun e => absurd (show wrapsB 1 = true from e) (by decide)
        gate := fun e => absurd (show (1 : Int) = 15 from e) (by decide)
        purse := fun e => absurd (show (1 : Int) = 9 from e) (by decide)
        facet := fun e => absurd (show (1 : Int) = 14 from e) (by decide) }⟩ }

set_option maxRecDepth 8000 in
theorem Cell_G (hW : IsW w p M F) (hl : M.last + 1 ≤ 1099511627776) {h : Int} (hh : 0 ≤ h ∧ h < M.made.length) {F1 : Nat → Prop} (v : Val) (raw : Value) (hS : SlAt w F1 raw v.l) (hm : mayV v = true) (hk : ∀ r ∈ refsV v, (Lit.int .i64 r).wf = true ∧ (M.at r).isSome = true) :
    Calls Tryz.prog 9 #[.pointer (some ⟨p, 0, none⟩), .int .i64 h, .agg (vcs v raw)] w (MadeG w p M F h (fun t => ∃ vl', t = cellT h v vl')) := by
  obtain ⟨pa, c, rfl⟩ := hS.form
  have hb0 : Below w.heap.size w (w.alloc (.cells (vcs v (.slice pa v.l.length c)) 34)) := (Below.refl _ _).alloc (Nat.le_refl _) _
  have HM := (show Hid _ from And.intro hb0 (made_G (hW.below hb0) hh (cellT h v (.slice pa v.l.length c)) rfl (hS.on hb0) ⟨_, _, _, rfl⟩ rfl rfl hm hk fun w' hb => Make_V1 ((hW.below hb0).below hb) hl hh v _ ((hS.on hb0).on hb) hm hk))
  clear hW hl hh hS hm hk hb0
  obtain ⟨vk, vn, vstr, vl, vr⟩ := v
  simp only [thc, vcs] at HM ⊢
  go_enter Tryz.func9, Tryz.ntmps9
  go_wp2_with fail
  refine Calls.mono HM.out.2 ?_
  rintro e w2 h0
  rcases h0.start HM.out.1 with ⟨h1, rfl, h3⟩ | ⟨h1, rfl, h3⟩
  · have H := (show Hid _ from And.intro h1 h3)
    clear h1 h3 HM h0
    go_wp2_with fail
    go_ret2
    exact .inl ⟨H.out.1, rfl, H.out.2⟩
  · have H := (show Hid _ from And.intro h1 h3)
    clear h1 h3 HM h0
    go_wp2_with fail
    go_ret2
    exact .inr ⟨by have := H.out.1; omega, rfl, H.out.2⟩
end Go.Proofs.YtcoiccbmcjdheaaGreat
/- A plain thing's base in memory: eighteen cells, read, built and laid at once. -/
namespace Go.Proofs.YtcoiccbmcjdheaaGreat
open Go.RowKit Go.ChangeMaps Go.MapKept

/-- The cells of a base: the world, the number, what the thing has. -/
def baseC (p : Nat) (r : Int) (t : Th) : Array Value :=
  #[.pointer (some ⟨p, 0, none⟩), .int .i64 r, .int .u8 t.kind, .int .i64 t.home, .int .u8 t.v.kind, .int .i64 t.v.n, .string t.v.s, t.vl, .int .i64 t.v.r, t.vals, .int .i64 t.n, .int .i64 t.lost, .int .i64 t.tgt, .int .i64 t.bi, .int .u8 t.set, .bool t.full, t.code, t.names]
def baseZ : Array Value := #[.pointer none, .int .i64 0, .int .u8 0, .int .i64 0, .int .u8 0, .int .i64 0, .string ⟨#[]⟩, .slice none 0 0, .int .i64 0, .slice none 0 0, .int .i64 0, .int .i64 0, .int .i64 0, .int .i64 0, .int .u8 0, .bool false, .slice none 0 0, .slice none 0 0]
theorem sizeBase : (Tryz.prog.info? 96).map (·.size) = some 18 := by kernel_rfl
def alB : Sem Next := do pure (.value (← Instr.alloc 96 true (.tuple #[])))
def ldB (a : Value) : Sem Next := do pure (.value (← Instr.loadAt 96 a))
def stB (a x : Value) : Sem Next := do Instr.storeAt 96 a x; pure .skip
def bld3 (a b c : Value) : Sem Next := do pure (.value (← Instr.build 96 #[(0, a), (1, b), (2, c)]))
def bldK (ty : TypeId) (a : Value) : Sem Next := do pure (.value (← Instr.build ty #[(0, a)]))
def boxK (ty : TypeId) (a : Value) : Sem Next := do pure (.value (← Instr.box ty a))
theorem execOp_alB (ρ : Operand → Value) (d : Option Tmp) (ty : TypeId) (pos : String) (af : Array Edge) (g : Option (Nat × Bool)) :
    execOp ρ { dst := d, op := .alloc 96, type := ty, pos := pos, after := af, guard := g } = alB := rfl
theorem execOp_ldB (ρ : Operand → Value) (d : Option Tmp) (a : Operand) (ty : TypeId) (pos : String) (af : Array Edge) (g : Option (Nat × Bool)) :
    execOp ρ { dst := d, op := .load 96 a, type := ty, pos := pos, after := af, guard := g } = ldB (ρ a) := rfl
theorem execOp_stB (ρ : Operand → Value) (d : Option Tmp) (a x : Operand) (ty : TypeId) (pos : String) (af : Array Edge) (g : Option (Nat × Bool)) :
    execOp ρ { dst := d, op := .store 96 a x, type := ty, pos := pos, after := af, guard := g } = stB (ρ a) (ρ x) := rfl
theorem execOp_bld3 (ρ : Operand → Value) (d : Option Tmp) (a b c : Operand) (ty : TypeId) (pos : String) (af : Array Edge) (g : Option (Nat × Bool)) :
    execOp ρ { dst := d, op := .build 96 #[(0, a), (1, b), (2, c)], type := ty, pos := pos, after := af, guard := g } = bld3 (ρ a) (ρ b) (ρ c) := by simp [execOp, bld3]
theorem alB_run (w : World) : alB.run Tryz.prog w = .ok (.value (.pointer (some ⟨w.heap.size, 0, none⟩))) (w.alloc (.cells baseZ 96)) := by
  simp [alB, baseZ, go_sem]
theorem ldB_run {w : World} {b : Nat} {cs : Array Value} {fr : Nat × Nat} (hg : w.heap[b]? = some (.cells cs 96 fr)) (hs : cs.size = 18) : (ldB (.pointer (some ⟨b, 0, none⟩))).run Tryz.prog w = .ok (.value (.agg cs)) w := by
  have := run_loadAt_blk hg Tryz.underlying96 rfl (by rw [hs]; exact sizeBase)
  simp only [ldB, Sem.run_bind, this, Result.andThen, Sem.run_pure]
theorem stB_run {w : World} {b : Nat} {c c' : Array Value} (hg : w.heap[b]? = some (.cells c 96 (0, 0))) (hs : c.size = 18) (hs' : c'.size = 18) (h1 : c'.all (·.oneCell') = true) :
    (stB (.pointer (some ⟨b, 0, none⟩)) (.agg c')).run Tryz.prog w = .ok .skip (w.setRow b c') := by
  have := run_storeAt_blk (P := Tryz.prog) hg (by rw [hs']; exact sizeBase) (by rw [hs, hs']) h1
  simp only [stB, Sem.run_bind, this, Result.andThen, Sem.run_pure]
theorem bld3_run (w : World) (p : Nat) (r : Int) {x0 x1 x2 x3 x4 x5 x6 x7 x8 x9 x10 x11 x12 x13 x14 x15 : Value} : (bld3 (.pointer (some ⟨p, 0, none⟩)) (.int .i64 r) (.agg #[x0, x1, x2, x3, x4, x5, x6, x7, x8, x9, x10, x11, x12, x13, x14, x15])).run Tryz.prog w =
    .ok (.value (.agg #[.pointer (some ⟨p, 0, none⟩), .int .i64 r, x0, x1, x2, x3, x4, x5, x6, x7, x8, x9, x10, x11, x12, x13, x14, x15])) w := by
  have h : Tryz.prog.built 96 [(0, .pointer (some ⟨p, 0, none⟩)), (1, .int .i64 r), (2, .agg #[x0, x1, x2, x3, x4, x5, x6, x7, x8, x9, x10, x11, x12, x13, x14, x15])] = some #[.pointer (some ⟨p, 0, none⟩), .int .i64 r, x0, x1, x2, x3, x4, x5, x6, x7, x8, x9, x10, x11, x12, x13, x14, x15] := by kernel_rfl
  have := run_build (P := Tryz.prog) w 96 #[(0, .pointer (some ⟨p, 0, none⟩)), (1, .int .i64 r), (2, .agg #[x0, x1, x2, x3, x4, x5, x6, x7, x8, x9, x10, x11, x12, x13, x14, x15])] _ h
  simp only [bld3, Sem.run_bind, this, Result.andThen, Sem.run_pure]
theorem bldK_1 (w : World) {y0 y1 x0 x1 x2 x3 x4 x5 x6 x7 x8 x9 x10 x11 x12 x13 x14 x15 : Value} : (bldK 129 (.agg #[y0, y1, x0, x1, x2, x3, x4, x5, x6, x7, x8, x9, x10, x11, x12, x13, x14, x15])).run Tryz.prog w = .ok (.value (.agg #[y0, y1, x0, x1, x2, x3, x4, x5, x6, x7, x8, x9, x10, x11, x12, x13, x14, x15])) w := by
  have h : Tryz.prog.built 129 [(0, .agg #[y0, y1, x0, x1, x2, x3, x4, x5, x6, x7, x8, x9, x10, x11, x12, x13, x14, x15])] = some #[y0, y1, x0, x1, x2, x3, x4, x5, x6, x7, x8, x9, x10, x11, x12, x13, x14, x15] := by kernel_rfl
  have := run_build (P := Tryz.prog) w 129 #[(0, .agg #[y0, y1, x0, x1, x2, x3, x4, x5, x6, x7, x8, x9, x10, x11, x12, x13, x14, x15])] _ h
  simp only [bldK, Sem.run_bind, this, Result.andThen, Sem.run_pure]
theorem boxK_1 (w : World) {cs : Array Value} : (boxK 129 (.agg cs)).run Tryz.prog w = .ok (.value (.pointer (some ⟨w.heap.size, 0, none⟩))) (w.alloc (.cells cs 129)) := by
  simp [boxK, go_sem]
theorem execOp_bldK_1 (ρ : Operand → Value) (d : Option Tmp) (a : Operand) (ty : TypeId) (pos : String) (af : Array Edge) (g : Option (Nat × Bool)) :
    execOp ρ { dst := d, op := .build 129 #[(0, a)], type := ty, pos := pos, after := af, guard := g } = bldK 129 (ρ a) := by simp [execOp, bldK]
theorem execOp_boxK_1 (ρ : Operand → Value) (d : Option Tmp) (a : Operand) (ty : TypeId) (pos : String) (af : Array Edge) (g : Option (Nat × Bool)) :
    execOp ρ { dst := d, op := .box 129 a, type := ty, pos := pos, after := af, guard := g } = boxK 129 (ρ a) := rfl
theorem bldK_2 (w : World) {y0 y1 x0 x1 x2 x3 x4 x5 x6 x7 x8 x9 x10 x11 x12 x13 x14 x15 : Value} : (bldK 98 (.agg #[y0, y1, x0, x1, x2, x3, x4, x5, x6, x7, x8, x9, x10, x11, x12, x13, x14, x15])).run Tryz.prog w = .ok (.value (.agg #[y0, y1, x0, x1, x2, x3, x4, x5, x6, x7, x8, x9, x10, x11, x12, x13, x14, x15])) w := by
  have h : Tryz.prog.built 98 [(0, .agg #[y0, y1, x0, x1, x2, x3, x4, x5, x6, x7, x8, x9, x10, x11, x12, x13, x14, x15])] = some #[y0, y1, x0, x1, x2, x3, x4, x5, x6, x7, x8, x9, x10, x11, x12, x13, x14, x15] := by kernel_rfl
  have := run_build (P := Tryz.prog) w 98 #[(0, .agg #[y0, y1, x0, x1, x2, x3, x4, x5, x6, x7, x8, x9, x10, x11, x12, x13, x14, x15])] _ h
  simp only [bldK, Sem.run_bind, this, Result.andThen, Sem.run_pure]
theorem boxK_2 (w : World) {cs : Array Value} : (boxK 98 (.agg cs)).run Tryz.prog w = .ok (.value (.pointer (some ⟨w.heap.size, 0, none⟩))) (w.alloc (.cells cs 98)) := by
  simp [boxK, go_sem]
theorem execOp_bldK_2 (ρ : Operand → Value) (d : Option Tmp) (a : Operand) (ty : TypeId) (pos : String) (af : Array Edge) (g : Option (Nat × Bool)) :
    execOp ρ { dst := d, op := .build 98 #[(0, a)], type := ty, pos := pos, after := af, guard := g } = bldK 98 (ρ a) := by simp [execOp, bldK]
theorem execOp_boxK_2 (ρ : Operand → Value) (d : Option Tmp) (a : Operand) (ty : TypeId) (pos : String) (af : Array Edge) (g : Option (Nat × Bool)) :
    execOp ρ { dst := d, op := .box 98 a, type := ty, pos := pos, after := af, guard := g } = boxK 98 (ρ a) := rfl
theorem bldK_3 (w : World) {y0 y1 x0 x1 x2 x3 x4 x5 x6 x7 x8 x9 x10 x11 x12 x13 x14 x15 : Value} : (bldK 131 (.agg #[y0, y1, x0, x1, x2, x3, x4, x5, x6, x7, x8, x9, x10, x11, x12, x13, x14, x15])).run Tryz.prog w = .ok (.value (.agg #[y0, y1, x0, x1, x2, x3, x4, x5, x6, x7, x8, x9, x10, x11, x12, x13, x14, x15])) w := by
  have h : Tryz.prog.built 131 [(0, .agg #[y0, y1, x0, x1, x2, x3, x4, x5, x6, x7, x8, x9, x10, x11, x12, x13, x14, x15])] = some #[y0, y1, x0, x1, x2, x3, x4, x5, x6, x7, x8, x9, x10, x11, x12, x13, x14, x15] := by kernel_rfl
  have := run_build (P := Tryz.prog) w 131 #[(0, .agg #[y0, y1, x0, x1, x2, x3, x4, x5, x6, x7, x8, x9, x10, x11, x12, x13, x14, x15])] _ h
  simp only [bldK, Sem.run_bind, this, Result.andThen, Sem.run_pure]
theorem boxK_3 (w : World) {cs : Array Value} : (boxK 131 (.agg cs)).run Tryz.prog w = .ok (.value (.pointer (some ⟨w.heap.size, 0, none⟩))) (w.alloc (.cells cs 131)) := by
  simp [boxK, go_sem]
theorem execOp_bldK_3 (ρ : Operand → Value) (d : Option Tmp) (a : Operand) (ty : TypeId) (pos : String) (af : Array Edge) (g : Option (Nat × Bool)) :
    execOp ρ { dst := d, op := .build 131 #[(0, a)], type := ty, pos := pos, after := af, guard := g } = bldK 131 (ρ a) := by simp [execOp, bldK]
theorem execOp_boxK_3 (ρ : Operand → Value) (d : Option Tmp) (a : Operand) (ty : TypeId) (pos : String) (af : Array Edge) (g : Option (Nat × Bool)) :
    execOp ρ { dst := d, op := .box 131 a, type := ty, pos := pos, after := af, guard := g } = boxK 131 (ρ a) := rfl
theorem bldK_4 (w : World) {y0 y1 x0 x1 x2 x3 x4 x5 x6 x7 x8 x9 x10 x11 x12 x13 x14 x15 : Value} : (bldK 100 (.agg #[y0, y1, x0, x1, x2, x3, x4, x5, x6, x7, x8, x9, x10, x11, x12, x13, x14, x15])).run Tryz.prog w = .ok (.value (.agg #[y0, y1, x0, x1, x2, x3, x4, x5, x6, x7, x8, x9, x10, x11, x12, x13, x14, x15])) w := by
  have h : Tryz.prog.built 100 [(0, .agg #[y0, y1, x0, x1, x2, x3, x4, x5, x6, x7, x8, x9, x10, x11, x12, x13, x14, x15])] = some #[y0, y1, x0, x1, x2, x3, x4, x5, x6, x7, x8, x9, x10, x11, x12, x13, x14, x15] := by kernel_rfl
  have := run_build (P := Tryz.prog) w 100 #[(0, .agg #[y0, y1, x0, x1, x2, x3, x4, x5, x6, x7, x8, x9, x10, x11, x12, x13, x14, x15])] _ h
  simp only [bldK, Sem.run_bind, this, Result.andThen, Sem.run_pure]
theorem boxK_4 (w : World) {cs : Array Value} : (boxK 100 (.agg cs)).run Tryz.prog w = .ok (.value (.pointer (some ⟨w.heap.size, 0, none⟩))) (w.alloc (.cells cs 100)) := by
  simp [boxK, go_sem]
theorem execOp_bldK_4 (ρ : Operand → Value) (d : Option Tmp) (a : Operand) (ty : TypeId) (pos : String) (af : Array Edge) (g : Option (Nat × Bool)) :
    execOp ρ { dst := d, op := .build 100 #[(0, a)], type := ty, pos := pos, after := af, guard := g } = bldK 100 (ρ a) := by simp [execOp, bldK]
theorem execOp_boxK_4 (ρ : Operand → Value) (d : Option Tmp) (a : Operand) (ty : TypeId) (pos : String) (af : Array Edge) (g : Option (Nat × Bool)) :
    execOp ρ { dst := d, op := .box 100 a, type := ty, pos := pos, after := af, guard := g } = boxK 100 (ρ a) := rfl
theorem bldK_10 (w : World) {y0 y1 x0 x1 x2 x3 x4 x5 x6 x7 x8 x9 x10 x11 x12 x13 x14 x15 : Value} : (bldK 102 (.agg #[y0, y1, x0, x1, x2, x3, x4, x5, x6, x7, x8, x9, x10, x11, x12, x13, x14, x15])).run Tryz.prog w = .ok (.value (.agg #[y0, y1, x0, x1, x2, x3, x4, x5, x6, x7, x8, x9, x10, x11, x12, x13, x14, x15])) w := by
  have h : Tryz.prog.built 102 [(0, .agg #[y0, y1, x0, x1, x2, x3, x4, x5, x6, x7, x8, x9, x10, x11, x12, x13, x14, x15])] = some #[y0, y1, x0, x1, x2, x3, x4, x5, x6, x7, x8, x9, x10, x11, x12, x13, x14, x15] := by kernel_rfl
  have := run_build (P := Tryz.prog) w 102 #[(0, .agg #[y0, y1, x0, x1, x2, x3, x4, x5, x6, x7, x8, x9, x10, x11, x12, x13, x14, x15])] _ h
  simp only [bldK, Sem.run_bind, this, Result.andThen, Sem.run_pure]
theorem boxK_10 (w : World) {cs : Array Value} : (boxK 102 (.agg cs)).run Tryz.prog w = .ok (.value (.pointer (some ⟨w.heap.size, 0, none⟩))) (w.alloc (.cells cs 102)) := by
  simp [boxK, go_sem]
theorem execOp_bldK_10 (ρ : Operand → Value) (d : Option Tmp) (a : Operand) (ty : TypeId) (pos : String) (af : Array Edge) (g : Option (Nat × Bool)) :
    execOp ρ { dst := d, op := .build 102 #[(0, a)], type := ty, pos := pos, after := af, guard := g } = bldK 102 (ρ a) := by simp [execOp, bldK]
theorem execOp_boxK_10 (ρ : Operand → Value) (d : Option Tmp) (a : Operand) (ty : TypeId) (pos : String) (af : Array Edge) (g : Option (Nat × Bool)) :
    execOp ρ { dst := d, op := .box 102 a, type := ty, pos := pos, after := af, guard := g } = boxK 102 (ρ a) := rfl
theorem bldK_11 (w : World) {y0 y1 x0 x1 x2 x3 x4 x5 x6 x7 x8 x9 x10 x11 x12 x13 x14 x15 : Value} : (bldK 133 (.agg #[y0, y1, x0, x1, x2, x3, x4, x5, x6, x7, x8, x9, x10, x11, x12, x13, x14, x15])).run Tryz.prog w = .ok (.value (.agg #[y0, y1, x0, x1, x2, x3, x4, x5, x6, x7, x8, x9, x10, x11, x12, x13, x14, x15])) w := by
  have h : Tryz.prog.built 133 [(0, .agg #[y0, y1, x0, x1, x2, x3, x4, x5, x6, x7, x8, x9, x10, x11, x12, x13, x14, x15])] = some #[y0, y1, x0, x1, x2, x3, x4, x5, x6, x7, x8, x9, x10, x11, x12, x13, x14, x15] := by kernel_rfl
  have := run_build (P := Tryz.prog) w 133 #[(0, .agg #[y0, y1, x0, x1, x2, x3, x4, x5, x6, x7, x8, x9, x10, x11, x12, x13, x14, x15])] _ h
  simp only [bldK, Sem.run_bind, this, Result.andThen, Sem.run_pure]
theorem boxK_11 (w : World) {cs : Array Value} : (boxK 133 (.agg cs)).run Tryz.prog w = .ok (.value (.pointer (some ⟨w.heap.size, 0, none⟩))) (w.alloc (.cells cs 133)) := by
  simp [boxK, go_sem]
theorem execOp_bldK_11 (ρ : Operand → Value) (d : Option Tmp) (a : Operand) (ty : TypeId) (pos : String) (af : Array Edge) (g : Option (Nat × Bool)) :
    execOp ρ { dst := d, op := .build 133 #[(0, a)], type := ty, pos := pos, after := af, guard := g } = bldK 133 (ρ a) := by simp [execOp, bldK]
theorem execOp_boxK_11 (ρ : Operand → Value) (d : Option Tmp) (a : Operand) (ty : TypeId) (pos : String) (af : Array Edge) (g : Option (Nat × Bool)) :
    execOp ρ { dst := d, op := .box 133 a, type := ty, pos := pos, after := af, guard := g } = boxK 133 (ρ a) := rfl
end Go.Proofs.YtcoiccbmcjdheaaGreat
