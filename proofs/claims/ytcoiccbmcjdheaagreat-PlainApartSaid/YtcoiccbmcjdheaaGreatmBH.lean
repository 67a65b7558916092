/- A part of the proof, several texts in one: PlW, PlX. -/
import Derived.Test.YtcoiccbmcjdheaaGreatmBG
/- plain: Get, Put, Take, Give: by Do. -/
namespace Go.Proofs.YtcoiccbmcjdheaaGreat
open Go.RowKit Go.ChangeMaps Go.MapKept
variable {w : World} {p : Nat} {M : WM} {F : Nat → Prop}

theorem Acts.fin {w w1 w2 w3 : World} {N : WM} (h : Acts w1 p F N w2) (hF : ∀ y, F y → y < w.heap.size) (hb : Below w.heap.size w w1) {y : Nat} (h1 : w.heap.size ≤ y) (h2 : y < w1.heap.size) (hk : Keeps (fun z => z = y) w2 w3) : Acts w p F N w3 := by
  obtain ⟨k1, F', hW, hF'⟩ := h
  refine ⟨(Below.keeps hb k1).trans hk (fun _ _ h => h) (fun x hx e => by omega), F', hW.keeps hk fun z hz e => ?_, fun z hz => (hF' z hz).imp id fun h => Nat.le_trans hb.size h⟩
  subst e
  rcases hF' _ hz with h | h
  · have := hF _ h
    omega
  · omega
/-- The same, the world's blocks named. -/
def IsPart (p : Nat) (F : Nat → Prop) (N : WM) (F' : Nat → Prop) (w w' : World) : Prop := Keeps F w w' ∧ IsW w' p N F' ∧ ∀ y, F' y → F y ∨ w.heap.size ≤ y
theorem IsPart.fin {w w1 w2 w3 : World} {N : WM} {F' : Nat → Prop} (h : IsPart p F N F' w1 w2) (hF : ∀ y, F y → y < w.heap.size) (hb : Below w.heap.size w w1) {y : Nat} (h1 : w.heap.size ≤ y) (h2 : y < w1.heap.size) (hk : Keeps (fun z => z = y) w2 w3) : IsPart p F N F' w w3 := by
  obtain ⟨k1, hW, hF'⟩ := h
  refine ⟨(Below.keeps hb k1).trans hk (fun _ _ h => h) (fun x hx e => by omega), hW.keeps hk fun z hz e => ?_, fun z hz => (hF' z hz).imp id fun h => Nat.le_trans hb.size h⟩
  subst e
  rcases hF' _ hz with h | h
  · have := hF _ h
    omega
  · omega
theorem Acts.start {w w1 w2 : World} {N : WM} (h : Acts w1 p F N w2) (hb : Below w.heap.size w w1) : Acts w p F N w2 := by
  obtain ⟨k1, F', hW, hF'⟩ := h
  exact ⟨Below.keeps hb k1, F', hW, fun z hz => (hF' z hz).imp id fun h => Nat.le_trans hb.size h⟩
theorem Acts.on {w w1 w2 : World} {N : WM} (h : Acts w p F N w1) (hb : Below w1.heap.size w1 w2) : Acts w p F N w2 := by
  obtain ⟨k1, F', hW, hF'⟩ := h
  exact ⟨k1.then_below hb, F', hW.below hb, hF'⟩
theorem slT_fin {w w1 w2 w3 : World} {G : Nat → Prop} {s : Value} {l : List Val} (h : SlT w2 (fun y => w1.heap.size ≤ y ∧ ¬ G y) s l) (hb : w.heap.size ≤ w1.heap.size) {y : Nat} (h2 : y < w1.heap.size) (hk : Keeps (fun z => z = y) w2 w3) : SlT w3 (fun y => w.heap.size ≤ y ∧ ¬ G y) s l := by
  have key : SlT w3 (fun y => w1.heap.size ≤ y ∧ ¬ G y) s l := (h.monoLt (F' := fun z => (w1.heap.size ≤ z ∧ ¬ G z) ∧ z < w2.heap.size) fun b h h' => ⟨h, h'⟩).of_blocks (Lists.of fun b hb => hk.block b hb.2 (by have := hb.1.1; omega)) (fun b hb => hb.1)
  exact key.mono fun b h => ⟨Nat.le_trans hb h.1, h.2⟩
theorem keeps_setRow (w : World) (b : Nat) (c : Array Value) : Keeps (fun z => z = b) w (w.setRow b c) := ⟨rfl, rfl, rfl, by simp [World.setRow], fun k _ hk => heap_setRow_other _ _ _ _ hk⟩

theorem execOp_stVw10 (ρ : Operand → Value) (ty : TypeId) (pos : String) (af : Array Edge) (g : Option (Nat × Bool)) :
    execOp ρ { dst := none, op := .store 34 (.tmp 4) (.tmp 10), type := ty, pos := pos, after := af, guard := g } = stV (ρ (.tmp 4)) (ρ (.tmp 10)) := rfl
theorem execOp_stVw13 (ρ : Operand → Value) (ty : TypeId) (pos : String) (af : Array Edge) (g : Option (Nat × Bool)) :
    execOp ρ { dst := none, op := .store 34 (.tmp 6) (.tmp 13), type := ty, pos := pos, after := af, guard := g } = stV (ρ (.tmp 6)) (ρ (.tmp 13)) := rfl
attribute [local go_sem ↓] execOp_stVw10 in
set_option maxHeartbeats 2000000 in
set_option maxRecDepth 8000 in
theorem plGet_A (hF : ∀ y, F y → y < w.heap.size) {r : Int} {X : Val → Int → WM → Prop} (hD : ∀ w1, Below w.heap.size w w1 → Calls Tryz.prog 38 #[.pointer (some ⟨p, 0, none⟩), .int .i64 r, .int .u8 1, .agg (vcs nilV (.slice none 0 0))] w1 (ActPost w1 p F X)) :
    Calls Tryz.prog 24 #[.pointer (some ⟨p, 0, none⟩), .int .i64 r] w (ActPost w p F X) := by
  have hb0 : Below w.heap.size w (w.alloc (.cells #[.int .u8 0, .int .i64 0, .string ⟨#[]⟩, .slice none 0 0, .int .i64 0] 34)) := (Below.refl _ _).alloc (Nat.le_refl _) _
  have HD := (show Hid _ from And.intro hb0 (And.intro (hD _ hb0) (blk_new w (.cells #[.int .u8 0, .int .i64 0, .string ⟨#[]⟩, .slice none 0 0, .int .i64 0] 34))))
  have HF : Hid (∀ y, F y → y < w.heap.size) := hF
  have hz : w.heap.size < (w.alloc (.cells #[.int .u8 0, .int .i64 0, .string ⟨#[]⟩, .slice none 0 0, .int .i64 0] 34)).heap.size := by simp
  have Hz := (show Hid _ from hz)
  clear hD hb0 hF hz
  simp only [vcs] at HD
  go_enter Tryz.func24, Tryz.ntmps24
  go_wp2_with fail
  refine Calls.mono HD.out.2.1 ?_
  rintro e w2 ⟨v', pv, cv, n, N, F', rfl, hX, hk, hW', hF', hS⟩
  have hA : IsPart p F N F' _ w2 := ⟨hk, hW', hF'⟩
  have hg : w2.heap[w.heap.size]? = some (.cells zV 34 (0, 0)) := (hk.block _ Hz.out (fun h => by have := HF.out _ h; omega)).trans HD.out.2.2
  obtain ⟨vk, vn, vstr, vl, vr⟩ := v'
  have hst := storeV_blk (c' := #[.int .u8 vk, .int .i64 vn, .string vstr, .slice pv vl.length cv, .int .i64 vr]) hg rfl rfl (by simp [go_sem])
  have HZ := (show Hid _ from heap_setRow_at (c' := #[.int .u8 vk, .int .i64 vn, .string vstr, .slice pv vl.length cv, .int .i64 vr]) hg)
  have HE : Hid (X ⟨vk, vn, vstr, vl, vr⟩ n N ∧ IsPart p F N F' w (w2.setRow w.heap.size #[.int .u8 vk, .int .i64 vn, .string vstr, .slice pv vl.length cv, .int .i64 vr]) ∧ SlT (w2.setRow w.heap.size #[.int .u8 vk, .int .i64 vn, .string vstr, .slice pv vl.length cv, .int .i64 vr]) (fun y => w.heap.size ≤ y ∧ ¬ F' y) (.slice pv vl.length cv) vl) :=
    ⟨hX, hA.fin HF.out HD.out.1 (Nat.le_refl _) Hz.out (keeps_setRow _ _ _), slT_fin hS (Nat.le_of_lt Hz.out) Hz.out (keeps_setRow _ _ _)⟩
  clear hX hA hk hW' hF' hS hg HD Hz
  simp only [vcs]
  go_wp2_with fail
  obtain ⟨⟨r0, r1, r2, r3, r4⟩, -⟩ := cells5 HZ.out
  refine bodyPost_ret (v := .tuple #[.agg #[.int .u8 vk, .int .i64 vn, .string vstr, .slice pv vl.length cv, .int .i64 vr], .int .i64 n]) ?_ rfl ?_
  · simp [results, Tryz.results24, go_sem, r0, r1, r2, r3, r4]
  · exact ⟨⟨vk, vn, vstr, vl, vr⟩, pv, cv, n, N, F', rfl, HE.out.1, HE.out.2.1.1, HE.out.2.1.2.1, HE.out.2.1.2.2, HE.out.2.2⟩

attribute [local go_sem ↓] execOp_stVw13 in
set_option maxHeartbeats 2000000 in
set_option maxRecDepth 8000 in
theorem plTake_A (hF : ∀ y, F y → y < w.heap.size) {r m : Int} {X : Val → Int → WM → Prop} (hD : ∀ w1, Below w.heap.size w w1 → Calls Tryz.prog 38 #[.pointer (some ⟨p, 0, none⟩), .int .i64 r, .int .u8 4, .agg (vcs (numV m) (.slice none 0 0))] w1 (ActPost w1 p F X)) :
    Calls Tryz.prog 19 #[.pointer (some ⟨p, 0, none⟩), .int .i64 r, .int .i64 m] w (ActPost w p F X) := by
  have hb0 : Below w.heap.size w (w.alloc (.cells #[.int .u8 0, .int .i64 0, .string ⟨#[]⟩, .slice none 0 0, .int .i64 0] 34)) := (Below.refl _ _).alloc (Nat.le_refl _) _
  have HD : Hid (∀ w1, Below w.heap.size w w1 → Calls Tryz.prog 38 #[.pointer (some ⟨p, 0, none⟩), .int .i64 r, .int .u8 4, .agg (vcs (numV m) (.slice none 0 0))] w1 (ActPost w1 p F X)) := hD
  have HB0 := (show Hid _ from And.intro hb0 (blk_new w (.cells #[.int .u8 0, .int .i64 0, .string ⟨#[]⟩, .slice none 0 0, .int .i64 0] 34)))
  have HF : Hid (∀ y, F y → y < w.heap.size) := hF
  clear hD hb0 hF
  simp only [vcs] at HD
  go_enter Tryz.func19, Tryz.ntmps19
  go_wp2_with fail
  refine (number_W _ m).mono ?_
  rintro e w1 ⟨rfl, hb1⟩
  have HB1 := (show Hid (Below w.heap.size w w1 ∧ w1.heap[w.heap.size]? = some (.cells zV 34 (0, 0)) ∧ w.heap.size < w1.heap.size) from ⟨HB0.out.1.trans (hb1.mono HB0.out.1.size), below_blk hb1 HB0.out.2, blk_lt (below_blk hb1 HB0.out.2)⟩)
  clear hb1 HB0
  go_wp2_with fail
  refine Calls.mono (HD.out _ HB1.out.1) ?_
  rintro e w2 ⟨v', pv, cv, n, N, F', rfl, hX, hk, hW', hF', hS⟩
  have hA : IsPart p F N F' _ w2 := ⟨hk, hW', hF'⟩
  have hg : w2.heap[w.heap.size]? = some (.cells zV 34 (0, 0)) := (hk.block _ HB1.out.2.2 (fun h => by have := HF.out _ h; omega)).trans HB1.out.2.1
  obtain ⟨vk, vn, vstr, vl, vr⟩ := v'
  have hst := storeV_blk (c' := #[.int .u8 vk, .int .i64 vn, .string vstr, .slice pv vl.length cv, .int .i64 vr]) hg rfl rfl (by simp [go_sem])
  have HZ := (show Hid _ from heap_setRow_at (c' := #[.int .u8 vk, .int .i64 vn, .string vstr, .slice pv vl.length cv, .int .i64 vr]) hg)
  have HE : Hid (X ⟨vk, vn, vstr, vl, vr⟩ n N ∧ IsPart p F N F' w (w2.setRow w.heap.size #[.int .u8 vk, .int .i64 vn, .string vstr, .slice pv vl.length cv, .int .i64 vr]) ∧ SlT (w2.setRow w.heap.size #[.int .u8 vk, .int .i64 vn, .string vstr, .slice pv vl.length cv, .int .i64 vr]) (fun y => w.heap.size ≤ y ∧ ¬ F' y) (.slice pv vl.length cv) vl) :=
    ⟨hX, hA.fin HF.out HB1.out.1 (Nat.le_refl _) HB1.out.2.2 (keeps_setRow _ _ _), slT_fin hS (Nat.le_of_lt HB1.out.2.2) HB1.out.2.2 (keeps_setRow _ _ _)⟩
  clear hX hA hk hW' hF' hS hg HD HB1
  simp only [vcs]
  go_wp2_with fail
  obtain ⟨⟨r0, r1, r2, r3, r4⟩, -⟩ := cells5 HZ.out
  refine bodyPost_ret (v := .tuple #[.agg #[.int .u8 vk, .int .i64 vn, .string vstr, .slice pv vl.length cv, .int .i64 vr], .int .i64 n]) ?_ rfl ?_
  · simp [results, Tryz.results19, go_sem, r0, r1, r2, r3, r4]
  · exact ⟨⟨vk, vn, vstr, vl, vr⟩, pv, cv, n, N, F', rfl, HE.out.1, HE.out.2.1.1, HE.out.2.1.2.1, HE.out.2.1.2.2, HE.out.2.2⟩

/-- An act's error alone. -/
def ErrPost (w : World) (p : Nat) (F : Nat → Prop) (X : Val → Int → WM → Prop) (e : Ending) (w' : World) : Prop := ∃ v n N, e = .returned (.int .i64 n) ∧ X v n N ∧ Acts w p F N w'

set_option maxHeartbeats 2000000 in
set_option maxRecDepth 8000 in
theorem plGive_A {r : Int} {v : Val} {pv : Option Addr} {nv cv : Nat} {X : Val → Int → WM → Prop} (hD : ∀ w1, Below w.heap.size w w1 → Calls Tryz.prog 38 #[.pointer (some ⟨p, 0, none⟩), .int .i64 r, .int .u8 8, .agg (vcs v (.slice pv nv cv))] w1 (ActPost w1 p F X)) :
    Calls Tryz.prog 14 #[.pointer (some ⟨p, 0, none⟩), .int .i64 r, .agg (vcs v (.slice pv nv cv))] w (ErrPost w p F X) := by
  have hb0 : Below w.heap.size w (w.alloc (.cells (vcs v (.slice pv nv cv)) 34)) := (Below.refl _ _).alloc (Nat.le_refl _) _
  have HD := (show Hid _ from And.intro hb0 (hD _ hb0))
  clear hD hb0
  obtain ⟨vk, vn, vstr, vl, vr⟩ := v
  simp only [vcs] at HD ⊢
  go_enter Tryz.func14, Tryz.ntmps14
  go_wp2_with fail
  refine Calls.mono HD.out.2 ?_
  rintro e w2 h2
  obtain ⟨v', pv', cv', n, N, rfl, hX, hA⟩ := h2.acts
  obtain ⟨vk', vn', vstr', vl', vr'⟩ := v'
  have HE : Hid (X ⟨vk', vn', vstr', vl', vr'⟩ n N ∧ Acts w p F N (w2.alloc (.cells #[.int .u8 vk', .int .i64 vn', .string vstr', .slice pv' vl'.length cv', .int .i64 vr'] 34))) := ⟨hX, (hA.start HD.out.1).on ((Below.refl _ _).alloc (Nat.le_refl _) _)⟩
  clear hX hA h2 HD
  simp only [vcs]
  go_wp2_with fail
  go_ret
  exact ⟨_, n, N, rfl, HE.out.1, HE.out.2⟩

set_option maxHeartbeats 2000000 in
set_option maxRecDepth 8000 in
theorem plPut_A {r : Int} {v : Val} {pv : Option Addr} {nv cv : Nat} {X : Val → Int → WM → Prop} (hD : ∀ w1, Below w.heap.size w w1 → Calls Tryz.prog 38 #[.pointer (some ⟨p, 0, none⟩), .int .i64 r, .int .u8 2, .agg (vcs v (.slice pv nv cv))] w1 (ActPost w1 p F X)) :
    Calls Tryz.prog 13 #[.pointer (some ⟨p, 0, none⟩), .int .i64 r, .agg (vcs v (.slice pv nv cv))] w (ErrPost w p F X) := by
  have hb0 : Below w.heap.size w (w.alloc (.cells (vcs v (.slice pv nv cv)) 34)) := (Below.refl _ _).alloc (Nat.le_refl _) _
  have HD := (show Hid _ from And.intro hb0 (hD _ hb0))
  clear hD hb0
  obtain ⟨vk, vn, vstr, vl, vr⟩ := v
  simp only [vcs] at HD ⊢
  go_enter Tryz.func13, Tryz.ntmps13
  go_wp2_with fail
  refine Calls.mono HD.out.2 ?_
  rintro e w2 h2
  obtain ⟨v', pv', cv', n, N, rfl, hX, hA⟩ := h2.acts
  obtain ⟨vk', vn', vstr', vl', vr'⟩ := v'
  have HE : Hid (X ⟨vk', vn', vstr', vl', vr'⟩ n N ∧ Acts w p F N (w2.alloc (.cells #[.int .u8 vk', .int .i64 vn', .string vstr', .slice pv' vl'.length cv', .int .i64 vr'] 34))) := ⟨hX, (hA.start HD.out.1).on ((Below.refl _ _).alloc (Nat.le_refl _) _)⟩
  clear hX hA h2 HD
  simp only [vcs]
  go_wp2_with fail
  go_ret
  exact ⟨_, n, N, rfl, HE.out.1, HE.out.2⟩
end Go.Proofs.YtcoiccbmcjdheaaGreat
/- plain: what acts on queues and cells come to. -/
namespace Go.Proofs.YtcoiccbmcjdheaaGreat
open Go.RowKit Go.ChangeMaps Go.MapKept
variable {w : World} {p : Nat} {M : WM} {F : Nat → Prop}

theorem found_q {k r h : Int} {vs : List Val} {vals0 : Value} {ty : TypeId} {b : Nat} {w0 w' : World} (hty : ty ≠ 34) (hF : ∀ y, F y → y < w0.heap.size) (hfd : FoundB w0 p r (qT k h vs vals0) ty b w') :
    ∃ vals', w'.heap[b]? = some (.cells (baseC p r (qT k h vs vals')) ty (0, 0)) ∧ w0.heap.size ≤ b ∧ Below w0.heap.size w0 w' ∧ CapOk vals' ∧ ∃ FA : Nat → Prop, SlAt w' FA vals' vs ∧ ∀ y, FA y → y ≠ b ∧ ¬ F y := by
  obtain ⟨vl', vals', h1, h2, h3, h4, h5, -, h7⟩ := hfd
  rw [h5 rfl] at h1
  refine ⟨vals', h1, h2, h3, h7, TyB w' (fun x => w0.heap.size ≤ x), h4.vs, ?_⟩
  rintro y ⟨hy, cs, fr, hc⟩
  refine ⟨fun e => ?_, fun e => by have := hF y e; omega⟩
  subst e
  rw [h1] at hc
  cases hc
  exact hty rfl
theorem fair_q {k h : Int} {vs : List Val} {vals : Value} (h1 : ∀ x ∈ vs, mayV x = true) (h2 : vs.length ≤ 1024) : Fair (qT k h vs vals) := ⟨(refsV0 0 0 (.inl ⟨rfl, rfl⟩)).2, h1, h2⟩

/-- What a queue answers when it is given x. -/
def GiveX (M : WM) (r k h : Int) (vs : List Val) (x v : Val) (c : Int) (N : WM) : Prop :=
  v = nilV ∧ ((mayV (listV (vs ++ [x])) = true ∧ c = 0 ∧ ∃ vals', N = M.set r (qT k h (vs ++ [x]) vals')) ∨ (mayV (listV (vs ++ [x])) = false ∧ c = 8 ∧ N = M))
theorem GivePost.meth {w0 w1 w' : World} {r k h : Int} {vs : List Val} {v : Val} {b : Nat} {e : Ending} (hW : IsW w1 p M F) (hs : w0.heap.size ≤ w1.heap.size) (hg : GivePost w1 p M F r k h vs v b e w') : MethPost w1 F b (MethX p F (GiveX M r k h vs v) w0) e w' := by
  rcases hg with ⟨h0, rfl, vals', vl', vals2, F', l0, l1, l2, l3⟩ | ⟨h0, rfl, h1⟩
  · rw [l0 rfl] at l1
    exact ⟨nilV, none, 0, 0, rfl, l2, _, F', ⟨rfl, .inl ⟨h0, rfl, vals2, rfl⟩⟩, l1, fun y hy => (l3 y hy).imp id fun h => Nat.le_trans hs h, SlT.nil _ _ _ _⟩
  · exact ⟨nilV, none, 0, 8, rfl, Keeps.of_below h1, M, F, ⟨rfl, .inr ⟨h0, rfl, rfl⟩⟩, hW.below h1, fun _ h => .inl h, SlT.nil _ _ _ _⟩
theorem act_4_8 (hW : IsW w p M F) {r : Int} (hr : (Lit.int .i64 r).wf = true) {h : Int} {vs : List Val} {vals0 : Value} (ht : M.at r = some (qT 4 h vs vals0)) (hh : sideB M h = true) (hheld : ∀ r ∈ heldL (qT 4 h vs vals0), (Lit.int .i64 r).wf = true ∧ (M.at r).isSome = true) (hmay : ∀ x ∈ vs, mayV x = true) (hlen : vs.length ≤ 1024)
    {FB : Nat → Prop} {v : Val} {raw : Value} (hv : SlAt w FB raw v.l) (hm : mayV v = true) (hkn : ∀ r ∈ refsV v, (Lit.int .i64 r).wf = true ∧ (M.at r).isSome = true) :
    Calls Tryz.prog 38 #[.pointer (some ⟨p, 0, none⟩), .int .i64 r, .int .u8 8, .agg (vcs v raw)] w (ActPost w p F (GiveX M r 4 h vs v)) := by
  refine (Do_4_8 hW hr ht (fair_q hmay hlen) rfl hv hm hkn (Post := MethX p F (GiveX M r 4 h vs v)) (Post' := fun v' raw n' w2 => MethX p F _ w v' raw n' w2)
    (methX_stab hW.lt) ?_).mono fun _ _ h => doAct h
  intro w0 w' b hb0 hfd
  obtain ⟨vals', hb, hbw, hbel, hcap, FA, hSA, hFA⟩ := found_q (F := F) (by decide) (fun y hy => Nat.lt_of_lt_of_le (hW.lt y hy) hb0.size) hfd
  have hbb := hb0.trans (hbel.mono hb0.size)
  have hW' : IsW w' p M F := hW.below hbb
  exact (qGive_W hW' hr (.inr rfl) ht hb (fun e => by have := hW.lt b e; have := hb0.size; omega) hh hSA (fun y hy => (hFA y hy).1) hcap hheld hmay hlen (hv.lt.on hbb) (fun y hy e => by have := hy.2; have := hb0.size; omega) hm hkn).mono fun e w'' hg => hg.meth hW' hbel.size
/-- What a queue answers when so many are taken. -/
def TakeX (M : WM) (r h : Int) (vs : List Val) (m : Int) (v : Val) (c : Int) (N : WM) : Prop :=
  (m < 0 ∧ v = nilV ∧ c = 2 ∧ N = M) ∨ ((vs.length : Int) < m ∧ v = nilV ∧ c = 81 ∧ N = M) ∨ (0 ≤ m ∧ m ≤ vs.length ∧ v = listV (vs.take m.toNat) ∧ c = 0 ∧ ∃ vals', N = M.set r (qT 4 h (vs.drop m.toNat) vals'))
theorem act_4_4 (hW : IsW w p M F) {r : Int} (hr : (Lit.int .i64 r).wf = true) {h : Int} {vs : List Val} {vals0 : Value} (ht : M.at r = some (qT 4 h vs vals0)) (hh : sideB M h = true) (hheld : ∀ r ∈ heldL (qT 4 h vs vals0), (Lit.int .i64 r).wf = true ∧ (M.at r).isSome = true) (hmay : mayV (listV vs) = true) (hmays : ∀ x ∈ vs, mayV x = true) (m : Int) :
    Calls Tryz.prog 38 #[.pointer (some ⟨p, 0, none⟩), .int .i64 r, .int .u8 4, .agg (vcs (numV m) (.slice none 0 0))] w (ActPost w p F (TakeX M r h vs m)) := by
  have hv := refsV0 1 m (.inr rfl)
  have hlen := may_list_len hmay
  refine (Do_4_4 hW hr ht (fair_q hmays (by omega)) rfl (v := numV m) (SlAt.nil w F none 0) hv.2 (fun r hr => by rw [hv.1] at hr; cases hr) (Post := MethX p F (TakeX M r h vs m)) (Post' := fun v' raw n' w2 => MethX p F _ w v' raw n' w2)
    (methX_stab hW.lt) ?_).mono fun _ _ h => doAct h
  intro w0 w' b hb0 hfd
  obtain ⟨vals', hb, hbw, hbel, hcap, FA, hSA, hFA⟩ := found_q (F := F) (by decide) (fun y hy => Nat.lt_of_lt_of_le (hW.lt y hy) hb0.size) hfd
  have hbb := hb0.trans (hbel.mono hb0.size)
  have hW' : IsW w' p M F := hW.below hbb
  by_cases h1 : m < 0
  · exact (qTake_arg w' b m h1).mono fun e w'' ⟨he, hb''⟩ => ⟨nilV, none, 0, 2, he, Keeps.of_below hb'', M, F, .inl ⟨h1, rfl, rfl, rfl⟩, hW'.below hb'', fun _ h => .inl h, SlT.nil _ _ _ _⟩
  by_cases h2 : (vs.length : Int) < m
  · obtain ⟨pa, c, e⟩ := hSA.form
    exact (qTake_short hb (show (qT 4 h vs vals').vals = .slice pa vs.length c from e) m h2).mono fun e w'' ⟨he, hb''⟩ => ⟨nilV, none, 0, 81, he, Keeps.of_below hb'', M, F, .inr (.inl ⟨h2, rfl, rfl, rfl⟩), hW'.below hb'', fun _ h => .inl h, SlT.nil _ _ _ _⟩
  · obtain ⟨k, rfl⟩ := Int.eq_ofNat_of_zero_le (show 0 ≤ m by omega)
    refine (qTake_W hW' hr ht hb (fun e => by have := hW.lt b e; have := hb0.size; omega) hh hSA hFA hcap hheld hmay hmays (k := k) (by omega)).mono ?_
    rintro e w'' ⟨raw', vals2, vl', vals3, F', he, hS', l0, l1, l2, l3⟩
    rw [l0 rfl] at l1
    obtain ⟨pr, cr, rfl⟩ := hS'.form
    exact ⟨listV (vs.take k), pr, cr, 0, he, l2, _, F', .inr (.inr ⟨by omega, by omega, rfl, rfl, vals3, rfl⟩), l1, fun y hy => (l3 y hy).imp id fun h => Nat.le_trans hbel.size h, hS'.mono fun y hy => ⟨Nat.le_trans hbel.size hy.1, hy.2⟩⟩
theorem act_4_2 (hW : IsW w p M F) {r : Int} (hr : (Lit.int .i64 r).wf = true) {h : Int} {vs : List Val} {vals0 : Value} (ht : M.at r = some (qT 4 h vs vals0)) (hmay : ∀ x ∈ vs, mayV x = true) (hlen : vs.length ≤ 1024)
    {FB : Nat → Prop} {v : Val} {raw : Value} (hv : SlAt w FB raw v.l) (hm : mayV v = true) (hkn : ∀ r ∈ refsV v, (Lit.int .i64 r).wf = true ∧ (M.at r).isSome = true) :
    Calls Tryz.prog 38 #[.pointer (some ⟨p, 0, none⟩), .int .i64 r, .int .u8 2, .agg (vcs v raw)] w (ActPost w p F (fun v c N => v = nilV ∧ c = 6 ∧ N = M)) := by
  refine (Do_4_2 hW hr ht (fair_q hmay hlen) rfl hv hm hkn (Post := MethX p F (fun v c N => v = nilV ∧ c = 6 ∧ N = M)) (Post' := fun v' raw n' w2 => MethX p F _ w v' raw n' w2)
    (methX_stab hW.lt) ?_).mono fun _ _ h => doAct h
  intro w0 w' b hb0 hfd
  obtain ⟨vals', hb, hbw, hbel, -⟩ := found_q (F := F) (by decide) (fun y hy => Nat.lt_of_lt_of_le (hW.lt y hy) hb0.size) hfd
  have hW' : IsW w' p M F := hW.below (hb0.trans (hbel.mono hb0.size))
  obtain ⟨pv, cv, rfl⟩ := hv.form
  exact (bPut_W w' _ _ _ _ _ _ _ _).mono fun e w'' ⟨he, hb''⟩ => ⟨nilV, none, 0, 6, he, Keeps.of_below hb'', M, F, ⟨rfl, rfl, rfl⟩, hW'.below hb'', fun _ h => .inl h, SlT.nil _ _ _ _⟩
theorem act_1_1 (hW : IsW w p M F) {r : Int} (hr : (Lit.int .i64 r).wf = true) {h : Int} {x : Val} {raw : Value} (ht : M.at r = some (cellT h x raw)) (hm : mayV x = true) :
    Calls Tryz.prog 38 #[.pointer (some ⟨p, 0, none⟩), .int .i64 r, .int .u8 1, .agg (vcs nilV (.slice none 0 0))] w (ActPost w p F (fun v c N => v = x ∧ c = 0 ∧ N = M)) := by
  have hv := refsV0 0 0 (.inl ⟨rfl, rfl⟩)
  refine (Do_1_1 hW hr ht ⟨hm, fun x hx => (by cases hx), Nat.zero_le _⟩ rfl (v := nilV) (SlAt.nil w F none 0) hv.2 (fun r hr => by rw [hv.1] at hr; cases hr) (Post := MethX p F (fun v c N => v = x ∧ c = 0 ∧ N = M)) (Post' := fun v' raw n' w2 => MethX p F _ w v' raw n' w2)
    (methX_stab hW.lt) ?_).mono fun _ _ h => doAct h
  intro w0 w' b hb0 hfd
  obtain ⟨vl', vals', hb, hbw, hbel, hdeep, -, -, -⟩ := hfd
  have hW' : IsW w' p M F := hW.below (hb0.trans (hbel.mono hb0.size))
  obtain ⟨pv, cv, e⟩ := hdeep.v.form
  have e' : vl' = .slice pv x.l.length cv := e
  subst e'
  exact (cGet_W hb rfl).mono fun e w'' ⟨he, hb''⟩ => ⟨x, pv, cv, 0, he, Keeps.of_below hb'', M, F, ⟨rfl, rfl, rfl⟩, hW'.below hb'', fun _ h => .inl h, (hdeep.v.on hb'').mono fun y hy => ⟨hy, fun e => by have := hW.lt y e; have := hb0.size; have : w0.heap.size ≤ y := hy; omega⟩⟩

set_option maxRecDepth 8000 in
theorem rSame_num (w : World) (n : Int) (pv : Option Addr) (cv : Nat) : Calls Tryz.prog 16 #[.agg #[.int .u8 1, .int .i64 n, .string ⟨#[]⟩, .slice pv 0 cv, .int .i64 0], .agg #[.int .u8 1, .int .i64 n, .string ⟨#[]⟩, .slice none 0 0, .int .i64 0]] w fun e w' => e = .returned (.bool true) ∧ Below w.heap.size w w' := by
  go_enter Tryz.func16, Tryz.ntmps16
  go_wp2
  go_rounds 1
  go_ret
  exact ⟨rfl, by go_grown⟩
end Go.Proofs.YtcoiccbmcjdheaaGreat
