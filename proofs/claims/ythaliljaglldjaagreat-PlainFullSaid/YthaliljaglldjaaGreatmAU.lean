/- A part of the proof, several texts in one: MakeL, GLay, GLayB, PlA, PlB. -/
import Derived.Test.YthaliljaglldjaaGreatmAS
import Derived.Test.YthaliljaglldjaaGreatmAT
import Derived.Test.YthaliljaglldjaaGreatmAI
import Derived.Test.YthaliljaglldjaaGreatmAR
/- Make of a light thing, of any kind; the kinds one by one. -/
namespace Go.Proofs.YthaliljaglldjaaGreat
open Go.RowKit Go.ChangeMaps Go.MapKept
variable {w : World} {p : Nat} {M : WM} {F : Nat → Prop}
theorem MakeIn.light (hW : IsW w p M F) {k h vk vn n l tg bi s : Int} {fu : Bool} (hp : Plain vk vn)
    (hform : ∀ w, IsW w p M F → Calls Tryz.prog 74 #[.pointer (some ⟨p, 0, none⟩), .agg #[.int .u8 k, .int .i64 h, .int .u8 vk, .int .i64 vn, .string ⟨#[]⟩, .slice none 0 0, .int .i64 0, .slice none 0 0, .int .i64 n, .int .i64 l, .int .i64 tg, .int .i64 bi, .int .u8 s, .bool fu, .slice none 0 0, .slice none 0 0]] w fun e w' => e = .returned (.bool true) ∧ Below w.heap.size w w')
    (hfits : ∀ w, IsW w p M F → Calls Tryz.prog 78 #[.pointer (some ⟨p, 0, none⟩), .int .i64 0, .agg #[.int .u8 k, .int .i64 h, .int .u8 vk, .int .i64 vn, .string ⟨#[]⟩, .slice none 0 0, .int .i64 0, .slice none 0 0, .int .i64 n, .int .i64 l, .int .i64 tg, .int .i64 bi, .int .u8 s, .bool fu, .slice none 0 0, .slice none 0 0]] w fun e w' => e = .returned (.bool true) ∧ Below w.heap.size w w')
    (k14 : (k == 14) = false) (k13 : k = 13 → tg = 0) (tgw : (Lit.int .i64 tg).wf = true) (biw : (Lit.int .i64 bi).wf = true) (home : 0 ≤ h ∧ h < M.made.length)
    (hA : asksOfB k = true → (M.at tg).isSome = true) (hB : asksByB k = true → (M.at bi).isSome = true) (add : M.made.getD h.toNat 0 < 512 → AddOk M (lt k h vk vn n l tg bi s fu)) :
    MakeIn w p M F k h n l tg bi s fu (.int .u8 vk) (.int .i64 vn) (.string ⟨#[]⟩) (.slice none 0 0) (.int .i64 0) (.slice none 0 0) (.slice none 0 0) (.slice none 0 0) (fun t => t = lt k h vk vn n l tg bi s fu) where
  form w1 hb := hform w1 (hW.below hb)
  names w1 hb := names_W w1 _ k h vk vn n l tg bi s fu hp
  fits w1 hb := hfits w1 (hW.below hb)
  own w1 hb := (ownWhat_W w1 k h vk vn n l tg bi s fu hp).mono fun e w' h => ⟨_, rfl, h.1, h.2, deep_lt _ _ _ _ _ _ _ _ _ _ _ _⟩
  k14 := k14
  k13 := k13
  tgw := tgw
  biw := biw
  home := home
  hA := hA
  hB := hB
  add hr t ht := by subst ht; exact ⟨rfl, rfl, rfl, add hr⟩
def MadeL (w : World) (p : Nat) (M : WM) (F : Nat → Prop) (h : Int) (t : Th) (e : Ending) (w' : World) : Prop :=
  (M.made.getD h.toNat 0 < 512 ∧ e = .returned (.tuple #[.int .i64 (M.last + 1), .int .i64 0]) ∧ ∃ F', IsW w' p (makeM M t) F' ∧ Grew F w F' w') ∨
  (¬ M.made.getD h.toNat 0 < 512 ∧ e = .returned (.tuple #[.int .i64 0, .int .i64 8]) ∧ Below w.heap.size w w')
theorem MadeG.light {h : Int} {t : Th} {e : Ending} {w' : World} (hm : MadeG w p M F h (fun u => u = t) e w') : MadeL w p M F h t e w' := by
  rcases hm with ⟨h1, h2, u, F', rfl, h4, h5⟩ | h
  · exact .inl ⟨h1, h2, F', h4, h5⟩
  · exact .inr h
theorem plain0 : Plain 0 0 := .inl ⟨rfl, rfl⟩
section
variable (hW : IsW w p M F) (hl : M.last + 1 ≤ 1099511627776) {h : Int} (home : 0 ≤ h ∧ h < M.made.length)
include hW hl home
theorem Make_2 : Calls Tryz.prog 14 #[.pointer (some ⟨p, 0, none⟩), .agg #[.int .u8 2, .int .i64 h, .int .u8 0, .int .i64 0, .string ⟨#[]⟩, .slice none 0 0, .int .i64 0, .slice none 0 0, .int .i64 0, .int .i64 0, .int .i64 0, .int .i64 0, .int .u8 0, .bool false, .slice none 0 0, .slice none 0 0]] w (MadeL w p M F h (lt 2 h 0 0 0 0 0 0 0 false)) :=
  (Make_G hW (MakeIn.light hW plain0 (fun w hW => form_2 hW h (sideB_iff.2 home)) (fun w _ => fits_2 w _ 0 h 0 0 0 0 0 0 0 false) rfl (fun e => absurd e (by decide)) rfl rfl home (fun e => absurd e (by decide)) (fun e => absurd e (by decide)) fun hr => {
    wf := ⟨by show (1 : Int) ≤ 2 ∧ (2 : Int) ≤ 16; decide, rfl, rfl, by show (0 : Int) ≤ 0 ∧ (0 : Int) ≤ 255; decide⟩
    last := hl
    home := fun _ => home
    made := fun _ => hr
    wrap := fun e => absurd (show wrapsB 2 = true from e) (by decide)
    gate := fun e => absurd (show (2 : Int) = 15 from e) (by decide)
    purse := fun e => absurd (show (2 : Int) = 9 from e) (by decide)
    facet := fun e => absurd (show (2 : Int) = 14 from e) (by decide) })).mono fun _ _ h => h.light
theorem Make_4 : Calls Tryz.prog 14 #[.pointer (some ⟨p, 0, none⟩), .agg #[.int .u8 4, .int .i64 h, .int .u8 0, .int .i64 0, .string ⟨#[]⟩, .slice none 0 0, .int .i64 0, .slice none 0 0, .int .i64 0, .int .i64 0, .int .i64 0, .int .i64 0, .int .u8 0, .bool false, .slice none 0 0, .slice none 0 0]] w (MadeL w p M F h (lt 4 h 0 0 0 0 0 0 0 false)) :=
  (Make_G hW (MakeIn.light hW plain0 (fun w hW => form_4 hW h (sideB_iff.2 home)) (fun w _ => fits_4 w _ 0 h 0 0 0 0 0 0 0 false) rfl (fun e => absurd e (by decide)) rfl rfl home (fun e => absurd e (by decide)) (fun e => absurd e (by decide)) fun hr => {
    wf := ⟨by show (1 : Int) ≤ 4 ∧ (4 : Int) ≤ 16; decide, rfl, rfl, by show (0 : Int) ≤ 0 ∧ (0 : Int) ≤ 255; decide⟩
    last := hl
    home := fun _ => home
    made := fun _ => hr
    wrap := fun e => absurd (show wrapsB 4 = true from e) (by decide)
    gate := fun e => absurd (show (4 : Int) = 15 from e) (by decide)
    purse := fun e => absurd (show (4 : Int) = 9 from e) (by decide)
    facet := fun e => absurd (show (4 : Int) = 14 from e) (by decide) })).mono fun _ _ h => h.light
theorem Make_3 {n : Int} (hn : 0 ≤ n ∧ n ≤ 9007199254740992) : Calls Tryz.prog 14 #[.pointer (some ⟨p, 0, none⟩), .agg #[.int .u8 3, .int .i64 h, .int .u8 0, .int .i64 0, .string ⟨#[]⟩, .slice none 0 0, .int .i64 0, .slice none 0 0, .int .i64 n, .int .i64 0, .int .i64 0, .int .i64 0, .int .u8 0, .bool false, .slice none 0 0, .slice none 0 0]] w (MadeL w p M F h (lt 3 h 0 0 n 0 0 0 0 false)) :=
  (Make_G hW (MakeIn.light hW plain0 (fun w hW => form_3 hW h n (sideB_iff.2 home) hn) (fun w _ => fits_3 w _ 0 h 0 0 n 0 0 0 0 false) rfl (fun e => absurd e (by decide)) rfl rfl home (fun e => absurd e (by decide)) (fun e => absurd e (by decide)) fun hr => {
    wf := ⟨by show (1 : Int) ≤ 3 ∧ (3 : Int) ≤ 16; decide, rfl, rfl, by show (0 : Int) ≤ 0 ∧ (0 : Int) ≤ 255; decide⟩
    last := hl
    home := fun _ => home
    made := fun _ => hr
    wrap := fun e => absurd (show wrapsB 3 = true from e) (by decide)
    gate := fun e => absurd (show (3 : Int) = 15 from e) (by decide)
    purse := fun e => absurd (show (3 : Int) = 9 from e) (by decide)
    facet := fun e => absurd (show (3 : Int) = 14 from e) (by decide) })).mono fun _ _ h => h.light
theorem Make_10 : Calls Tryz.prog 14 #[.pointer (some ⟨p, 0, none⟩), .agg #[.int .u8 10, .int .i64 h, .int .u8 0, .int .i64 0, .string ⟨#[]⟩, .slice none 0 0, .int .i64 0, .slice none 0 0, .int .i64 0, .int .i64 0, .int .i64 0, .int .i64 0, .int .u8 0, .bool false, .slice none 0 0, .slice none 0 0]] w (MadeL w p M F h (lt 10 h 0 0 0 0 0 0 0 false)) :=
  (Make_G hW (MakeIn.light hW plain0 (fun w hW => form_10a hW h (sideB_iff.2 home)) (fun w _ => fits_10 w _ 0 h 0 0 0 0 0 0 0 false) rfl (fun e => absurd e (by decide)) rfl rfl home (fun e => absurd e (by decide)) (fun e => absurd e (by decide)) fun hr => {
    wf := ⟨by show (1 : Int) ≤ 10 ∧ (10 : Int) ≤ 16; decide, rfl, rfl, by show (0 : Int) ≤ 0 ∧ (0 : Int) ≤ 255; decide⟩
    last := hl
    home := fun _ => home
    made := fun _ => hr
    wrap := fun e => absurd (show wrapsB 10 = true from e) (by decide)
    gate := fun e => absurd (show (10 : Int) = 15 from e) (by decide)
    purse := fun e => absurd (show (10 : Int) = 9 from e) (by decide)
    facet := fun e => absurd (show (10 : Int) = 14 from e) (by decide) })).mono fun _ _ h => h.light
end
end Go.Proofs.YthaliljaglldjaaGreat
/- What and Lay of things whose values are any; Make of a cell with any value. -/
namespace Go.Proofs.YthaliljaglldjaaGreat
open Go.RowKit Go.ChangeMaps Go.MapKept
variable {w : World} {p : Nat} {M : WM} {F : Nat → Prop}
structure Fair (t : Th) : Prop where
  v : mayV t.v = true
  vs : ∀ x ∈ t.vs, mayV x = true
  len : t.vs.length ≤ 1024
set_option maxHeartbeats 1000000 in
set_option maxRecDepth 8000 in
theorem What_G (hW : IsW w p M F) {r : Int} (hr : (Lit.int .i64 r).wf = true) {t : Th} (ht : M.at r = some t) (hf : Fair t) :
    Calls Tryz.prog 137 #[.pointer (some ⟨p, 0, none⟩), .int .i64 r] w fun e w' => ∃ vl' vals', e = .returned (.tuple #[.agg (thc { t with vl := vl', vals := vals' }), .int .i64 0]) ∧ Below w.heap.size w w' ∧
      Deep w' (fun b => w.heap.size ≤ b) { t with vl := vl', vals := vals' } ∧ (t.v.l = [] → vl' = .slice none 0 0) ∧ (t.vals = .slice none 0 0 → vals' = .slice none 0 0) ∧ CapOk vals' := by
  have HW : Hid (IsW w p M F) := hW
  have hIs : (M.at r).isSome = true := by rw [ht]; rfl
  have HIs := (show Hid _ from hIs)
  have hWA := HW.out.below (w' := w.alloc (.cells #[.int .u8 0, .int .i64 0, .int .u8 0, .int .i64 0, .string ⟨#[]⟩, .slice none 0 0, .int .i64 0, .slice none 0 0, .int .i64 0, .int .i64 0, .int .i64 0, .int .i64 0, .int .u8 0, .bool false, .slice none 0 0, .slice none 0 0] 46)) ((Below.refl _ _).alloc (Nat.le_refl _) _)
  have HWA : Hid (IsW (w.alloc (.cells #[.int .u8 0, .int .i64 0, .int .u8 0, .int .i64 0, .string ⟨#[]⟩, .slice none 0 0, .int .i64 0, .slice none 0 0, .int .i64 0, .int .i64 0, .int .i64 0, .int .i64 0, .int .u8 0, .bool false, .slice none 0 0, .slice none 0 0] 46)) p M F) := hWA
  obtain ⟨pa, pc, cg, cc, mg, mc, tb, fb, fn, bl, hV⟩ := hWA
  have c2 := hV.c2
  have hlk := hV.look hr
  rw [ht] at hlk
  simp only [Option.map_some] at hlk
  have hld := loadWhat_blk (hV.blk r _ ht).1 rfl
  have hO := ownWhat_G t (hV.blk r _ ht).2.2.lies hf.v hf.vs hf.len
  have HO := (show Hid _ from hO)
  clear hV hW ht hIs hO hf
  obtain ⟨k, h, ⟨vk, vn, vstr, vl, vr⟩, raw, vs, vals, n, l, tg, bi, s, fu, code, names⟩ := t
  simp only [thc] at HO hld ⊢
  go_enter Tryz.func137, Tryz.ntmps137
  go_wp2_with fail
  refine (none_W HWA.out).mono ?_
  rintro e _ ⟨rfl, rfl⟩
  go_wp2_with fail
  refine (Is_W HWA.out hr).mono ?_
  rw [HIs.out]
  rintro e _ ⟨rfl, rfl⟩
  go_wp2_with fail
  refine Calls.mono HO.out ?_
  rintro e w1 ⟨vl', vals', rfl, hb1, hd1, hn1, hn2, hn3⟩
  obtain ⟨pv, cv, hv⟩ := hd1.v.form
  obtain ⟨ps, cs, hs⟩ := hd1.vs.form
  simp only at hv hs
  have B1 := below_blk hb1 (blk_new w _)
  have HB1 : Hid (Below w.heap.size w w1) := ((Below.refl _ _).alloc (Nat.le_refl _) _).trans (hb1.mono (by simp))
  have hcode := hd1.code
  have hnames := hd1.names
  simp only at hcode hnames
  subst hv hs hcode hnames
  have hst := storeWhat_blk (c' := #[.int .u8 k, .int .i64 h, .int .u8 vk, .int .i64 vn, .string vstr, .slice pv vl.length cv, .int .i64 vr, .slice ps vs.length cs, .int .i64 n, .int .i64 l, .int .i64 tg, .int .i64 bi, .int .u8 s, .bool fu, .slice none 0 0, .slice none 0 0]) B1 rfl rfl (by simp [go_sem])
  have G1 := (show Hid _ from heap_setRow_at (c' := #[.int .u8 k, .int .i64 h, .int .u8 vk, .int .i64 vn, .string vstr, .slice pv vl.length cv, .int .i64 vr, .slice ps vs.length cs, .int .i64 n, .int .i64 l, .int .i64 tg, .int .i64 bi, .int .u8 s, .bool fu, .slice none 0 0, .slice none 0 0]) B1)
  have HD : Hid (Deep (w1.setRow w.heap.size #[.int .u8 k, .int .i64 h, .int .u8 vk, .int .i64 vn, .string vstr, .slice pv vl.length cv, .int .i64 vr, .slice ps vs.length cs, .int .i64 n, .int .i64 l, .int .i64 tg, .int .i64 bi, .int .u8 s, .bool fu, .slice none 0 0, .slice none 0 0]) (fun b => w.heap.size ≤ b) ⟨k, h, ⟨vk, vn, vstr, vl, vr⟩, .slice pv vl.length cv, vs, .slice ps vs.length cs, n, l, tg, bi, s, fu, .slice none 0 0, .slice none 0 0⟩) :=
    hd1.of_blocks (Lists.of fun b hb => heap_setRow_other _ _ _ _ (by simp at hb; omega)) (fun b hb => by simp at hb; show w.heap.size ≤ b; omega)
  have HN := (show Hid ((vl = [] → Value.slice pv vl.length cv = .slice none 0 0) ∧ (vals = .slice none 0 0 → Value.slice ps vs.length cs = .slice none 0 0) ∧ CapOk (.slice ps vs.length cs)) from ⟨hn1, hn2, hn3⟩)
  clear hb1 B1 c2 hlk hld hd1 hn1 hn2 hn3 HO
  go_wp2_with fail
  exact bodyPost_ret (results_What2 rfl _ _ _ _ _ rfl G1.out rfl) rfl ⟨_, _, rfl, Below.setRow HB1.out (Nat.le_refl _) _, HD.out, HN.out.1, HN.out.2.1, HN.out.2.2⟩
end Go.Proofs.YthaliljaglldjaaGreat
/- Lay of a thing whose values are any, over one. -/
namespace Go.Proofs.YthaliljaglldjaaGreat
open Go.RowKit Go.ChangeMaps Go.MapKept
variable {w : World} {p : Nat} {M : WM} {F : Nat → Prop}
def LaidS (w : World) (p : Nat) (M : WM) (F : Nat → Prop) (r : Int) (x : Th) (w' : World) : Prop :=
  ∃ vl' vals' F', ((x.v.l = [] → vl' = .slice none 0 0) ∧ (x.vals = .slice none 0 0 → vals' = .slice none 0 0)) ∧ IsW w' p (M.set r { x with vl := vl', vals := vals' }) F' ∧ Keeps F w w' ∧ ∀ b, F' b → F b ∨ w.heap.size ≤ b
def LaidG (w : World) (p : Nat) (M : WM) (F : Nat → Prop) (r : Int) (x : Th) (w' : World) : Prop :=
  ∃ vl' vals' F', (x.v.l = [] → vl' = .slice none 0 0) ∧ IsW w' p (M.set r { x with vl := vl', vals := vals' }) F' ∧ Keeps F w w' ∧ ∀ b, F' b → F b ∨ w.heap.size ≤ b
set_option maxHeartbeats 4000000 in
set_option maxRecDepth 20000 in
theorem Lay_GS (hW : IsW w p M F) {r : Int} (hr : (Lit.int .i64 r).wf = true) {u : Th} (ht : M.at r = some u) (hfu : u.full = false) {F1 : Nat → Prop} {x : Th} (hx : Lies w F1 x) (hfair : Fair x)
    (hkind : x.kind = u.kind) (hhome : x.home = u.home) (htgt : x.tgt = u.tgt) (hbi : x.bi = u.bi) (hset : x.set = u.set) (hwf : ∀ r ∈ heldL x, (Lit.int .i64 r).wf = true) (hnames : namesB M x = true)
    (hform : ∀ w', Below w.heap.size w w' → Calls Tryz.prog 74 #[.pointer (some ⟨p, 0, none⟩), .agg (thc x)] w' fun e w'' => e = .returned (.bool true) ∧ Below w'.heap.size w' w'') :
    Calls Tryz.prog 107 #[.pointer (some ⟨p, 0, none⟩), .int .i64 r, .agg (thc x)] w fun e w' => e = .returned (.int .i64 0) ∧ LaidS w p M F r x w' := by
  obtain ⟨pv, cv, hv⟩ := hx.v.form
  obtain ⟨ps, cs, hs⟩ := hx.vs.form
  have hcode := hx.code
  have hnm := hx.names
  have Hx : Hid (Lies w F1 x ∧ Fair x ∧ (∀ r ∈ heldL x, (Lit.int .i64 r).wf = true) ∧ namesB M x = true ∧ x.kind = u.kind ∧ x.home = u.home ∧ x.tgt = u.tgt ∧ x.bi = u.bi ∧ x.set = u.set) := ⟨hx, hfair, hwf, hnames, hkind, hhome, htgt, hbi, hset⟩
  clear hx hfair hwf hnames hkind hhome htgt hbi hset
  obtain ⟨k, h, ⟨vk, vn, vstr, vlist, vr⟩, raw, vs, vals, n', l', tg, bi, s, fu', code, names⟩ := x
  simp only at hv hs hcode hnm
  subst hv hs hcode hnm
  have HL : Hid (∃ nl ns, nl = vlist.length ∧ ns = vs.length) := ⟨_, _, rfl, rfl⟩
  have Hf : Hid (∀ w', Below w.heap.size w w' → Calls Tryz.prog 74 #[.pointer (some ⟨p, 0, none⟩), .agg #[.int .u8 k, .int .i64 h, .int .u8 vk, .int .i64 vn, .string vstr, .slice pv vlist.length cv, .int .i64 vr, .slice ps vs.length cs, .int .i64 n', .int .i64 l', .int .i64 tg, .int .i64 bi, .int .u8 s, .bool fu', .slice none 0 0, .slice none 0 0]] w' fun e w'' => e = .returned (.bool true) ∧ Below w'.heap.size w' w'') := hform
  have Hn : Hid (∀ w', Below w.heap.size w w' → Calls Tryz.prog 75 #[.pointer (some ⟨p, 0, none⟩), .agg #[.int .u8 k, .int .i64 h, .int .u8 vk, .int .i64 vn, .string vstr, .slice pv vlist.length cv, .int .i64 vr, .slice ps vs.length cs, .int .i64 n', .int .i64 l', .int .i64 tg, .int .i64 bi, .int .u8 s, .bool fu', .slice none 0 0, .slice none 0 0]] w' fun e w'' => e = .returned (.bool true) ∧ Below w'.heap.size w' w'') := fun w' hb => by
    have := names_G (hW.below hb) _ (Hx.out.1.on hb) Hx.out.2.1.len Hx.out.2.2.1
    rw [Hx.out.2.2.2.1] at this
    exact this
  have Ho : Hid (∀ w', Below w.heap.size w w' → Calls Tryz.prog 80 #[.agg #[.int .u8 k, .int .i64 h, .int .u8 vk, .int .i64 vn, .string vstr, .slice pv vlist.length cv, .int .i64 vr, .slice ps vs.length cs, .int .i64 n', .int .i64 l', .int .i64 tg, .int .i64 bi, .int .u8 s, .bool fu', .slice none 0 0, .slice none 0 0]] w' fun e w'' => ∃ pv' cv' ps' cs', e = .returned (.agg #[.int .u8 k, .int .i64 h, .int .u8 vk, .int .i64 vn, .string vstr, .slice pv' vlist.length cv', .int .i64 vr, .slice ps' vs.length cs', .int .i64 n', .int .i64 l', .int .i64 tg, .int .i64 bi, .int .u8 s, .bool fu', .slice none 0 0, .slice none 0 0]) ∧ Below w'.heap.size w' w'' ∧
      Deep w'' (fun b => w'.heap.size ≤ b) ⟨k, h, ⟨vk, vn, vstr, vlist, vr⟩, .slice pv' vlist.length cv', vs, .slice ps' vs.length cs', n', l', tg, bi, s, fu', .slice none 0 0, .slice none 0 0⟩ ∧ (vlist = [] → Value.slice pv' vlist.length cv' = .slice none 0 0) ∧ (Value.slice ps vs.length cs = .slice none 0 0 → Value.slice ps' vs.length cs' = .slice none 0 0)) := fun w' hb =>
    (ownWhat_G _ (Hx.out.1.on hb) Hx.out.2.1.v Hx.out.2.1.vs Hx.out.2.1.len).mono fun e w'' ⟨vl', vals', he, hb2, hd, h5, h6, _⟩ => by
      obtain ⟨pv', cv', hv⟩ := hd.v.form
      obtain ⟨ps', cs', hs⟩ := hd.vs.form
      simp only at hv hs
      subst hv hs
      exact ⟨pv', cv', ps', cs', he, hb2, hd, h5, h6⟩
  clear HL hform
  generalize hnl : vlist.length = nl at Hf Hn Ho
  generalize hns : vs.length = ns at Hf Hn Ho
  have hB0 : Below w.heap.size w (w.alloc (.cells #[.int .u8 k, .int .i64 h, .int .u8 vk, .int .i64 vn, .string vstr, .slice pv nl cv, .int .i64 vr, .slice ps ns cs, .int .i64 n', .int .i64 l', .int .i64 tg, .int .i64 bi, .int .u8 s, .bool fu', .slice none 0 0, .slice none 0 0] 46)) := (Below.refl _ _).alloc (Nat.le_refl _) _
  have b0 := blk_new w (.cells #[.int .u8 k, .int .i64 h, .int .u8 vk, .int .i64 vn, .string vstr, .slice pv nl cv, .int .i64 vr, .slice ps ns cs, .int .i64 n', .int .i64 l', .int .i64 tg, .int .i64 bi, .int .u8 s, .bool fu', .slice none 0 0, .slice none 0 0] 46)
  obtain ⟨wa, hwa⟩ : ∃ wa, wa = w.alloc (.cells #[.int .u8 k, .int .i64 h, .int .u8 vk, .int .i64 vn, .string vstr, .slice pv nl cv, .int .i64 vr, .slice ps ns cs, .int .i64 n', .int .i64 l', .int .i64 tg, .int .i64 bi, .int .u8 s, .bool fu', .slice none 0 0, .slice none 0 0] 46) := ⟨_, rfl⟩
  have HB0 : Hid (Below w.heap.size w wa) := by rw [hwa]; exact hB0
  have Hb0 : Hid (wa.heap[w.heap.size]? = some (.cells #[.int .u8 k, .int .i64 h, .int .u8 vk, .int .i64 vn, .string vstr, .slice pv nl cv, .int .i64 vr, .slice ps ns cs, .int .i64 n', .int .i64 l', .int .i64 tg, .int .i64 bi, .int .u8 s, .bool fu', .slice none 0 0, .slice none 0 0] 46 (0, 0))) := by rw [hwa]; exact b0
  have Hwa := (show Hid _ from hwa)
  have HW : Hid (IsW w p M F) := hW
  have Ht : Hid (M.at r = some u) := ht
  have Hfu : Hid (u.full = false) := hfu
  obtain ⟨pa, pc, cg, cc, mg, mc, tb, fb, fn, bl, hV⟩ := hW
  have HV : Hid (WV w p M F pa pc cg cc mg mc tb fb fn bl) := hV
  have ds : Hid (∀ w', Below wa.heap.size wa w' → w'.cell? ⟨w.heap.size, 0, none⟩ = some (.int .u8 k) ∧ w'.cell? ⟨w.heap.size, 1, none⟩ = some (.int .i64 h) ∧ w'.cell? ⟨w.heap.size, 10, none⟩ = some (.int .i64 tg) ∧ w'.cell? ⟨w.heap.size, 11, none⟩ = some (.int .i64 bi) ∧ w'.cell? ⟨w.heap.size, 12, none⟩ = some (.int .u8 s) ∧
      w'.cell? ⟨bl r, 0, none⟩ = some (.int .u8 k) ∧ w'.cell? ⟨bl r, 1, none⟩ = some (.int .i64 h) ∧ w'.cell? ⟨bl r, 10, none⟩ = some (.int .i64 tg) ∧ w'.cell? ⟨bl r, 11, none⟩ = some (.int .i64 bi) ∧ w'.cell? ⟨bl r, 12, none⟩ = some (.int .u8 s) ∧ w'.cell? ⟨bl r, 13, none⟩ = some (.bool false) ∧
      (ldW (.pointer (some ⟨w.heap.size, 0, none⟩))).run Tryz.prog w' = .ok (.value (.agg #[.int .u8 k, .int .i64 h, .int .u8 vk, .int .i64 vn, .string vstr, .slice pv nl cv, .int .i64 vr, .slice ps ns cs, .int .i64 n', .int .i64 l', .int .i64 tg, .int .i64 bi, .int .u8 s, .bool fu', .slice none 0 0, .slice none 0 0])) w' ∧ Below w.heap.size w w') := fun w' hb => by
    have hbl := (HV.out.below (HB0.out.trans (hb.mono HB0.out.size))).blk r _ Ht.out
    obtain ⟨q0, q1, -, -, q10, q11, q12, q13⟩ := thc_cell hbl.1
    have hg := below_blk hb Hb0.out
    obtain ⟨-, -, -, -, e1, e2, e3, e4, e5⟩ := Hx.out
    simp only at e1 e2 e3 e4 e5
    rw [← e1] at q0
    rw [← e2] at q1
    rw [← e3] at q10
    rw [← e4] at q11
    rw [← e5] at q12
    rw [Hfu.out] at q13
    exact ⟨by rw [cell_blk hg]; rfl, by rw [cell_blk hg]; rfl, by rw [cell_blk hg]; rfl, by rw [cell_blk hg]; rfl, by rw [cell_blk hg]; rfl, q0, q1, q10, q11, q12, q13, loadWhat_blk hg rfl, HB0.out.trans (hb.mono HB0.out.size)⟩
  clear hV hB0 b0 ht hwa hfu
  simp only [thc]
  go_enter Tryz.func107, Tryz.ntmps107
  go_wp2_with fail
  rw [← Hwa.out]
  have hWa := HW.out.below HB0.out
  refine (none_W hWa).mono ?_
  rintro e _ ⟨rfl, rfl⟩
  go_wp2_with fail
  refine (Is_W hWa hr).mono ?_
  rw [Ht.out]
  rintro e _ ⟨rfl, rfl⟩
  have c2 := (HV.out.below HB0.out).c2
  have hlk := (HV.out.below HB0.out).look hr
  rw [Ht.out] at hlk
  simp only [Option.map_some] at hlk
  clear hWa
  go_wp2_with fail
  refine region_class (C := fun w' => Below wa.heap.size wa w') (by kernel_rfl) (by kernel_rfl) below_drew ?_
  repeat (first
    | go_big_quiet_step (fail)
    | quiet_step (fail)
    | (refine wpQuiet_step (fun K hK => ?_); go_simp; first
        | (refine hK _ ?_; clear hK K)
        | (apply Exists.intro
           refine ⟨fun w' hC => ?_, hK _ ?_⟩
           · obtain ⟨q1, q2, q3, q4, q5, q6, q7, q8, q9, q10, q11, q12, q13⟩ := ds.out w' hC
             first
               | exact rfl
               | (go_simp; exact rfl)
               | (go_simp; exact ⟨rfl, rfl⟩)
               | exact (Hf.out w' q13).mono fun e w'' ⟨he, hb⟩ => ⟨he, hC.trans (hb.mono hC.size)⟩
           clear hK K)))
  refine wpQuiet_nil ?_
  intro w5 hC5
  have HB5 := (show Hid (Below wa.heap.size wa w5 ∧ Below w.heap.size w w5) from ⟨hC5, (ds.out w5 hC5).2.2.2.2.2.2.2.2.2.2.2.2⟩)
  have l5 := (ds.out w5 hC5).2.2.2.2.2.2.2.2.2.2.2.1
  clear hC5 c2 hlk
  go_wp2_with fail
  refine (Hn.out _ HB5.out.2).mono ?_
  rintro e w6 ⟨rfl, hb6⟩
  have hB6 : Below wa.heap.size wa w6 := HB5.out.1.trans (hb6.mono HB5.out.1.size)
  have HB6 := (show Hid (Below wa.heap.size wa w6 ∧ Below w.heap.size w w6) from ⟨hB6, (ds.out w6 hB6).2.2.2.2.2.2.2.2.2.2.2.2⟩)
  have l6 := (ds.out w6 hB6).2.2.2.2.2.2.2.2.2.2.2.1
  clear hb6 l5 HB5 hB6
  go_wp2_with fail
  refine (Ho.out _ HB6.out.2).mono ?_
  rintro e w7 ⟨pv', cv', ps', cs', rfl, hb7, hd7, hn7⟩
  have HB7 : Hid (Below wa.heap.size wa w7) := HB6.out.1.trans (hb7.mono HB6.out.1.size)
  have HB8 := (show Hid (Below w.heap.size w w7) from HB6.out.2.trans (hb7.mono HB6.out.2.size))
  have B7 := ((HV.out.below HB8.out).blk r _ Ht.out).1
  have hst := storeWhat_blk (c' := #[.int .u8 k, .int .i64 h, .int .u8 vk, .int .i64 vn, .string vstr, .slice pv' nl cv', .int .i64 vr, .slice ps' ns cs', .int .i64 n', .int .i64 l', .int .i64 tg, .int .i64 bi, .int .u8 s, .bool fu', .slice none 0 0, .slice none 0 0]) B7 rfl rfl (by simp [go_sem])
  have G7 := (show Hid _ from heap_setRow_at (c' := #[.int .u8 k, .int .i64 h, .int .u8 vk, .int .i64 vn, .string vstr, .slice pv' nl cv', .int .i64 vr, .slice ps' ns cs', .int .i64 n', .int .i64 l', .int .i64 tg, .int .i64 bi, .int .u8 s, .bool fu', .slice none 0 0, .slice none 0 0]) B7)
  have HD7 := (show Hid (Deep w7 (fun b => w6.heap.size ≤ b) ⟨k, h, ⟨vk, vn, vstr, vlist, vr⟩, .slice pv' nl cv', vs, .slice ps' ns cs', n', l', tg, bi, s, fu', .slice none 0 0, .slice none 0 0⟩ ∧ w.heap.size ≤ w6.heap.size ∧ (vlist = [] → Value.slice pv' nl cv' = .slice none 0 0) ∧ (Value.slice ps ns cs = .slice none 0 0 → Value.slice ps' ns cs' = .slice none 0 0)) from ⟨hd7, HB6.out.2.size, hn7⟩)
  clear hb7 B7 l6 hd7 hn7
  go_wp2_with fail
  go_ret
  have hF := (HV.out.blk r _ Ht.out).2.1
  have hlr := HV.out.lt _ hF
  refine ⟨rfl, .slice pv' nl cv', .slice ps' ns cs', fun b => F b ∨ (w.heap.size ≤ b ∧ b < w7.heap.size), HD7.out.2.2, ?_, ?_, ?_⟩
  · have hV7 := HV.out.below HB8.out
    obtain ⟨-, -, -, -, e1, e2, e3, e4, e5⟩ := Hx.out
    refine ⟨pa, pc, cg, cc, mg, mc, tb, fb, fn, bl, hV7.turn (u := u) ⟨Ht.out, e1, e2, fun _ => e3, ?_, e4, e5⟩ (by simp [World.setRow]) G7.out (fun b _ hb => heap_setRow_other _ _ _ _ hb) (fun _ h => .inl h) (fun b hb => ?_) ?_⟩
    · have := (hV7.ok.wf _ _ Ht.out).tgt
      rw [← e3] at this
      exact this
    · have : b < w7.heap.size := by
        rcases hb with hb | hb
        · exact hV7.lt b hb
        · exact hb.2
      simpa [World.setRow] using this
    · have hd := HD7.out.1
      have h1 : Deep w7 (fun b => (w.heap.size ≤ b ∧ b < w7.heap.size)) ⟨k, h, ⟨vk, vn, vstr, vlist, vr⟩, .slice pv' nl cv', vs, .slice ps' ns cs', n', l', tg, bi, s, fu', .slice none 0 0, .slice none 0 0⟩ :=
        ⟨hd.v.monoLt fun b hb h2 => ⟨Nat.le_trans HD7.out.2.1 hb, h2⟩, hd.vs.monoLt fun b hb h2 => ⟨Nat.le_trans HD7.out.2.1 hb, h2⟩, rfl, rfl⟩
      exact h1.of_blocks (Lists.of fun b hb => heap_setRow_other _ _ _ _ (by omega)) (fun b hb => .inr hb)
  · exact Below.keeps HB8.out ⟨rfl, rfl, rfl, by simp [World.setRow], fun b _ hb => heap_setRow_other _ _ _ _ (fun e => hb (e ▸ hF))⟩
  · rintro b (hb | hb)
    · exact .inl hb
    · exact .inr hb.1
theorem Lay_G (hW : IsW w p M F) {r : Int} (hr : (Lit.int .i64 r).wf = true) {u : Th} (ht : M.at r = some u) (hfu : u.full = false) {F1 : Nat → Prop} {x : Th} (hx : Lies w F1 x) (hfair : Fair x)
    (hkind : x.kind = u.kind) (hhome : x.home = u.home) (htgt : x.tgt = u.tgt) (hbi : x.bi = u.bi) (hset : x.set = u.set) (hwf : ∀ r ∈ heldL x, (Lit.int .i64 r).wf = true) (hnames : namesB M x = true)
    (hform : ∀ w', Below w.heap.size w w' → Calls Tryz.prog 74 #[.pointer (some ⟨p, 0, none⟩), .agg (thc x)] w' fun e w'' => e = .returned (.bool true) ∧ Below w'.heap.size w' w'') :
    Calls Tryz.prog 107 #[.pointer (some ⟨p, 0, none⟩), .int .i64 r, .agg (thc x)] w fun e w' => e = .returned (.int .i64 0) ∧ LaidG w p M F r x w' :=
  (Lay_GS hW hr ht hfu hx hfair hkind hhome htgt hbi hset hwf hnames hform).mono fun _ _ ⟨he, vl', vals', F', h1, h2⟩ => ⟨he, vl', vals', F', h1.1, h2⟩
end Go.Proofs.YthaliljaglldjaaGreat
/- plain: the small calls. -/
namespace Go.Proofs.YthaliljaglldjaaGreat
open Go.RowKit Go.ChangeMaps Go.MapKept
variable {w : World} {p : Nat} {M : WM} {F : Nat → Prop}
set_option maxRecDepth 8000 in
theorem number_W (w : World) (n : Int) : Calls Tryz.prog 158 #[.int .i64 n] w fun e w' => e = .returned (.agg #[.int .u8 1, .int .i64 n, .string ⟨#[]⟩, .slice none 0 0, .int .i64 0]) ∧ Below w.heap.size w w' := by
  go_enter Tryz.func158, Tryz.ntmps158
  go_wp2
  go_returns
  exact ⟨rfl, by go_grown⟩
set_option maxRecDepth 8000 in
theorem num08_W (w : World) (n : Int) : Calls Tryz.prog 65 #[.int .i64 n] w fun e w' => e = .returned (.agg #[.int .u8 1, .int .i64 n, .string ⟨#[]⟩, .slice none 0 0, .int .i64 0]) ∧ Below w.heap.size w w' := by
  go_enter Tryz.func65, Tryz.ntmps65
  go_wp2
  go_returns
  exact ⟨rfl, by go_grown⟩
set_option maxRecDepth 8000 in
theorem list_W (w : World) (s : Option Addr) (n c : Nat) : Calls Tryz.prog 329 #[.slice s n c] w fun e w' => e = .returned (.agg #[.int .u8 3, .int .i64 0, .string ⟨#[]⟩, .slice s n c, .int .i64 0]) ∧ Below w.heap.size w w' := by
  go_enter Tryz.func329, Tryz.ntmps329
  go_wp2
  go_returns
  exact ⟨rfl, by go_grown⟩
set_option maxRecDepth 8000 in
theorem there_W (hW : IsW w p M F) : Calls Tryz.prog 92 #[.pointer (some ⟨p, 0, none⟩)] w fun e w' => e = .returned (.bool true) ∧ w = w' := by
  have hS := Sides_W hW
  have hl := hW.ok.made
  have HS := (show Hid _ from hS)
  have hl1 : 0 < M.made.length := by omega
  clear hS hW hl
  go_enter Tryz.func92, Tryz.ntmps92
  go_wp2_with fail
  refine Calls.mono HS.out ?_
  rintro e _ ⟨rfl, rfl⟩
  go_wp2_with fail
  go_ret
  exact ⟨by simp, rfl⟩
set_option maxRecDepth 8000 in
theorem told_W (w : World) (k n r : Int) (s : ByteArray) (a : Option Addr) (m c : Nat) : Calls Tryz.prog 325 #[.agg #[.int .u8 0, .int .i64 0, .string ⟨#[]⟩, .slice none 0 0, .int .i64 0], .agg #[.int .u8 k, .int .i64 n, .string s, .slice a m c, .int .i64 r]] w fun e w' => e = .returned (.tuple #[.agg #[.int .u8 k, .int .i64 n, .string s, .slice a m c, .int .i64 r], .int .i64 0]) ∧ Below w.heap.size w w' := by
  go_enter Tryz.func325, Tryz.ntmps325
  go_wp2
  go_returns
  exact ⟨rfl, by go_grown⟩
set_option maxRecDepth 8000 in
theorem Place1_W (w : World) : Calls Tryz.prog 184 #[.int .u8 1] w fun e w' => e = .returned (.tuple #[.int .i64 0, .int .i64 0]) ∧ Below w.heap.size w w' := by
  have hp : wrap64 (Lib.pop8 1) = 1 := by kernel_rfl
  have hn : wrap64 (Lib.ntz8 1) = 0 := by kernel_rfl
  go_enter Tryz.func184, Tryz.ntmps184
  go_wp2
  go_ret2
  exact ⟨by simp [hn], by go_grown⟩
set_option maxRecDepth 8000 in
theorem Place2_W (w : World) : Calls Tryz.prog 184 #[.int .u8 2] w fun e w' => e = .returned (.tuple #[.int .i64 1, .int .i64 0]) ∧ Below w.heap.size w w' := by
  have hp : wrap64 (Lib.pop8 2) = 1 := by kernel_rfl
  have hn : wrap64 (Lib.ntz8 2) = 1 := by kernel_rfl
  go_enter Tryz.func184, Tryz.ntmps184
  go_wp2
  go_ret2
  exact ⟨by simp [hn], by go_grown⟩
set_option maxRecDepth 8000 in
theorem Place4_W (w : World) : Calls Tryz.prog 184 #[.int .u8 4] w fun e w' => e = .returned (.tuple #[.int .i64 2, .int .i64 0]) ∧ Below w.heap.size w w' := by
  have hp : wrap64 (Lib.pop8 4) = 1 := by kernel_rfl
  have hn : wrap64 (Lib.ntz8 4) = 2 := by kernel_rfl
  go_enter Tryz.func184, Tryz.ntmps184
  go_wp2
  go_ret2
  exact ⟨by simp [hn], by go_grown⟩
set_option maxRecDepth 8000 in
theorem Place8_W (w : World) : Calls Tryz.prog 184 #[.int .u8 8] w fun e w' => e = .returned (.tuple #[.int .i64 3, .int .i64 0]) ∧ Below w.heap.size w w' := by
  have hp : wrap64 (Lib.pop8 8) = 1 := by kernel_rfl
  have hn : wrap64 (Lib.ntz8 8) = 3 := by kernel_rfl
  go_enter Tryz.func184, Tryz.ntmps184
  go_wp2
  go_ret2
  exact ⟨by simp [hn], by go_grown⟩
set_option maxHeartbeats 2000000 in
set_option maxRecDepth 8000 in
theorem known_G (hW : IsW w p M F) {F1 : Nat → Prop} (v : Val) (raw : Value) (hS : SlAt w F1 raw v.l) (hk : ∀ r ∈ refsV v, (Lit.int .i64 r).wf = true ∧ (M.at r).isSome = true) :
    Calls Tryz.prog 185 #[.pointer (some ⟨p, 0, none⟩), .agg (vcs v raw)] w fun e w' => e = .returned (.bool true) ∧ Below w.heap.size w w' := by
  obtain ⟨pa, c, rfl⟩ := hS.form
  have hb0 : Below w.heap.size w (w.alloc (.cells (vcs v (.slice pa v.l.length c)) 27)) := (Below.refl _ _).alloc (Nat.le_refl _) _
  have HR := (show Hid _ from And.intro hb0 (Refs_G (w := w.alloc (.cells (vcs v (.slice pa v.l.length c)) 27)) v _ (hS.on hb0)))
  have Hk : Hid (∀ r ∈ refsV v, (Lit.int .i64 r).wf = true ∧ (M.at r).isSome = true) := hk
  have Hl : Hid ((refsV v).length ≤ 512) := refsV_le v
  have HW : Hid (IsW w p M F) := hW
  obtain ⟨kind, n, s, l, r⟩ := v
  generalize refsV ⟨kind, n, s, l, r⟩ = xs at HR Hk Hl
  clear hS hk hW hb0
  simp only [vcs] at HR ⊢
  go_enter Tryz.func185, Tryz.ntmps185
  go_wp2_with fail
  refine Calls.mono HR.out.2 ?_
  rintro e w1 ⟨u, rfl, hr, hb1⟩
  have HB1 := (show Hid (Below w.heap.size w w1) from HR.out.1.trans (hb1.mono HR.out.1.size))
  obtain ⟨q, c', hu, hcell⟩ : ∃ q c', u = .slice q xs.length c' ∧ ∀ (j : Nat) (x : Int), xs[j]? = some x → ∃ g, q = some ⟨g, 0, none⟩ ∧ w1.cell? ⟨g, j, none⟩ = some (.int .i64 x) := by
    obtain ⟨h1, ⟨rfl, h0⟩ | ⟨g, cap, cur, rfl, -, hb, hc, hm, hcs, ht⟩⟩ := hr
    · exact ⟨none, 0, by rw [h0], fun j x hj => by have := (List.getElem?_eq_some_iff.1 hj).1; omega⟩
    · refine ⟨_, cap, rfl, fun j x hj => ⟨g, rfl, ?_⟩⟩
      have hj' := (List.getElem?_eq_some_iff.1 hj).1
      have h2 : (xs.map (Value.int .i64))[j]? = some (.int .i64 x) := by rw [List.getElem?_map, hj]; rfl
      rw [← ht, List.getElem?_take, if_pos (by omega)] at h2
      rw [cell_blk hb, ← Array.getElem?_toList]
      exact h2
  subst hu
  have HC := (show Hid (∀ (j : Nat) (x : Int), xs[j]? = some x → ∃ g, q = some ⟨g, 0, none⟩ ∧ w1.cell? ⟨g, j, none⟩ = some (.int .i64 x)) from hcell)
  have HW1 : Hid (IsW w1 p M F) := HW.out.below HB1.out
  clear hr hb1 hcell HR HW
  go_wp2_with fail
  go_loopw [10] (fun vi wr => ∃ k : Nat, vi = .int .i64 k ∧ k ≤ xs.length ∧ wr = w1) (fun vi _ => xs.length - (intOf vi).toNat)
  case atStart => exact ⟨0, rfl, Nat.zero_le _, rfl⟩
  case round =>
    obtain ⟨k, rfl, hk, rfl⟩ := hrel
    by_cases hkl : k < xs.length
    · have hkz : (k : Int) < (xs.length : Int) := by omega
      obtain ⟨x, hx⟩ : ∃ x, xs[k]? = some x := ⟨_, List.getElem?_eq_getElem hkl⟩
      obtain ⟨g, rfl, hc⟩ := HC.out k x hx
      obtain ⟨hwf, his⟩ := Hk.out x (List.mem_of_getElem? hx)
      have hI := Is_W HW1.out hwf
      rw [his] at hI
      have HI := (show Hid _ from hI)
      have hk1 : k < 512 := by have := Hl.out; omega
      clear hx hI his
      go_wp2_with fail
      refine Calls.mono HI.out ?_
      rintro e _ ⟨rfl, rfl⟩
      go_wp2_with fail
      go_roundw
      case rel => exact ⟨k + 1, by go_num, by omega, by first | rfl | trivial⟩
      case measure =>
        simp [intOf]
        omega
    · have hkz : ¬ (k : Int) < (xs.length : Int) := by omega
      obtain rfl : k = xs.length := by omega
      go_wp2_with fail
      go_ret
      exact ⟨rfl, HB1.out⟩
set_option maxHeartbeats 2000000 in
set_option maxRecDepth 8000 in
theorem may_G (hW : IsW w p M F) {F1 : Nat → Prop} {h : Int} (hh : 0 ≤ h ∧ h < M.made.length) (v : Val) (raw : Value) (hS : SlAt w F1 raw v.l) (hm : mayV v = true) (hk : ∀ r ∈ refsV v, (Lit.int .i64 r).wf = true ∧ (M.at r).isSome = true) :
    Calls Tryz.prog 181 #[.pointer (some ⟨p, 0, none⟩), .int .i64 h, .agg (vcs v raw)] w fun e w' => e = .returned (.int .i64 0) ∧ Below w.heap.size w w' := by
  obtain ⟨pa, c, rfl⟩ := hS.form
  have hb0 : Below w.heap.size w (w.alloc (.cells (vcs v (.slice pa v.l.length c)) 27)) := (Below.refl _ _).alloc (Nat.le_refl _) _
  have HW : Hid (IsW w p M F) := hW
  have HW0 : Hid (IsW (w.alloc (.cells (vcs v (.slice pa v.l.length c)) 27)) p M F) := hW.below hb0
  have HM : Hid (∀ w', Below w.heap.size w w' → Calls Tryz.prog 161 #[.agg (vcs v (.slice pa v.l.length c))] w' fun e w'' => e = .returned (.bool true) ∧ Below w'.heap.size w' w'') := fun w' hb => by
    have := vMay_G (hS.on hb) (v := v)
    rwa [hm] at this
  have HK : Hid (∀ w', Below w.heap.size w w' → Calls Tryz.prog 185 #[.pointer (some ⟨p, 0, none⟩), .agg (vcs v (.slice pa v.l.length c))] w' fun e w'' => e = .returned (.bool true) ∧ Below w'.heap.size w' w'') := fun w' hb => known_G (hW.below hb) v _ (hS.on hb) hk
  have HB0 := (show Hid _ from And.intro hb0 (blk_new w (.cells (vcs v (.slice pa v.l.length c)) 27)))
  obtain ⟨h1, h2⟩ := hh
  have h1' : ¬ h < 0 := by omega
  have h2' : ¬ h ≥ (M.made.length : Int) := by omega
  clear hS hm hk hW hb0 h1 h2
  obtain ⟨kind, n, s, l, r⟩ := v
  simp only [vcs] at HW0 HM HK HB0 ⊢
  go_enter Tryz.func181, Tryz.ntmps181
  go_wp2_with fail
  refine (there_W HW0.out).mono ?_
  rintro e _ ⟨rfl, rfl⟩
  go_wp2_with fail
  refine (Sides_W HW0.out).mono ?_
  rintro e _ ⟨rfl, rfl⟩
  go_wp2_with fail
  refine Calls.mono (HM.out _ HB0.out.1) ?_
  rintro e w1 ⟨rfl, hb1⟩
  have b1 := below_blk hb1 HB0.out.2
  obtain ⟨⟨a0, a1, a2, a3, a4⟩, -⟩ := cells5 b1
  have HB1 := (show Hid (Below w.heap.size w w1) from HB0.out.1.trans (hb1.mono HB0.out.1.size))
  clear hb1 b1
  go_wp2_with fail
  refine Calls.mono (HK.out _ HB1.out) ?_
  rintro e w2 ⟨rfl, hb2⟩
  have HB2 := (show Hid (Below w.heap.size w w2) from HB1.out.trans (hb2.mono HB1.out.size))
  clear hb2 a0 a1 a2 a3 a4
  go_wp2_with fail
  go_ret
  exact ⟨rfl, HB2.out⟩
end Go.Proofs.YthaliljaglldjaaGreat
/- plain: a thing is made. -/
namespace Go.Proofs.YthaliljaglldjaaGreat
open Go.RowKit Go.ChangeMaps Go.MapKept
variable {w : World} {p : Nat} {M : WM} {F : Nat → Prop}
theorem Grew.start {w w1 w' : World} {F F' : Nat → Prop} (h : Grew F w1 F' w') (hb : Below w.heap.size w w1) : Grew F w F' w' :=
  ⟨Below.keeps hb h.1, fun b hF => (h.2 b hF).imp id fun h => Nat.le_trans hb.size h⟩
theorem MadeG.start {w1 w' : World} {h : Int} {T : Th → Prop} {e : Ending} (hm : MadeG w1 p M F h T e w') (hb : Below w.heap.size w w1) : MadeG w p M F h T e w' := by
  rcases hm with ⟨h1, h2, t, F', h3, h4, h5⟩ | ⟨h1, h2, h3⟩
  · exact .inl ⟨h1, h2, t, F', h3, h4, h5.start hb⟩
  · exact .inr ⟨h1, h2, hb.trans (h3.mono hb.size)⟩
theorem made_G (hW : IsW w p M F) {F1 : Nat → Prop} {h : Int} (hh : 0 ≤ h ∧ h < M.made.length) (t : Th) (hth : t.home = h) (hS : SlAt w F1 t.vl t.v.l) (hvs : ∃ a n c, t.vals = .slice a n c) (hc : t.code = .slice none 0 0) (hnm : t.names = .slice none 0 0) (hm : mayV t.v = true) (hk : ∀ r ∈ refsV t.v, (Lit.int .i64 r).wf = true ∧ (M.at r).isSome = true)
    {T : Th → Prop} (hMake : ∀ w', Below w.heap.size w w' → Calls Tryz.prog 14 #[.pointer (some ⟨p, 0, none⟩), .agg (thc t)] w' (MadeG w' p M F h T)) :
    Calls Tryz.prog 156 #[.pointer (some ⟨p, 0, none⟩), .agg (thc t)] w (MadeG w p M F h T) := by
  obtain ⟨pa, c, hv⟩ := hS.form
  obtain ⟨ps, ns, cs, hvals⟩ := hvs
  have hb0 : Below w.heap.size w (w.alloc (.cells (thc t) 46)) := (Below.refl _ _).alloc (Nat.le_refl _) _
  have HMay := (show Hid _ from may_G (hW.below hb0) hh t.v t.vl (hS.on hb0) hm hk)
  have HMk := (show Hid _ from hMake)
  have HB0 := (show Hid _ from And.intro hb0 (blk_new w (.cells (thc t) 46)))
  clear hS hW hb0 hm hk hMake hh
  obtain ⟨k, h', ⟨vk, vn, vstr, vlist, vr⟩, raw, vs, vals, n, l, tg, bi, s, fu, code, names⟩ := t
  simp only at hth hv hvals hc hnm
  subst hth hv hvals hc hnm
  simp only [thc, vcs] at HMay HMk HB0 ⊢
  go_enter Tryz.func156, Tryz.ntmps156
  go_wp2_with fail
  refine Calls.mono HMay.out ?_
  rintro e w1 ⟨rfl, hb1⟩
  have b1 := below_blk hb1 HB0.out.2
  have l1 := loadWhat_blk b1 rfl
  have HB1 := (show Hid (Below w.heap.size w w1) from HB0.out.1.trans (hb1.mono HB0.out.1.size))
  clear hb1 b1
  go_wp2_with fail
  refine Calls.mono (HMk.out _ HB1.out) ?_
  rintro e w2 hmade
  have hmade := hmade.start HB1.out
  rcases hmade with ⟨h1, rfl, h3⟩ | ⟨h1, rfl, h3⟩
  · have H := (show Hid _ from And.intro h1 h3)
    clear h1 h3
    go_wp2_with fail
    go_ret2
    exact .inl ⟨H.out.1, rfl, H.out.2⟩
  · have H := (show Hid _ from And.intro h1 h3)
    clear h1 h3
    go_wp2_with fail
    go_ret2
    exact .inr ⟨by have := H.out.1; omega, rfl, H.out.2⟩
theorem MadeL.toG {h : Int} {t : Th} {e : Ending} {w' : World} (hm : MadeL w p M F h t e w') : MadeG w p M F h (fun u => u = t) e w' := by
  rcases hm with ⟨h1, h2, F', h4, h5⟩ | h
  · exact .inl ⟨h1, h2, t, F', rfl, h4, h5⟩
  · exact .inr h
theorem refsV0 (vk vn : Int) (h : Plain vk vn) : refsV ⟨vk, vn, ⟨#[]⟩, [], 0⟩ = [] ∧ mayV ⟨vk, vn, ⟨#[]⟩, [], 0⟩ = true := by
  rcases h with ⟨rfl, rfl⟩ | rfl
  · exact ⟨by rfl, by rfl⟩
  · constructor
    · show (if mayV _ then refsN 16 _ else []) = []
      split <;> rfl
    · rfl
set_option maxRecDepth 8000 in
theorem Log_G (hW : IsW w p M F) (hl : M.last + 1 ≤ 1099511627776) {h : Int} (hh : 0 ≤ h ∧ h < M.made.length) : Calls Tryz.prog 84 #[.pointer (some ⟨p, 0, none⟩), .int .i64 h] w (MadeG w p M F h (fun t => t = lt 2 h 0 0 0 0 0 0 0 false)) := by
  have HM : Hid (Calls Tryz.prog 156 #[.pointer (some ⟨p, 0, none⟩), .agg (thc (lt 2 h 0 0 0 0 0 0 0 false))] w (MadeG w p M F h (fun t => t = lt 2 h 0 0 0 0 0 0 0 false))) :=
    made_G hW hh (lt 2 h 0 0 0 0 0 0 0 false) rfl (SlAt.nil w F none 0) ⟨_, _, _, rfl⟩ rfl rfl (refsV0 0 0 (.inl ⟨rfl, rfl⟩)).2 (fun r hr => by rw [(refsV0 0 0 (.inl ⟨rfl, rfl⟩)).1] at hr; cases hr) fun w' hb => (Make_2 (hW.below hb) hl hh).mono fun _ _ h => h.toG
  clear hW hl hh
  rw [thc_lt] at HM
  go_enter Tryz.func84, Tryz.ntmps84
  go_wp2_with fail
  refine Calls.mono HM.out ?_
  rintro e w2 (⟨h1, rfl, h3⟩ | ⟨h1, rfl, h3⟩)
  · have H := (show Hid _ from And.intro h1 h3)
    clear h1 h3 HM
    go_wp2_with fail
    go_ret2
    exact .inl ⟨H.out.1, rfl, H.out.2⟩
  · have H := (show Hid _ from And.intro h1 h3)
    clear h1 h3 HM
    go_wp2_with fail
    go_ret2
    exact .inr ⟨by have := H.out.1; omega, rfl, H.out.2⟩
set_option maxRecDepth 8000 in
theorem Tally_G (hW : IsW w p M F) (hl : M.last + 1 ≤ 1099511627776) {h : Int} (hh : 0 ≤ h ∧ h < M.made.length) : Calls Tryz.prog 85 #[.pointer (some ⟨p, 0, none⟩), .int .i64 h] w (MadeG w p M F h (fun t => t = lt 3 h 0 0 0 0 0 0 0 false)) := by
  have HM : Hid (Calls Tryz.prog 156 #[.pointer (some ⟨p, 0, none⟩), .agg (thc (lt 3 h 0 0 0 0 0 0 0 false))] w (MadeG w p M F h (fun t => t = lt 3 h 0 0 0 0 0 0 0 false))) :=
    made_G hW hh (lt 3 h 0 0 0 0 0 0 0 false) rfl (SlAt.nil w F none 0) ⟨_, _, _, rfl⟩ rfl rfl (refsV0 0 0 (.inl ⟨rfl, rfl⟩)).2 (fun r hr => by rw [(refsV0 0 0 (.inl ⟨rfl, rfl⟩)).1] at hr; cases hr) fun w' hb => (Make_3 (hW.below hb) hl hh (n := 0) ⟨by decide, by decide⟩).mono fun _ _ h => h.toG
  clear hW hl hh
  rw [thc_lt] at HM
  go_enter Tryz.func85, Tryz.ntmps85
  go_wp2_with fail
  refine Calls.mono HM.out ?_
  rintro e w2 (⟨h1, rfl, h3⟩ | ⟨h1, rfl, h3⟩)
  · have H := (show Hid _ from And.intro h1 h3)
    clear h1 h3 HM
    go_wp2_with fail
    go_ret2
    exact .inl ⟨H.out.1, rfl, H.out.2⟩
  · have H := (show Hid _ from And.intro h1 h3)
    clear h1 h3 HM
    go_wp2_with fail
    go_ret2
    exact .inr ⟨by have := H.out.1; omega, rfl, H.out.2⟩
set_option maxRecDepth 8000 in
theorem Queue_G (hW : IsW w p M F) (hl : M.last + 1 ≤ 1099511627776) {h : Int} (hh : 0 ≤ h ∧ h < M.made.length) : Calls Tryz.prog 66 #[.pointer (some ⟨p, 0, none⟩), .int .i64 h] w (MadeG w p M F h (fun t => t = lt 4 h 0 0 0 0 0 0 0 false)) := by
  have HM : Hid (Calls Tryz.prog 156 #[.pointer (some ⟨p, 0, none⟩), .agg (thc (lt 4 h 0 0 0 0 0 0 0 false))] w (MadeG w p M F h (fun t => t = lt 4 h 0 0 0 0 0 0 0 false))) :=
    made_G hW hh (lt 4 h 0 0 0 0 0 0 0 false) rfl (SlAt.nil w F none 0) ⟨_, _, _, rfl⟩ rfl rfl (refsV0 0 0 (.inl ⟨rfl, rfl⟩)).2 (fun r hr => by rw [(refsV0 0 0 (.inl ⟨rfl, rfl⟩)).1] at hr; cases hr) fun w' hb => (Make_4 (hW.below hb) hl hh).mono fun _ _ h => h.toG
  clear hW hl hh
  rw [thc_lt] at HM
  go_enter Tryz.func66, Tryz.ntmps66
  go_wp2_with fail
  refine Calls.mono HM.out ?_
  rintro e w2 (⟨h1, rfl, h3⟩ | ⟨h1, rfl, h3⟩)
  · have H := (show Hid _ from And.intro h1 h3)
    clear h1 h3 HM
    go_wp2_with fail
    go_ret2
    exact .inl ⟨H.out.1, rfl, H.out.2⟩
  · have H := (show Hid _ from And.intro h1 h3)
    clear h1 h3 HM
    go_wp2_with fail
    go_ret2
    exact .inr ⟨by have := H.out.1; omega, rfl, H.out.2⟩
abbrev cellT (h : Int) (v : Val) (raw : Value) : Th := ⟨1, h, v, raw, [], .slice none 0 0, 0, 0, 0, 0, 0, false, .slice none 0 0, .slice none 0 0⟩
set_option maxRecDepth 8000 in
theorem fitsV_1 (w : World) (q : Option Addr) (r h vk vn vr : Int) (vstr : ByteArray) (pv : Option Addr) (nv cv : Nat) : Calls Tryz.prog 78 #[.pointer q, .int .i64 r, .agg #[.int .u8 1, .int .i64 h, .int .u8 vk, .int .i64 vn, .string vstr, .slice pv nv cv, .int .i64 vr, .slice none 0 0, .int .i64 0, .int .i64 0, .int .i64 0, .int .i64 0, .int .u8 0, .bool false, .slice none 0 0, .slice none 0 0]] w fun e w' => e = .returned (.bool true) ∧ Below w.heap.size w w' := by
  go_enter Tryz.func78, Tryz.ntmps78
  go_wp2
  go_ret
  exact ⟨rfl, by go_grown⟩
theorem namesB_cell {h : Int} {v : Val} {raw : Value} (hk : ∀ r ∈ refsV v, (Lit.int .i64 r).wf = true ∧ (M.at r).isSome = true) : namesB M (cellT h v raw) = true ∧ ∀ r ∈ heldL (cellT h v raw), (Lit.int .i64 r).wf = true := by
  have e : heldL (cellT h v raw) = refsV v := by simp [heldL]
  unfold namesB
  rw [e]
  exact ⟨by rw [List.all_eq_true]; exact fun r hr => (hk r hr).2, fun r hr => (hk r hr).1⟩
theorem Make_V1 (hW : IsW w p M F) (hl : M.last + 1 ≤ 1099511627776) {h : Int} (home : 0 ≤ h ∧ h < M.made.length) {F1 : Nat → Prop} (v : Val) (raw : Value) (hS : SlAt w F1 raw v.l) (hm : mayV v = true) (hk : ∀ r ∈ refsV v, (Lit.int .i64 r).wf = true ∧ (M.at r).isSome = true) :
    Calls Tryz.prog 14 #[.pointer (some ⟨p, 0, none⟩), .agg (thc (cellT h v raw))] w (MadeG w p M F h (fun t => ∃ vl', t = cellT h v vl')) := by
  obtain ⟨pa, c, rfl⟩ := hS.form
  have hL : Lies w F1 (cellT h v (.slice pa v.l.length c)) := ⟨hS, SlAt.nil _ _ _ _, rfl, rfl⟩
  refine Make_G hW (T := fun t => ∃ vl', t = cellT h v vl') (c2 := .int .u8 v.kind) (c3 := .int .i64 v.n) (c4 := .string v.s) (c5 := .slice pa v.l.length c) (c6 := .int .i64 v.r) (c7 := .slice none 0 0) (c14 := .slice none 0 0) (c15 := .slice none 0 0) {
    form := fun w1 hb => formV_1 (hW.below hb) (sideB_iff.2 home) (vYes (hS.on hb) hm) ofYes0
    names := fun w1 hb => by
      have := names_G (hW.below hb) _ (hL.on hb) (Nat.zero_le _) (namesB_cell (M := M) hk).2
      rw [(namesB_cell (M := M) hk).1] at this
      exact this
    fits := fun w1 hb => fitsV_1 w1 _ 0 h _ _ _ _ _ _ _
    own := fun w1 hb => (ownWhat_G _ (hL.on hb) hm (fun x hx => by cases hx) (Nat.zero_le _)).mono fun e w' ⟨vl', vals', he, hb', hd, _, h2, _⟩ => by
      have h3 := h2 rfl
      subst h3
      refine ⟨_, ⟨vl', rfl⟩, he, hb', ⟨hd.v.monoLt fun b hb h2 => ⟨hb, h2⟩, SlT.nil _ _ _ _, rfl, rfl⟩⟩
    k14 := rfl
    k13 := fun e => absurd (show (1 : Int) = 13 from e) (by decide)
    tgw := rfl
    biw := rfl
    home := home
    hA := fun e => absurd (show asksOfB 1 = true from e) (by decide)
    hB := fun e => absurd (show asksByB 1 = true from e) (by decide)
    add := fun hr t ht => by
      obtain ⟨vl', rfl⟩ := ht
      exact ⟨rfl, rfl, rfl, {
        wf := ⟨by show (1 : Int) ≤ 1 ∧ (1 : Int) ≤ 16; decide, rfl, rfl, by show (0 : Int) ≤ 0 ∧ (0 : Int) ≤ 255; decide⟩
        last := hl
        home := fun _ => home
        made := fun _ => hr
        wrap := fun e => absurd (show wrapsB 1 = true from e) (by decide)
        gate := fun e => absurd (show (1 : Int) = 15 from e) (by decide)
        purse := fun e => absurd (show (1 : Int) = 9 from e) (by decide)
        facet := fun e => absurd (show (1 : Int) = 14 from e) (by decide) }⟩ }
set_option maxRecDepth 8000 in
theorem Cell_G (hW : IsW w p M F) (hl : M.last + 1 ≤ 1099511627776) {h : Int} (hh : 0 ≤ h ∧ h < M.made.length) {F1 : Nat → Prop} (v : Val) (raw : Value) (hS : SlAt w F1 raw v.l) (hm : mayV v = true) (hk : ∀ r ∈ refsV v, (Lit.int .i64 r).wf = true ∧ (M.at r).isSome = true) :
    Calls Tryz.prog 64 #[.pointer (some ⟨p, 0, none⟩), .int .i64 h, .agg (vcs v raw)] w (MadeG w p M F h (fun t => ∃ vl', t = cellT h v vl')) := by
  obtain ⟨pa, c, rfl⟩ := hS.form
  have hb0 : Below w.heap.size w (w.alloc (.cells (vcs v (.slice pa v.l.length c)) 27)) := (Below.refl _ _).alloc (Nat.le_refl _) _
  have HM := (show Hid _ from And.intro hb0 (made_G (hW.below hb0) hh (cellT h v (.slice pa v.l.length c)) rfl (hS.on hb0) ⟨_, _, _, rfl⟩ rfl rfl hm hk fun w' hb => Make_V1 ((hW.below hb0).below hb) hl hh v _ ((hS.on hb0).on hb) hm hk))
  clear hW hl hh hS hm hk hb0
  obtain ⟨vk, vn, vstr, vl, vr⟩ := v
  simp only [thc, vcs] at HM ⊢
  go_enter Tryz.func64, Tryz.ntmps64
  go_wp2_with fail
  refine Calls.mono HM.out.2 ?_
  rintro e w2 h0
  rcases h0.start HM.out.1 with ⟨h1, rfl, h3⟩ | ⟨h1, rfl, h3⟩
  · have H := (show Hid _ from And.intro h1 h3)
    clear h1 h3 HM h0
    go_wp2_with fail
    go_ret2
    exact .inl ⟨H.out.1, rfl, H.out.2⟩
  · have H := (show Hid _ from And.intro h1 h3)
    clear h1 h3 HM h0
    go_wp2_with fail
    go_ret2
    exact .inr ⟨by have := H.out.1; omega, rfl, H.out.2⟩
end Go.Proofs.YthaliljaglldjaaGreat
