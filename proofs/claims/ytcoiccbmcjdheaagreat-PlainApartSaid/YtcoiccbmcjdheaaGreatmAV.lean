/- A part of the proof, several texts in one: GLay, GLayB, PlA. -/
import Derived.Test.YtcoiccbmcjdheaaGreatmAM
import Derived.Test.YtcoiccbmcjdheaaGreatmAO
import Derived.Test.YtcoiccbmcjdheaaGreatmAQ
import Derived.Test.YtcoiccbmcjdheaaGreatmAU
/- What and Lay of things whose values are any; Make of a cell with any value. -/
namespace Go.Proofs.YtcoiccbmcjdheaaGreat
open Go.RowKit Go.ChangeMaps Go.MapKept
variable {w : World} {p : Nat} {M : WM} {F : Nat → Prop}

/-- A thing's values may be. -/
structure Fair (t : Th) : Prop where
  v : mayV t.v = true
  vs : ∀ x ∈ t.vs, mayV x = true
  len : t.vs.length ≤ 1024

set_option maxHeartbeats 1000000 in
set_option maxRecDepth 8000 in
theorem What_G (hW : IsW w p M F) {r : Int} (hr : (Lit.int .i64 r).wf = true) {t : Th} (ht : M.at r = some t) (hf : Fair t) :
    Calls Tryz.prog 15 #[.pointer (some ⟨p, 0, none⟩), .int .i64 r] w fun e w' => ∃ vl' vals', e = .returned (.tuple #[.agg (thc { t with vl := vl', vals := vals' }), .int .i64 0]) ∧ Below w.heap.size w w' ∧
      Deep w' (fun b => w.heap.size ≤ b) { t with vl := vl', vals := vals' } ∧ (t.v.l = [] → vl' = .slice none 0 0) ∧ (t.vals = .slice none 0 0 → vals' = .slice none 0 0) ∧ CapOk vals' := by
  have HW : Hid (IsW w p M F) := hW
  have hIs : (M.at r).isSome = true := by rw [ht]; rfl
  have HIs := (show Hid _ from hIs)
  have hWA := HW.out.below (w' := w.alloc (.cells #[.int .u8 0, .int .i64 0, .int .u8 0, .int .i64 0, .string ⟨#[]⟩, .slice none 0 0, .int .i64 0, .slice none 0 0, .int .i64 0, .int .i64 0, .int .i64 0, .int .i64 0, .int .u8 0, .bool false, .slice none 0 0, .slice none 0 0] 42)) ((Below.refl _ _).alloc (Nat.le_refl _) _)
  have HWA : Hid (IsW (w.alloc (.cells #[.int .u8 0, .int .i64 0, .int .u8 0, .int .i64 0, .string ⟨#[]⟩, .slice none 0 0, .int .i64 0, .slice none 0 0, .int .i64 0, .int .i64 0, .int .i64 0, .int .i64 0, .int .u8 0, .bool false, .slice none 0 0, .slice none 0 0] 42)) p M F) := hWA
  obtain ⟨pa, pc, cg, cc, mg, mc, tb, fb, fn, bl, hV⟩ := hWA
  have c2 := hV.c2
  have hlk := hV.look hr
  rw [ht] at hlk
  simp only [Option.map_some] at hlk
  have hld := loadWhat_blk (hV.blk r _ ht).1 rfl
  have hO := ownWhat_G t (hV.blk r _ ht).2.2.lies hf.v hf.vs hf.len
  have HO := (show Hid _ from hO)
  clear hV hW ht hIs hO hf
  obtain ⟨k, h, ⟨vk, vn, vstr, vl, vr⟩, raw, vs, vals, n, l, tg, bi, s, fu, code, names⟩ := t
  simp only [thc] at HO hld ⊢
  go_enter Tryz.func15, Tryz.ntmps15
  go_wp2_with fail
  refine (none_W HWA.out).mono ?_
  rintro e _ ⟨rfl, rfl⟩
  go_wp2_with fail
  refine (Is_W HWA.out hr).mono ?_
  rw [HIs.out]
  rintro e _ ⟨rfl, rfl⟩
  go_wp2_with fail
  refine Calls.mono HO.out ?_
  rintro e w1 ⟨vl', vals', rfl, hb1, hd1, hn1, hn2, hn3⟩
  obtain ⟨pv, cv, hv⟩ := hd1.v.form
  obtain ⟨ps, cs, hs⟩ := hd1.vs.form
  simp only at hv hs
  have B1 := below_blk hb1 (blk_new w _)
  have HB1 : Hid (Below w.heap.size w w1) := ((Below.refl _ _).alloc (Nat.le_refl _) _).trans (hb1.mono (by simp))
  have hcode := hd1.code
  have hnames := hd1.names
  simp only at hcode hnames
  subst hv hs hcode hnames
  have hst := storeWhat_blk (c' := #[.int .u8 k, .int .i64 h, .int .u8 vk, .int .i64 vn, .string vstr, .slice pv vl.length cv, .int .i64 vr, .slice ps vs.length cs, .int .i64 n, .int .i64 l, .int .i64 tg, .int .i64 bi, .int .u8 s, .bool fu, .slice none 0 0, .slice none 0 0]) B1 rfl rfl (by simp [go_sem])
  have G1 := (show Hid _ from heap_setRow_at (c' := #[.int .u8 k, .int .i64 h, .int .u8 vk, .int .i64 vn, .string vstr, .slice pv vl.length cv, .int .i64 vr, .slice ps vs.length cs, .int .i64 n, .int .i64 l, .int .i64 tg, .int .i64 bi, .int .u8 s, .bool fu, .slice none 0 0, .slice none 0 0]) B1)
  have HD : Hid (Deep (w1.setRow w.heap.size #[.int .u8 k, .int .i64 h, .int .u8 vk, .int .i64 vn, .string vstr, .slice pv vl.length cv, .int .i64 vr, .slice ps vs.length cs, .int .i64 n, .int .i64 l, .int .i64 tg, .int .i64 bi, .int .u8 s, .bool fu, .slice none 0 0, .slice none 0 0]) (fun b => w.heap.size ≤ b) ⟨k, h, ⟨vk, vn, vstr, vl, vr⟩, .slice pv vl.length cv, vs, .slice ps vs.length cs, n, l, tg, bi, s, fu, .slice none 0 0, .slice none 0 0⟩) :=
    hd1.of_blocks (Lists.of fun b hb => heap_setRow_other _ _ _ _ (by simp at hb; omega)) (fun b hb => by simp at hb; show w.heap.size ≤ b; omega)
  have HN := (show Hid ((vl = [] → Value.slice pv vl.length cv = .slice none 0 0) ∧ (vals = .slice none 0 0 → Value.slice ps vs.length cs = .slice none 0 0) ∧ CapOk (.slice ps vs.length cs)) from ⟨hn1, hn2, hn3⟩)
  clear hb1 B1 c2 hlk hld hd1 hn1 hn2 hn3 HO
  go_wp2_with fail
  exact bodyPost_ret (results_What2 rfl _ _ _ _ _ rfl G1.out rfl) rfl ⟨_, _, rfl, Below.setRow HB1.out (Nat.le_refl _) _, HD.out, HN.out.1, HN.out.2.1, HN.out.2.2⟩
end Go.Proofs.YtcoiccbmcjdheaaGreat
/- Lay of a thing whose values are any, over one. -/
namespace Go.Proofs.YtcoiccbmcjdheaaGreat
open Go.RowKit Go.ChangeMaps Go.MapKept
variable {w : World} {p : Nat} {M : WM} {F : Nat → Prop}

/-- The thing r is turned into x (its lists laid anew). -/
def LaidS (w : World) (p : Nat) (M : WM) (F : Nat → Prop) (r : Int) (x : Th) (w' : World) : Prop :=
  ∃ vl' vals' F', ((x.v.l = [] → vl' = .slice none 0 0) ∧ (x.vals = .slice none 0 0 → vals' = .slice none 0 0)) ∧ IsW w' p (M.set r { x with vl := vl', vals := vals' }) F' ∧ Keeps F w w' ∧ ∀ b, F' b → F b ∨ w.heap.size ≤ b
/-- The same, the values' slice not told. -/
def LaidG (w : World) (p : Nat) (M : WM) (F : Nat → Prop) (r : Int) (x : Th) (w' : World) : Prop :=
  ∃ vl' vals' F', (x.v.l = [] → vl' = .slice none 0 0) ∧ IsW w' p (M.set r { x with vl := vl', vals := vals' }) F' ∧ Keeps F w w' ∧ ∀ b, F' b → F b ∨ w.heap.size ≤ b

set_option maxHeartbeats 4000000 in
set_option maxRecDepth 20000 in
theorem Lay_GS (hW : IsW w p M F) {r : Int} (hr : (Lit.int .i64 r).wf = true) {u : Th} (ht : M.at r = some u) (hfu : u.full = false) {F1 : Nat → Prop} {x : Th} (hx : Lies w F1 x) (hfair : Fair x)
    (hkind : x.kind = u.kind) (hhome : x.home = u.home) (htgt : x.tgt = u.tgt) (hbi : x.bi = u.bi) (hset : x.set = u.set) (hwf : ∀ r ∈ heldL x, (Lit.int .i64 r).wf = true) (hnames : namesB M x = true)
    (hform : ∀ w', Below w.heap.size w w' → Calls Tryz.prog 71 #[.pointer (some ⟨p, 0, none⟩), .agg (thc x)] w' fun e w'' => e = .returned (.bool true) ∧ Below w'.heap.size w' w'') :
    Calls Tryz.prog 137 #[.pointer (some ⟨p, 0, none⟩), .int .i64 r, .agg (thc x)] w fun e w' => e = .returned (.int .i64 0) ∧ LaidS w p M F r x w' := by
  obtain ⟨pv, cv, hv⟩ := hx.v.form
  obtain ⟨ps, cs, hs⟩ := hx.vs.form
  have hcode := hx.code
  have hnm := hx.names
  have Hx : Hid (Lies w F1 x ∧ Fair x ∧ (∀ r ∈ heldL x, (Lit.int .i64 r).wf = true) ∧ namesB M x = true ∧ x.kind = u.kind ∧ x.home = u.home ∧ x.tgt = u.tgt ∧ x.bi = u.bi ∧ x.set = u.set) := ⟨hx, hfair, hwf, hnames, hkind, hhome, htgt, hbi, hset⟩
  clear hx hfair hwf hnames hkind hhome htgt hbi hset
  obtain ⟨k, h, ⟨vk, vn, vstr, vlist, vr⟩, raw, vs, vals, n', l', tg, bi, s, fu', code, names⟩ := x
  simp only at hv hs hcode hnm
  subst hv hs hcode hnm
  have HL : Hid (∃ nl ns, nl = vlist.length ∧ ns = vs.length) := ⟨_, _, rfl, rfl⟩
  have Hf : Hid (∀ w', Below w.heap.size w w' → Calls Tryz.prog 71 #[.pointer (some ⟨p, 0, none⟩), .agg #[.int .u8 k, .int .i64 h, .int .u8 vk, .int .i64 vn, .string vstr, .slice pv vlist.length cv, .int .i64 vr, .slice ps vs.length cs, .int .i64 n', .int .i64 l', .int .i64 tg, .int .i64 bi, .int .u8 s, .bool fu', .slice none 0 0, .slice none 0 0]] w' fun e w'' => e = .returned (.bool true) ∧ Below w'.heap.size w' w'') := hform
  have Hn : Hid (∀ w', Below w.heap.size w w' → Calls Tryz.prog 72 #[.pointer (some ⟨p, 0, none⟩), .agg #[.int .u8 k, .int .i64 h, .int .u8 vk, .int .i64 vn, .string vstr, .slice pv vlist.length cv, .int .i64 vr, .slice ps vs.length cs, .int .i64 n', .int .i64 l', .int .i64 tg, .int .i64 bi, .int .u8 s, .bool fu', .slice none 0 0, .slice none 0 0]] w' fun e w'' => e = .returned (.bool true) ∧ Below w'.heap.size w' w'') := fun w' hb => by
    have := names_G (hW.below hb) _ (Hx.out.1.on hb) Hx.out.2.1.len Hx.out.2.2.1
    rw [Hx.out.2.2.2.1] at this
    exact this
  have Ho : Hid (∀ w', Below w.heap.size w w' → Calls Tryz.prog 36 #[.agg #[.int .u8 k, .int .i64 h, .int .u8 vk, .int .i64 vn, .string vstr, .slice pv vlist.length cv, .int .i64 vr, .slice ps vs.length cs, .int .i64 n', .int .i64 l', .int .i64 tg, .int .i64 bi, .int .u8 s, .bool fu', .slice none 0 0, .slice none 0 0]] w' fun e w'' => ∃ pv' cv' ps' cs', e = .returned (.agg #[.int .u8 k, .int .i64 h, .int .u8 vk, .int .i64 vn, .string vstr, .slice pv' vlist.length cv', .int .i64 vr, .slice ps' vs.length cs', .int .i64 n', .int .i64 l', .int .i64 tg, .int .i64 bi, .int .u8 s, .bool fu', .slice none 0 0, .slice none 0 0]) ∧ Below w'.heap.size w' w'' ∧
      Deep w'' (fun b => w'.heap.size ≤ b) ⟨k, h, ⟨vk, vn, vstr, vlist, vr⟩, .slice pv' vlist.length cv', vs, .slice ps' vs.length cs', n', l', tg, bi, s, fu', .slice none 0 0, .slice none 0 0⟩ ∧ (vlist = [] → Value.slice pv' vlist.length cv' = .slice none 0 0) ∧ (Value.slice ps vs.length cs = .slice none 0 0 → Value.slice ps' vs.length cs' = .slice none 0 0)) := fun w' hb =>
    (ownWhat_G _ (Hx.out.1.on hb) Hx.out.2.1.v Hx.out.2.1.vs Hx.out.2.1.len).mono fun e w'' ⟨vl', vals', he, hb2, hd, h5, h6, _⟩ => by
      obtain ⟨pv', cv', hv⟩ := hd.v.form
      obtain ⟨ps', cs', hs⟩ := hd.vs.form
      simp only at hv hs
      subst hv hs
      exact ⟨pv', cv', ps', cs', he, hb2, hd, h5, h6⟩
  clear HL hform
  generalize hnl : vlist.length = nl at Hf Hn Ho
  generalize hns : vs.length = ns at Hf Hn Ho
  have hB0 : Below w.heap.size w (w.alloc (.cells #[.int .u8 k, .int .i64 h, .int .u8 vk, .int .i64 vn, .string vstr, .slice pv nl cv, .int .i64 vr, .slice ps ns cs, .int .i64 n', .int .i64 l', .int .i64 tg, .int .i64 bi, .int .u8 s, .bool fu', .slice none 0 0, .slice none 0 0] 42)) := (Below.refl _ _).alloc (Nat.le_refl _) _
  have b0 := blk_new w (.cells #[.int .u8 k, .int .i64 h, .int .u8 vk, .int .i64 vn, .string vstr, .slice pv nl cv, .int .i64 vr, .slice ps ns cs, .int .i64 n', .int .i64 l', .int .i64 tg, .int .i64 bi, .int .u8 s, .bool fu', .slice none 0 0, .slice none 0 0] 42)
  obtain ⟨wa, hwa⟩ : ∃ wa, wa = w.alloc (.cells #[.int .u8 k, .int .i64 h, .int .u8 vk, .int .i64 vn, .string vstr, .slice pv nl cv, .int .i64 vr, .slice ps ns cs, .int .i64 n', .int .i64 l', .int .i64 tg, .int .i64 bi, .int .u8 s, .bool fu', .slice none 0 0, .slice none 0 0] 42) := ⟨_, rfl⟩
  have HB0 : Hid (Below w.heap.size w wa) := by rw [hwa]; exact hB0
  have Hb0 : Hid (wa.heap[w.heap.size]? = some (.cells #[.int .u8 k, .int .i64 h, .int .u8 vk, .int .i64 vn, .string vstr, .slice pv nl cv, .int .i64 vr, .slice ps ns cs, .int .i64 n', .int .i64 l', .int .i64 tg, .int .i64 bi, .int .u8 s, .bool fu', .slice none 0 0, .slice none 0 0] 42 (0, 0))) := by rw [hwa]; exact b0
  have Hwa := (show Hid _ from hwa)
  have HW : Hid (IsW w p M F) := hW
  have Ht : Hid (M.at r = some u) := ht
  have Hfu : Hid (u.full = false) := hfu
  obtain ⟨pa, pc, cg, cc, mg, mc, tb, fb, fn, bl, hV⟩ := hW
  have HV : Hid (WV w p M F pa pc cg cc mg mc tb fb fn bl) := hV
  have ds : Hid (∀ w', Below wa.heap.size wa w' → w'.cell? ⟨w.heap.size, 0, none⟩ = some (.int .u8 k) ∧ w'.cell? ⟨w.heap.size, 1, none⟩ = some (.int .i64 h) ∧ w'.cell? ⟨w.heap.size, 10, none⟩ = some (.int .i64 tg) ∧ w'.cell? ⟨w.heap.size, 11, none⟩ = some (.int .i64 bi) ∧ w'.cell? ⟨w.heap.size, 12, none⟩ = some (.int .u8 s) ∧
      w'.cell? ⟨bl r, 0, none⟩ = some (.int .u8 k) ∧ w'.cell? ⟨bl r, 1, none⟩ = some (.int .i64 h) ∧ w'.cell? ⟨bl r, 10, none⟩ = some (.int .i64 tg) ∧ w'.cell? ⟨bl r, 11, none⟩ = some (.int .i64 bi) ∧ w'.cell? ⟨bl r, 12, none⟩ = some (.int .u8 s) ∧ w'.cell? ⟨bl r, 13, none⟩ = some (.bool false) ∧
      (ldW (.pointer (some ⟨w.heap.size, 0, none⟩))).run Tryz.prog w' = .ok (.value (.agg #[.int .u8 k, .int .i64 h, .int .u8 vk, .int .i64 vn, .string vstr, .slice pv nl cv, .int .i64 vr, .slice ps ns cs, .int .i64 n', .int .i64 l', .int .i64 tg, .int .i64 bi, .int .u8 s, .bool fu', .slice none 0 0, .slice none 0 0])) w' ∧ Below w.heap.size w w') := fun w' hb => by
    have hbl := (HV.out.below (HB0.out.trans (hb.mono HB0.out.size))).blk r _ Ht.out
    obtain ⟨q0, q1, -, -, q10, q11, q12, q13⟩ := thc_cell hbl.1
    have hg := below_blk hb Hb0.out
    obtain ⟨-, -, -, -, e1, e2, e3, e4, e5⟩ := Hx.out
    simp only at e1 e2 e3 e4 e5
    rw [← e1] at q0
    rw [← e2] at q1
    rw [← e3] at q10
    rw [← e4] at q11
    rw [← e5] at q12
    rw [Hfu.out] at q13
    exact ⟨by rw [cell_blk hg]; rfl, by rw [cell_blk hg]; rfl, by rw [cell_blk hg]; rfl, by rw [cell_blk hg]; rfl, by rw [cell_blk hg]; rfl, q0, q1, q10, q11, q12, q13, loadWhat_blk hg rfl, HB0.out.trans (hb.mono HB0.out.size)⟩
  clear hV hB0 b0 ht hwa hfu
  simp only [thc]
  go_enter Tryz.func137, Tryz.ntmps137
  go_wp2_with fail
  rw [← Hwa.out]
  have hWa := HW.out.below HB0.out
  refine (none_W hWa).mono ?_
  rintro e _ ⟨rfl, rfl⟩
  go_wp2_with fail
  refine (Is_W hWa hr).mono ?_
  rw [Ht.out]
  rintro e _ ⟨rfl, rfl⟩
  have c2 := (HV.out.below HB0.out).c2
  have hlk := (HV.out.below HB0.out).look hr
  rw [Ht.out] at hlk
  simp only [Option.map_some] at hlk
  clear hWa
  go_wp2_with fail
  refine region_class (C := fun w' => Below wa.heap.size wa w') (by kernel_rfl) (by kernel_rfl) below_drew ?_
  repeat (first
    | go_big_quiet_step (fail)
    | quiet_step (fail)
    | (refine wpQuiet_step (fun K hK => ?_); go_simp; first
        | (refine hK _ ?_; clear hK K)
        | (apply Exists.intro
           refine ⟨fun w' hC => ?_, hK _ ?_⟩
           · obtain ⟨q1, q2, q3, q4, q5, q6, q7, q8, q9, q10, q11, q12, q13⟩ := ds.out w' hC
             first
               | exact rfl
               | (go_simp; exact rfl)
               | (go_simp; exact ⟨rfl, rfl⟩)
               | exact (Hf.out w' q13).mono fun e w'' ⟨he, hb⟩ => ⟨he, hC.trans (hb.mono hC.size)⟩
           clear hK K)))
  refine wpQuiet_nil ?_
  intro w5 hC5
  have HB5 := (show Hid (Below wa.heap.size wa w5 ∧ Below w.heap.size w w5) from ⟨hC5, (ds.out w5 hC5).2.2.2.2.2.2.2.2.2.2.2.2⟩)
  have l5 := (ds.out w5 hC5).2.2.2.2.2.2.2.2.2.2.2.1
  clear hC5 c2 hlk
  go_wp2_with fail
  refine (Hn.out _ HB5.out.2).mono ?_
  rintro e w6 ⟨rfl, hb6⟩
  have hB6 : Below wa.heap.size wa w6 := HB5.out.1.trans (hb6.mono HB5.out.1.size)
  have HB6 := (show Hid (Below wa.heap.size wa w6 ∧ Below w.heap.size w w6) from ⟨hB6, (ds.out w6 hB6).2.2.2.2.2.2.2.2.2.2.2.2⟩)
  have l6 := (ds.out w6 hB6).2.2.2.2.2.2.2.2.2.2.2.1
  clear hb6 l5 HB5 hB6
  go_wp2_with fail
  refine (Ho.out _ HB6.out.2).mono ?_
  rintro e w7 ⟨pv', cv', ps', cs', rfl, hb7, hd7, hn7⟩
  have HB7 : Hid (Below wa.heap.size wa w7) := HB6.out.1.trans (hb7.mono HB6.out.1.size)
  have HB8 := (show Hid (Below w.heap.size w w7) from HB6.out.2.trans (hb7.mono HB6.out.2.size))
  have B7 := ((HV.out.below HB8.out).blk r _ Ht.out).1
  have hst := storeWhat_blk (c' := #[.int .u8 k, .int .i64 h, .int .u8 vk, .int .i64 vn, .string vstr, .slice pv' nl cv', .int .i64 vr, .slice ps' ns cs', .int .i64 n', .int .i64 l', .int .i64 tg, .int .i64 bi, .int .u8 s, .bool fu', .slice none 0 0, .slice none 0 0]) B7 rfl rfl (by simp [go_sem])
  have G7 := (show Hid _ from heap_setRow_at (c' := #[.int .u8 k, .int .i64 h, .int .u8 vk, .int .i64 vn, .string vstr, .slice pv' nl cv', .int .i64 vr, .slice ps' ns cs', .int .i64 n', .int .i64 l', .int .i64 tg, .int .i64 bi, .int .u8 s, .bool fu', .slice none 0 0, .slice none 0 0]) B7)
  have HD7 := (show Hid (Deep w7 (fun b => w6.heap.size ≤ b) ⟨k, h, ⟨vk, vn, vstr, vlist, vr⟩, .slice pv' nl cv', vs, .slice ps' ns cs', n', l', tg, bi, s, fu', .slice none 0 0, .slice none 0 0⟩ ∧ w.heap.size ≤ w6.heap.size ∧ (vlist = [] → Value.slice pv' nl cv' = .slice none 0 0) ∧ (Value.slice ps ns cs = .slice none 0 0 → Value.slice ps' ns cs' = .slice none 0 0)) from ⟨hd7, HB6.out.2.size, hn7⟩)
  clear hb7 B7 l6 hd7 hn7
  go_wp2_with fail
  go_ret
  have hF := (HV.out.blk r _ Ht.out).2.1
  have hlr := HV.out.lt _ hF
  refine ⟨rfl, .slice pv' nl cv', .slice ps' ns cs', fun b => F b ∨ (w.heap.size ≤ b ∧ b < w7.heap.size), HD7.out.2.2, ?_, ?_, ?_⟩
  · have hV7 := HV.out.below HB8.out
    obtain ⟨-, -, -, -, e1, e2, e3, e4, e5⟩ := Hx.out
    refine ⟨pa, pc, cg, cc, mg, mc, tb, fb, fn, bl, hV7.turn (u := u) ⟨Ht.out, e1, e2, fun _ => e3, ?_, e4, e5⟩ (by simp [World.setRow]) G7.out (fun b _ hb => heap_setRow_other _ _ _ _ hb) (fun _ h => .inl h) (fun b hb => ?_) ?_⟩
    · have := (hV7.ok.wf _ _ Ht.out).tgt
      rw [← e3] at this
      exact this
    · have : b < w7.heap.size := by
        rcases hb with hb | hb
        · exact hV7.lt b hb
        · exact hb.2
      simpa [World.setRow] using this
    · have hd := HD7.out.1
      have h1 : Deep w7 (fun b => (w.heap.size ≤ b ∧ b < w7.heap.size)) ⟨k, h, ⟨vk, vn, vstr, vlist, vr⟩, .slice pv' nl cv', vs, .slice ps' ns cs', n', l', tg, bi, s, fu', .slice none 0 0, .slice none 0 0⟩ :=
        ⟨hd.v.monoLt fun b hb h2 => ⟨Nat.le_trans HD7.out.2.1 hb, h2⟩, hd.vs.monoLt fun b hb h2 => ⟨Nat.le_trans HD7.out.2.1 hb, h2⟩, rfl, rfl⟩
      exact h1.of_blocks (Lists.of fun b hb => heap_setRow_other _ _ _ _ (by omega)) (fun b hb => .inr hb)
  · exact Below.keeps HB8.out ⟨rfl, rfl, rfl, by simp [World.setRow], fun b _ hb => heap_setRow_other _ _ _ _ (fun e => hb (e ▸ hF))⟩
  · rintro b (hb | hb)
    · exact .inl hb
    · exact .inr hb.1
theorem Lay_G (hW : IsW w p M F) {r : Int} (hr : (Lit.int .i64 r).wf = true) {u : Th} (ht : M.at r = some u) (hfu : u.full = false) {F1 : Nat → Prop} {x : Th} (hx : Lies w F1 x) (hfair : Fair x)
    (hkind : x.kind = u.kind) (hhome : x.home = u.home) (htgt : x.tgt = u.tgt) (hbi : x.bi = u.bi) (hset : x.set = u.set) (hwf : ∀ r ∈ heldL x, (Lit.int .i64 r).wf = true) (hnames : namesB M x = true)
    (hform : ∀ w', Below w.heap.size w w' → Calls Tryz.prog 71 #[.pointer (some ⟨p, 0, none⟩), .agg (thc x)] w' fun e w'' => e = .returned (.bool true) ∧ Below w'.heap.size w' w'') :
    Calls Tryz.prog 137 #[.pointer (some ⟨p, 0, none⟩), .int .i64 r, .agg (thc x)] w fun e w' => e = .returned (.int .i64 0) ∧ LaidG w p M F r x w' :=
  (Lay_GS hW hr ht hfu hx hfair hkind hhome htgt hbi hset hwf hnames hform).mono fun _ _ ⟨he, vl', vals', F', h1, h2⟩ => ⟨he, vl', vals', F', h1.1, h2⟩
end Go.Proofs.YtcoiccbmcjdheaaGreat
/- plain: the small calls. -/
namespace Go.Proofs.YtcoiccbmcjdheaaGreat
open Go.RowKit Go.ChangeMaps Go.MapKept
variable {w : World} {p : Nat} {M : WM} {F : Nat → Prop}

set_option maxRecDepth 8000 in
theorem number_W (w : World) (n : Int) : Calls Tryz.prog 41 #[.int .i64 n] w fun e w' => e = .returned (.agg #[.int .u8 1, .int .i64 n, .string ⟨#[]⟩, .slice none 0 0, .int .i64 0]) ∧ Below w.heap.size w w' := by
  go_enter Tryz.func41, Tryz.ntmps41
  go_wp2
  go_returns
  exact ⟨rfl, by go_grown⟩
set_option maxRecDepth 8000 in
theorem num08_W (w : World) (n : Int) : Calls Tryz.prog 30 #[.int .i64 n] w fun e w' => e = .returned (.agg #[.int .u8 1, .int .i64 n, .string ⟨#[]⟩, .slice none 0 0, .int .i64 0]) ∧ Below w.heap.size w w' := by
  go_enter Tryz.func30, Tryz.ntmps30
  go_wp2
  go_returns
  exact ⟨rfl, by go_grown⟩
set_option maxRecDepth 8000 in
theorem list_W (w : World) (s : Option Addr) (n c : Nat) : Calls Tryz.prog 141 #[.slice s n c] w fun e w' => e = .returned (.agg #[.int .u8 3, .int .i64 0, .string ⟨#[]⟩, .slice s n c, .int .i64 0]) ∧ Below w.heap.size w w' := by
  go_enter Tryz.func141, Tryz.ntmps141
  go_wp2
  go_returns
  exact ⟨rfl, by go_grown⟩
set_option maxRecDepth 8000 in
theorem there_W (hW : IsW w p M F) : Calls Tryz.prog 45 #[.pointer (some ⟨p, 0, none⟩)] w fun e w' => e = .returned (.bool true) ∧ w = w' := by
  have hS := Sides_W hW
  have hl := hW.ok.made
  have HS := (show Hid _ from hS)
  have hl1 : 0 < M.made.length := by omega
  clear hS hW hl
  go_enter Tryz.func45, Tryz.ntmps45
  go_wp2_with fail
  refine Calls.mono HS.out ?_
  rintro e _ ⟨rfl, rfl⟩
  go_wp2_with fail
  go_ret
  exact ⟨by simp, rfl⟩
set_option maxRecDepth 8000 in
theorem told_W (w : World) (k n r : Int) (s : ByteArray) (a : Option Addr) (m c : Nat) : Calls Tryz.prog 136 #[.agg #[.int .u8 0, .int .i64 0, .string ⟨#[]⟩, .slice none 0 0, .int .i64 0], .agg #[.int .u8 k, .int .i64 n, .string s, .slice a m c, .int .i64 r]] w fun e w' => e = .returned (.tuple #[.agg #[.int .u8 k, .int .i64 n, .string s, .slice a m c, .int .i64 r], .int .i64 0]) ∧ Below w.heap.size w w' := by
  go_enter Tryz.func136, Tryz.ntmps136
  go_wp2
  go_returns
  exact ⟨rfl, by go_grown⟩
set_option maxRecDepth 8000 in
theorem Place1_W (w : World) : Calls Tryz.prog 58 #[.int .u8 1] w fun e w' => e = .returned (.tuple #[.int .i64 0, .int .i64 0]) ∧ Below w.heap.size w w' := by
  have hp : wrap64 (Lib.pop8 1) = 1 := by kernel_rfl
  have hn : wrap64 (Lib.ntz8 1) = 0 := by kernel_rfl
  go_enter Tryz.func58, Tryz.ntmps58
  go_wp2
  go_ret2
  exact ⟨by simp [hn], by go_grown⟩
set_option maxRecDepth 8000 in
theorem Place2_W (w : World) : Calls Tryz.prog 58 #[.int .u8 2] w fun e w' => e = .returned (.tuple #[.int .i64 1, .int .i64 0]) ∧ Below w.heap.size w w' := by
  have hp : wrap64 (Lib.pop8 2) = 1 := by kernel_rfl
  have hn : wrap64 (Lib.ntz8 2) = 1 := by kernel_rfl
  go_enter Tryz.func58, Tryz.ntmps58
  go_wp2
  go_ret2
  exact ⟨by simp [hn], by go_grown⟩
set_option maxRecDepth 8000 in
theorem Place4_W (w : World) : Calls Tryz.prog 58 #[.int .u8 4] w fun e w' => e = .returned (.tuple #[.int .i64 2, .int .i64 0]) ∧ Below w.heap.size w w' := by
  have hp : wrap64 (Lib.pop8 4) = 1 := by kernel_rfl
  have hn : wrap64 (Lib.ntz8 4) = 2 := by kernel_rfl
  go_enter Tryz.func58, Tryz.ntmps58
  go_wp2
  go_ret2
  exact ⟨by simp [hn], by go_grown⟩
set_option maxRecDepth 8000 in
theorem Place8_W (w : World) : Calls Tryz.prog 58 #[.int .u8 8] w fun e w' => e = .returned (.tuple #[.int .i64 3, .int .i64 0]) ∧ Below w.heap.size w w' := by
  have hp : wrap64 (Lib.pop8 8) = 1 := by kernel_rfl
  have hn : wrap64 (Lib.ntz8 8) = 3 := by kernel_rfl
  go_enter Tryz.func58, Tryz.ntmps58
  go_wp2
  go_ret2
  exact ⟨by simp [hn], by go_grown⟩

set_option maxHeartbeats 2000000 in
set_option maxRecDepth 8000 in
theorem known_G (hW : IsW w p M F) {F1 : Nat → Prop} (v : Val) (raw : Value) (hS : SlAt w F1 raw v.l) (hk : ∀ r ∈ refsV v, (Lit.int .i64 r).wf = true ∧ (M.at r).isSome = true) :
    Calls Tryz.prog 59 #[.pointer (some ⟨p, 0, none⟩), .agg (vcs v raw)] w fun e w' => e = .returned (.bool true) ∧ Below w.heap.size w w' := by
  obtain ⟨pa, c, rfl⟩ := hS.form
  have hb0 : Below w.heap.size w (w.alloc (.cells (vcs v (.slice pa v.l.length c)) 34)) := (Below.refl _ _).alloc (Nat.le_refl _) _
  have HR := (show Hid _ from And.intro hb0 (Refs_G (w := w.alloc (.cells (vcs v (.slice pa v.l.length c)) 34)) v _ (hS.on hb0)))
  have Hk : Hid (∀ r ∈ refsV v, (Lit.int .i64 r).wf = true ∧ (M.at r).isSome = true) := hk
  have Hl : Hid ((refsV v).length ≤ 512) := refsV_le v
  have HW : Hid (IsW w p M F) := hW
  obtain ⟨kind, n, s, l, r⟩ := v
  generalize refsV ⟨kind, n, s, l, r⟩ = xs at HR Hk Hl
  clear hS hk hW hb0
  simp only [vcs] at HR ⊢
  go_enter Tryz.func59, Tryz.ntmps59
  go_wp2_with fail
  refine Calls.mono HR.out.2 ?_
  rintro e w1 ⟨u, rfl, hr, hb1⟩
  have HB1 := (show Hid (Below w.heap.size w w1) from HR.out.1.trans (hb1.mono HR.out.1.size))
  obtain ⟨q, c', hu, hcell⟩ : ∃ q c', u = .slice q xs.length c' ∧ ∀ (j : Nat) (x : Int), xs[j]? = some x → ∃ g, q = some ⟨g, 0, none⟩ ∧ w1.cell? ⟨g, j, none⟩ = some (.int .i64 x) := by
    obtain ⟨h1, ⟨rfl, h0⟩ | ⟨g, cap, cur, rfl, -, hb, hc, hm, hcs, ht⟩⟩ := hr
    · exact ⟨none, 0, by rw [h0], fun j x hj => by have := (List.getElem?_eq_some_iff.1 hj).1; omega⟩
    · refine ⟨_, cap, rfl, fun j x hj => ⟨g, rfl, ?_⟩⟩
      have hj' := (List.getElem?_eq_some_iff.1 hj).1
      have h2 : (xs.map (Value.int .i64))[j]? = some (.int .i64 x) := by rw [List.getElem?_map, hj]; rfl
      rw [← ht, List.getElem?_take, if_pos (by omega)] at h2
      rw [cell_blk hb, ← Array.getElem?_toList]
      exact h2
  subst hu
  have HC := (show Hid (∀ (j : Nat) (x : Int), xs[j]? = some x → ∃ g, q = some ⟨g, 0, none⟩ ∧ w1.cell? ⟨g, j, none⟩ = some (.int .i64 x)) from hcell)
  have HW1 : Hid (IsW w1 p M F) := HW.out.below HB1.out
  clear hr hb1 hcell HR HW
  go_wp2_with fail
  go_loopw [10] (fun vi wr => ∃ k : Nat, vi = .int .i64 k ∧ k ≤ xs.length ∧ wr = w1) (fun vi _ => xs.length - (intOf vi).toNat)
  case atStart => exact ⟨0, rfl, Nat.zero_le _, rfl⟩
  case round =>
    obtain ⟨k, rfl, hk, rfl⟩ := hrel
    by_cases hkl : k < xs.length
    · have hkz : (k : Int) < (xs.length : Int) := by omega
      obtain ⟨x, hx⟩ : ∃ x, xs[k]? = some x := ⟨_, List.getElem?_eq_getElem hkl⟩
      obtain ⟨g, rfl, hc⟩ := HC.out k x hx
      obtain ⟨hwf, his⟩ := Hk.out x (List.mem_of_getElem? hx)
      have hI := Is_W HW1.out hwf
      rw [his] at hI
      have HI := (show Hid _ from hI)
      have hk1 : k < 512 := by have := Hl.out; omega
      clear hx hI his
      go_wp2_with fail
      refine Calls.mono HI.out ?_
      rintro e _ ⟨rfl, rfl⟩
      go_wp2_with fail
      go_roundw
      case rel => exact ⟨k + 1, by go_num, by omega, by first | rfl | trivial⟩
      case measure =>
        simp [intOf]
        omega
    · have hkz : ¬ (k : Int) < (xs.length : Int) := by omega
      obtain rfl : k = xs.length := by omega
      go_wp2_with fail
      go_ret
      exact ⟨rfl, HB1.out⟩

set_option maxHeartbeats 2000000 in
set_option maxRecDepth 8000 in
theorem may_G (hW : IsW w p M F) {F1 : Nat → Prop} {h : Int} (hh : 0 ≤ h ∧ h < M.made.length) (v : Val) (raw : Value) (hS : SlAt w F1 raw v.l) (hm : mayV v = true) (hk : ∀ r ∈ refsV v, (Lit.int .i64 r).wf = true ∧ (M.at r).isSome = true) :
    Calls Tryz.prog 47 #[.pointer (some ⟨p, 0, none⟩), .int .i64 h, .agg (vcs v raw)] w fun e w' => e = .returned (.int .i64 0) ∧ Below w.heap.size w w' := by
  obtain ⟨pa, c, rfl⟩ := hS.form
  have hb0 : Below w.heap.size w (w.alloc (.cells (vcs v (.slice pa v.l.length c)) 34)) := (Below.refl _ _).alloc (Nat.le_refl _) _
  have HW : Hid (IsW w p M F) := hW
  have HW0 : Hid (IsW (w.alloc (.cells (vcs v (.slice pa v.l.length c)) 34)) p M F) := hW.below hb0
  have HM : Hid (∀ w', Below w.heap.size w w' → Calls Tryz.prog 27 #[.agg (vcs v (.slice pa v.l.length c))] w' fun e w'' => e = .returned (.bool true) ∧ Below w'.heap.size w' w'') := fun w' hb => by
    have := vMay_G (hS.on hb) (v := v)
    rwa [hm] at this
  have HK : Hid (∀ w', Below w.heap.size w w' → Calls Tryz.prog 59 #[.pointer (some ⟨p, 0, none⟩), .agg (vcs v (.slice pa v.l.length c))] w' fun e w'' => e = .returned (.bool true) ∧ Below w'.heap.size w' w'') := fun w' hb => known_G (hW.below hb) v _ (hS.on hb) hk
  have HB0 := (show Hid _ from And.intro hb0 (blk_new w (.cells (vcs v (.slice pa v.l.length c)) 34)))
  obtain ⟨h1, h2⟩ := hh
  have h1' : ¬ h < 0 := by omega
  have h2' : ¬ h ≥ (M.made.length : Int) := by omega
  clear hS hm hk hW hb0 h1 h2
  obtain ⟨kind, n, s, l, r⟩ := v
  simp only [vcs] at HW0 HM HK HB0 ⊢
  go_enter Tryz.func47, Tryz.ntmps47
  go_wp2_with fail
  refine (there_W HW0.out).mono ?_
  rintro e _ ⟨rfl, rfl⟩
  go_wp2_with fail
  refine (Sides_W HW0.out).mono ?_
  rintro e _ ⟨rfl, rfl⟩
  go_wp2_with fail
  refine Calls.mono (HM.out _ HB0.out.1) ?_
  rintro e w1 ⟨rfl, hb1⟩
  have b1 := below_blk hb1 HB0.out.2
  obtain ⟨⟨a0, a1, a2, a3, a4⟩, -⟩ := cells5 b1
  have HB1 := (show Hid (Below w.heap.size w w1) from HB0.out.1.trans (hb1.mono HB0.out.1.size))
  clear hb1 b1
  go_wp2_with fail
  refine Calls.mono (HK.out _ HB1.out) ?_
  rintro e w2 ⟨rfl, hb2⟩
  have HB2 := (show Hid (Below w.heap.size w w2) from HB1.out.trans (hb2.mono HB1.out.size))
  clear hb2 a0 a1 a2 a3 a4
  go_wp2_with fail
  go_ret
  exact ⟨rfl, HB2.out⟩
end Go.Proofs.YtcoiccbmcjdheaaGreat
