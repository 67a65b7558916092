/- A part of the proof, several texts in one: PlF. -/
import Derived.Test.YthaliljaglldjaaGreatmAV
/- plain.find: a thing as what it is. -/
namespace Go.Proofs.YthaliljaglldjaaGreat
open Go.RowKit Go.ChangeMaps Go.MapKept
variable {w : World} {p : Nat} {M : WM} {F : Nat → Prop}
def FoundB (w : World) (p : Nat) (r : Int) (t : Th) (ty : TypeId) (b : Nat) (w' : World) : Prop :=
  ∃ vl' vals', w'.heap[b]? = some (.cells (baseC p r { t with vl := vl', vals := vals' }) ty (0, 0)) ∧ w.heap.size ≤ b ∧ Below w.heap.size w w' ∧ Deep w' (fun x => w.heap.size ≤ x) { t with vl := vl', vals := vals' } ∧
    (t.v.l = [] → vl' = .slice none 0 0) ∧ (t.vals = .slice none 0 0 → vals' = .slice none 0 0) ∧ CapOk vals'
attribute [local go_sem ↓] execOp_alB execOp_ldB execOp_stB execOp_bld3 execOp_bldK_1 execOp_boxK_1 in
set_option maxHeartbeats 4000000 in
set_option maxRecDepth 20000 in
theorem find_1 (hW : IsW w p M F) {r : Int} (hr : (Lit.int .i64 r).wf = true) {t : Th} (ht : M.at r = some t) (hf : Fair t) (hk : t.kind = 1) :
    Calls Tryz.prog 93 #[.pointer (some ⟨p, 0, none⟩), .int .i64 r] w fun e w' => ∃ b, e = .returned (.tuple #[.iface 160 (.pointer (some ⟨b, 0, none⟩)), .int .i64 0]) ∧ FoundB w p r t 247 b w' := by
  have HW := (show Hid _ from What_G hW hr ht hf)
  clear hW ht hf
  obtain ⟨k, h, ⟨vk, vn, vstr, vl, vr⟩, raw, vs, vals, n, l, tg, bi, s, fu, code, names⟩ := t
  simp only at hk
  subst hk
  simp only [thc] at HW
  go_enter Tryz.func93, Tryz.ntmps93
  go_wp2_with fail
  refine Calls.mono HW.out ?_
  rintro e w1 ⟨vl', vals', rfl, hb1, hd1, hn1, hn2, hn3⟩
  obtain ⟨pv, cv, hv⟩ := hd1.v.form
  obtain ⟨ps, cs, hs⟩ := hd1.vs.form
  have hcode := hd1.code
  have hnames := hd1.names
  simp only at hv hs hcode hnames hn1 hn2
  subst hv hs hcode hnames
  have hal := alB_run (w1.alloc (.cells #[.int .u8 1, .int .i64 h, .int .u8 vk, .int .i64 vn, .string vstr, .slice pv vl.length cv, .int .i64 vr, .slice ps vs.length cs, .int .i64 n, .int .i64 l, .int .i64 tg, .int .i64 bi, .int .u8 s, .bool fu, .slice none 0 0, .slice none 0 0] 46))
  rw [World.size_alloc] at hal
  have g2 := blk_old (w1.alloc (.cells #[.int .u8 1, .int .i64 h, .int .u8 vk, .int .i64 vn, .string vstr, .slice pv vl.length cv, .int .i64 vr, .slice ps vs.length cs, .int .i64 n, .int .i64 l, .int .i64 tg, .int .i64 bi, .int .u8 s, .bool fu, .slice none 0 0, .slice none 0 0] 46)) (.cells baseZ 163) (blk_new w1 (.cells #[.int .u8 1, .int .i64 h, .int .u8 vk, .int .i64 vn, .string vstr, .slice pv vl.length cv, .int .i64 vr, .slice ps vs.length cs, .int .i64 n, .int .i64 l, .int .i64 tg, .int .i64 bi, .int .u8 s, .bool fu, .slice none 0 0, .slice none 0 0] 46))
  have g3 := blk_new (w1.alloc (.cells #[.int .u8 1, .int .i64 h, .int .u8 vk, .int .i64 vn, .string vstr, .slice pv vl.length cv, .int .i64 vr, .slice ps vs.length cs, .int .i64 n, .int .i64 l, .int .i64 tg, .int .i64 bi, .int .u8 s, .bool fu, .slice none 0 0, .slice none 0 0] 46)) (.cells baseZ 163)
  rw [World.size_alloc] at g3
  have hb2 : Below w1.heap.size w1 ((w1.alloc (.cells #[.int .u8 1, .int .i64 h, .int .u8 vk, .int .i64 vn, .string vstr, .slice pv vl.length cv, .int .i64 vr, .slice ps vs.length cs, .int .i64 n, .int .i64 l, .int .i64 tg, .int .i64 bi, .int .u8 s, .bool fu, .slice none 0 0, .slice none 0 0] 46)).alloc (.cells baseZ 163)) := ((Below.refl _ _).alloc (Nat.le_refl _) _).alloc (by simp) _
  have hst0 := stB_run (c' := #[.pointer (some ⟨p, 0, none⟩), .int .i64 r, .int .u8 1, .int .i64 h, .int .u8 vk, .int .i64 vn, .string vstr, .slice pv vl.length cv, .int .i64 vr, .slice ps vs.length cs, .int .i64 n, .int .i64 l, .int .i64 tg, .int .i64 bi, .int .u8 s, .bool fu, .slice none 0 0, .slice none 0 0]) g3 rfl rfl (by simp [go_sem, show (Value.pointer (some ⟨p, 0, none⟩)).oneCell' = true from rfl])
  have hbld := fun w0 : World => bld3_run w0 p r (x0 := .int .u8 1) (x1 := .int .i64 h) (x2 := .int .u8 vk) (x3 := .int .i64 vn) (x4 := .string vstr) (x5 := .slice pv vl.length cv) (x6 := .int .i64 vr) (x7 := .slice ps vs.length cs) (x8 := .int .i64 n) (x9 := .int .i64 l) (x10 := .int .i64 tg) (x11 := .int .i64 bi) (x12 := .int .u8 s) (x13 := .bool fu) (x14 := .slice none 0 0) (x15 := .slice none 0 0)
  have hg2 := (heap_setRow_other _ (w1.heap.size + 1) #[.pointer (some ⟨p, 0, none⟩), .int .i64 r, .int .u8 1, .int .i64 h, .int .u8 vk, .int .i64 vn, .string vstr, .slice pv vl.length cv, .int .i64 vr, .slice ps vs.length cs, .int .i64 n, .int .i64 l, .int .i64 tg, .int .i64 bi, .int .u8 s, .bool fu, .slice none 0 0, .slice none 0 0] w1.heap.size (by omega)).trans g2
  have hg3 := heap_setRow_at (c' := #[.pointer (some ⟨p, 0, none⟩), .int .i64 r, .int .u8 1, .int .i64 h, .int .u8 vk, .int .i64 vn, .string vstr, .slice pv vl.length cv, .int .i64 vr, .slice ps vs.length cs, .int .i64 n, .int .i64 l, .int .i64 tg, .int .i64 bi, .int .u8 s, .bool fu, .slice none 0 0, .slice none 0 0]) g3
  have hb3 := Below.setRow hb2 (Nat.le_succ _) #[.pointer (some ⟨p, 0, none⟩), .int .i64 r, .int .u8 1, .int .i64 h, .int .u8 vk, .int .i64 vn, .string vstr, .slice pv vl.length cv, .int .i64 vr, .slice ps vs.length cs, .int .i64 n, .int .i64 l, .int .i64 tg, .int .i64 bi, .int .u8 s, .bool fu, .slice none 0 0, .slice none 0 0]
  have hz3 : (((w1.alloc (.cells #[.int .u8 1, .int .i64 h, .int .u8 vk, .int .i64 vn, .string vstr, .slice pv vl.length cv, .int .i64 vr, .slice ps vs.length cs, .int .i64 n, .int .i64 l, .int .i64 tg, .int .i64 bi, .int .u8 s, .bool fu, .slice none 0 0, .slice none 0 0] 46)).alloc (.cells baseZ 163)).setRow (w1.heap.size + 1) #[.pointer (some ⟨p, 0, none⟩), .int .i64 r, .int .u8 1, .int .i64 h, .int .u8 vk, .int .i64 vn, .string vstr, .slice pv vl.length cv, .int .i64 vr, .slice ps vs.length cs, .int .i64 n, .int .i64 l, .int .i64 tg, .int .i64 bi, .int .u8 s, .bool fu, .slice none 0 0, .slice none 0 0]).heap.size = w1.heap.size + 2 := by simp [World.setRow]
  revert hal hst0 hg2 hg3 hb3 hz3
  clear g2 g3 hb2
  generalize World.setRow _ _ _ = w4
  generalize ((w1.alloc (.cells #[.int .u8 1, .int .i64 h, .int .u8 vk, .int .i64 vn, .string vstr, .slice pv vl.length cv, .int .i64 vr, .slice ps vs.length cs, .int .i64 n, .int .i64 l, .int .i64 tg, .int .i64 bi, .int .u8 s, .bool fu, .slice none 0 0, .slice none 0 0] 46)).alloc (.cells baseZ 163)) = w3
  intro hal hst hg2 hg3 hb3 hz3
  have c0 : w4.cell? ⟨w1.heap.size, 0, none⟩ = some (.int .u8 1) := by rw [cell_blk hg2]; rfl
  have hld := ldB_run hg3 rfl
  have hbk := bldK_1 w4 (y0 := .pointer (some ⟨p, 0, none⟩)) (y1 := .int .i64 r) (x0 := .int .u8 1) (x1 := .int .i64 h) (x2 := .int .u8 vk) (x3 := .int .i64 vn) (x4 := .string vstr) (x5 := .slice pv vl.length cv) (x6 := .int .i64 vr) (x7 := .slice ps vs.length cs) (x8 := .int .i64 n) (x9 := .int .i64 l) (x10 := .int .i64 tg) (x11 := .int .i64 bi) (x12 := .int .u8 s) (x13 := .bool fu) (x14 := .slice none 0 0) (x15 := .slice none 0 0)
  have hbox := boxK_1 w4 (cs := #[.pointer (some ⟨p, 0, none⟩), .int .i64 r, .int .u8 1, .int .i64 h, .int .u8 vk, .int .i64 vn, .string vstr, .slice pv vl.length cv, .int .i64 vr, .slice ps vs.length cs, .int .i64 n, .int .i64 l, .int .i64 tg, .int .i64 bi, .int .u8 s, .bool fu, .slice none 0 0, .slice none 0 0])
  have HX : Hid (∀ w5, w5 = w4.alloc (.cells #[.pointer (some ⟨p, 0, none⟩), .int .i64 r, .int .u8 1, .int .i64 h, .int .u8 vk, .int .i64 vn, .string vstr, .slice pv vl.length cv, .int .i64 vr, .slice ps vs.length cs, .int .i64 n, .int .i64 l, .int .i64 tg, .int .i64 bi, .int .u8 s, .bool fu, .slice none 0 0, .slice none 0 0] 247) → FoundB w p r ⟨1, h, ⟨vk, vn, vstr, vl, vr⟩, raw, vs, vals, n, l, tg, bi, s, fu, .slice none 0 0, .slice none 0 0⟩ 247 w4.heap.size w5) := by
    intro w5 e
    subst e
    have hbb : Below w1.heap.size w1 (w4.alloc (.cells #[.pointer (some ⟨p, 0, none⟩), .int .i64 r, .int .u8 1, .int .i64 h, .int .u8 vk, .int .i64 vn, .string vstr, .slice pv vl.length cv, .int .i64 vr, .slice ps vs.length cs, .int .i64 n, .int .i64 l, .int .i64 tg, .int .i64 bi, .int .u8 s, .bool fu, .slice none 0 0, .slice none 0 0] 247)) := hb3.alloc (by omega) _
    exact ⟨_, _, blk_new _ _, by have := hb1.size; omega, hb1.trans (hbb.mono hb1.size), hd1.on hbb, hn1, hn2, hn3⟩
  clear hg2 hg3 hb3 hb1 hd1 HW hn1 hn2 hn3 hz3
  go_wp2_with fail
  go_ret2
  exact ⟨_, rfl, HX.out _ rfl⟩
attribute [local go_sem ↓] execOp_alB execOp_ldB execOp_stB execOp_bld3 execOp_bldK_4 execOp_boxK_4 in
set_option maxHeartbeats 4000000 in
set_option maxRecDepth 20000 in
theorem find_4 (hW : IsW w p M F) {r : Int} (hr : (Lit.int .i64 r).wf = true) {t : Th} (ht : M.at r = some t) (hf : Fair t) (hk : t.kind = 4) :
    Calls Tryz.prog 93 #[.pointer (some ⟨p, 0, none⟩), .int .i64 r] w fun e w' => ∃ b, e = .returned (.tuple #[.iface 166 (.pointer (some ⟨b, 0, none⟩)), .int .i64 0]) ∧ FoundB w p r t 167 b w' := by
  have HW := (show Hid _ from What_G hW hr ht hf)
  clear hW ht hf
  obtain ⟨k, h, ⟨vk, vn, vstr, vl, vr⟩, raw, vs, vals, n, l, tg, bi, s, fu, code, names⟩ := t
  simp only at hk
  subst hk
  simp only [thc] at HW
  go_enter Tryz.func93, Tryz.ntmps93
  go_wp2_with fail
  refine Calls.mono HW.out ?_
  rintro e w1 ⟨vl', vals', rfl, hb1, hd1, hn1, hn2, hn3⟩
  obtain ⟨pv, cv, hv⟩ := hd1.v.form
  obtain ⟨ps, cs, hs⟩ := hd1.vs.form
  have hcode := hd1.code
  have hnames := hd1.names
  simp only at hv hs hcode hnames hn1 hn2
  subst hv hs hcode hnames
  have hal := alB_run (w1.alloc (.cells #[.int .u8 4, .int .i64 h, .int .u8 vk, .int .i64 vn, .string vstr, .slice pv vl.length cv, .int .i64 vr, .slice ps vs.length cs, .int .i64 n, .int .i64 l, .int .i64 tg, .int .i64 bi, .int .u8 s, .bool fu, .slice none 0 0, .slice none 0 0] 46))
  rw [World.size_alloc] at hal
  have g2 := blk_old (w1.alloc (.cells #[.int .u8 4, .int .i64 h, .int .u8 vk, .int .i64 vn, .string vstr, .slice pv vl.length cv, .int .i64 vr, .slice ps vs.length cs, .int .i64 n, .int .i64 l, .int .i64 tg, .int .i64 bi, .int .u8 s, .bool fu, .slice none 0 0, .slice none 0 0] 46)) (.cells baseZ 163) (blk_new w1 (.cells #[.int .u8 4, .int .i64 h, .int .u8 vk, .int .i64 vn, .string vstr, .slice pv vl.length cv, .int .i64 vr, .slice ps vs.length cs, .int .i64 n, .int .i64 l, .int .i64 tg, .int .i64 bi, .int .u8 s, .bool fu, .slice none 0 0, .slice none 0 0] 46))
  have g3 := blk_new (w1.alloc (.cells #[.int .u8 4, .int .i64 h, .int .u8 vk, .int .i64 vn, .string vstr, .slice pv vl.length cv, .int .i64 vr, .slice ps vs.length cs, .int .i64 n, .int .i64 l, .int .i64 tg, .int .i64 bi, .int .u8 s, .bool fu, .slice none 0 0, .slice none 0 0] 46)) (.cells baseZ 163)
  rw [World.size_alloc] at g3
  have hb2 : Below w1.heap.size w1 ((w1.alloc (.cells #[.int .u8 4, .int .i64 h, .int .u8 vk, .int .i64 vn, .string vstr, .slice pv vl.length cv, .int .i64 vr, .slice ps vs.length cs, .int .i64 n, .int .i64 l, .int .i64 tg, .int .i64 bi, .int .u8 s, .bool fu, .slice none 0 0, .slice none 0 0] 46)).alloc (.cells baseZ 163)) := ((Below.refl _ _).alloc (Nat.le_refl _) _).alloc (by simp) _
  have hst0 := stB_run (c' := #[.pointer (some ⟨p, 0, none⟩), .int .i64 r, .int .u8 4, .int .i64 h, .int .u8 vk, .int .i64 vn, .string vstr, .slice pv vl.length cv, .int .i64 vr, .slice ps vs.length cs, .int .i64 n, .int .i64 l, .int .i64 tg, .int .i64 bi, .int .u8 s, .bool fu, .slice none 0 0, .slice none 0 0]) g3 rfl rfl (by simp [go_sem, show (Value.pointer (some ⟨p, 0, none⟩)).oneCell' = true from rfl])
  have hbld := fun w0 : World => bld3_run w0 p r (x0 := .int .u8 4) (x1 := .int .i64 h) (x2 := .int .u8 vk) (x3 := .int .i64 vn) (x4 := .string vstr) (x5 := .slice pv vl.length cv) (x6 := .int .i64 vr) (x7 := .slice ps vs.length cs) (x8 := .int .i64 n) (x9 := .int .i64 l) (x10 := .int .i64 tg) (x11 := .int .i64 bi) (x12 := .int .u8 s) (x13 := .bool fu) (x14 := .slice none 0 0) (x15 := .slice none 0 0)
  have hg2 := (heap_setRow_other _ (w1.heap.size + 1) #[.pointer (some ⟨p, 0, none⟩), .int .i64 r, .int .u8 4, .int .i64 h, .int .u8 vk, .int .i64 vn, .string vstr, .slice pv vl.length cv, .int .i64 vr, .slice ps vs.length cs, .int .i64 n, .int .i64 l, .int .i64 tg, .int .i64 bi, .int .u8 s, .bool fu, .slice none 0 0, .slice none 0 0] w1.heap.size (by omega)).trans g2
  have hg3 := heap_setRow_at (c' := #[.pointer (some ⟨p, 0, none⟩), .int .i64 r, .int .u8 4, .int .i64 h, .int .u8 vk, .int .i64 vn, .string vstr, .slice pv vl.length cv, .int .i64 vr, .slice ps vs.length cs, .int .i64 n, .int .i64 l, .int .i64 tg, .int .i64 bi, .int .u8 s, .bool fu, .slice none 0 0, .slice none 0 0]) g3
  have hb3 := Below.setRow hb2 (Nat.le_succ _) #[.pointer (some ⟨p, 0, none⟩), .int .i64 r, .int .u8 4, .int .i64 h, .int .u8 vk, .int .i64 vn, .string vstr, .slice pv vl.length cv, .int .i64 vr, .slice ps vs.length cs, .int .i64 n, .int .i64 l, .int .i64 tg, .int .i64 bi, .int .u8 s, .bool fu, .slice none 0 0, .slice none 0 0]
  have hz3 : (((w1.alloc (.cells #[.int .u8 4, .int .i64 h, .int .u8 vk, .int .i64 vn, .string vstr, .slice pv vl.length cv, .int .i64 vr, .slice ps vs.length cs, .int .i64 n, .int .i64 l, .int .i64 tg, .int .i64 bi, .int .u8 s, .bool fu, .slice none 0 0, .slice none 0 0] 46)).alloc (.cells baseZ 163)).setRow (w1.heap.size + 1) #[.pointer (some ⟨p, 0, none⟩), .int .i64 r, .int .u8 4, .int .i64 h, .int .u8 vk, .int .i64 vn, .string vstr, .slice pv vl.length cv, .int .i64 vr, .slice ps vs.length cs, .int .i64 n, .int .i64 l, .int .i64 tg, .int .i64 bi, .int .u8 s, .bool fu, .slice none 0 0, .slice none 0 0]).heap.size = w1.heap.size + 2 := by simp [World.setRow]
  revert hal hst0 hg2 hg3 hb3 hz3
  clear g2 g3 hb2
  generalize World.setRow _ _ _ = w4
  generalize ((w1.alloc (.cells #[.int .u8 4, .int .i64 h, .int .u8 vk, .int .i64 vn, .string vstr, .slice pv vl.length cv, .int .i64 vr, .slice ps vs.length cs, .int .i64 n, .int .i64 l, .int .i64 tg, .int .i64 bi, .int .u8 s, .bool fu, .slice none 0 0, .slice none 0 0] 46)).alloc (.cells baseZ 163)) = w3
  intro hal hst hg2 hg3 hb3 hz3
  have c0 : w4.cell? ⟨w1.heap.size, 0, none⟩ = some (.int .u8 4) := by rw [cell_blk hg2]; rfl
  have hld := ldB_run hg3 rfl
  have hbk := bldK_4 w4 (y0 := .pointer (some ⟨p, 0, none⟩)) (y1 := .int .i64 r) (x0 := .int .u8 4) (x1 := .int .i64 h) (x2 := .int .u8 vk) (x3 := .int .i64 vn) (x4 := .string vstr) (x5 := .slice pv vl.length cv) (x6 := .int .i64 vr) (x7 := .slice ps vs.length cs) (x8 := .int .i64 n) (x9 := .int .i64 l) (x10 := .int .i64 tg) (x11 := .int .i64 bi) (x12 := .int .u8 s) (x13 := .bool fu) (x14 := .slice none 0 0) (x15 := .slice none 0 0)
  have hbox := boxK_4 w4 (cs := #[.pointer (some ⟨p, 0, none⟩), .int .i64 r, .int .u8 4, .int .i64 h, .int .u8 vk, .int .i64 vn, .string vstr, .slice pv vl.length cv, .int .i64 vr, .slice ps vs.length cs, .int .i64 n, .int .i64 l, .int .i64 tg, .int .i64 bi, .int .u8 s, .bool fu, .slice none 0 0, .slice none 0 0])
  have HX : Hid (∀ w5, w5 = w4.alloc (.cells #[.pointer (some ⟨p, 0, none⟩), .int .i64 r, .int .u8 4, .int .i64 h, .int .u8 vk, .int .i64 vn, .string vstr, .slice pv vl.length cv, .int .i64 vr, .slice ps vs.length cs, .int .i64 n, .int .i64 l, .int .i64 tg, .int .i64 bi, .int .u8 s, .bool fu, .slice none 0 0, .slice none 0 0] 167) → FoundB w p r ⟨4, h, ⟨vk, vn, vstr, vl, vr⟩, raw, vs, vals, n, l, tg, bi, s, fu, .slice none 0 0, .slice none 0 0⟩ 167 w4.heap.size w5) := by
    intro w5 e
    subst e
    have hbb : Below w1.heap.size w1 (w4.alloc (.cells #[.pointer (some ⟨p, 0, none⟩), .int .i64 r, .int .u8 4, .int .i64 h, .int .u8 vk, .int .i64 vn, .string vstr, .slice pv vl.length cv, .int .i64 vr, .slice ps vs.length cs, .int .i64 n, .int .i64 l, .int .i64 tg, .int .i64 bi, .int .u8 s, .bool fu, .slice none 0 0, .slice none 0 0] 167)) := hb3.alloc (by omega) _
    exact ⟨_, _, blk_new _ _, by have := hb1.size; omega, hb1.trans (hbb.mono hb1.size), hd1.on hbb, hn1, hn2, hn3⟩
  clear hg2 hg3 hb3 hb1 hd1 HW hn1 hn2 hn3 hz3
  go_wp2_with fail
  go_ret2
  exact ⟨_, rfl, HX.out _ rfl⟩
end Go.Proofs.YthaliljaglldjaaGreat
