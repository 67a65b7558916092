/- A part of the proof, several texts in one: CopyB. -/
import Derived.Test.YtifmifjbebpomaaGreatDoormAO
import Derived.Test.YtifmifjbebpomaaGreatDoormAI
import Derived.Test.YtifmifjbebpomaaGreatDoormAF
/- Copy of a light world: the walk. -/
namespace Go.Proofs.YtifmifjbebpomaaGreatDoor
open Go.RowKit Go.ChangeMaps Go.MapKept

theorem len_cons {α : Type} {l : List α} {n : Nat} (h : l.length = n + 1) : ∃ x t, l = x :: t ∧ t.length = n := by
  match l, h with
  | x :: t, h => exact ⟨x, t, rfl, by simpa using h⟩

/-- A thing without lists. -/
def Lite (t : Th) : Prop := ∃ k h vk vn n l tg bi s fu, t = lt k h vk vn n l tg bi s fu ∧ Plain vk vn
theorem box_what (w1 : World) (xs : Array Value) (hs : xs.size = 16) (h1 : xs.all (·.oneCell') = true) :
    ∃ w2, (stW (.pointer (some ⟨w1.heap.size, 0, none⟩)) (.agg xs)).run Tryz.prog (w1.alloc (.cells #[.int .u8 0, .int .i64 0, .int .u8 0, .int .i64 0, .string ⟨#[]⟩, .slice none 0 0, .int .i64 0, .slice none 0 0, .int .i64 0, .int .i64 0, .int .i64 0, .int .i64 0, .int .u8 0, .bool false, .slice none 0 0, .slice none 0 0] 73)) = .ok .skip w2 ∧
      Below w1.heap.size w1 w2 ∧ w2.heap[w1.heap.size]? = some (.cells xs 73 (0, 0)) :=
  ⟨_, storeWhat_blk (blk_new w1 _) rfl hs h1, Below.setRow ((Below.refl _ _).alloc (Nat.le_refl _) _) (Nat.le_refl _) _, heap_setRow_at (blk_new w1 _)⟩

theorem step_v {P : Program} {Q : Exit → Act → World → Prop} {R : World → World → Prop} {Φ : Value → World → Prop} {o : Oper} {a : Act} {w w' : World} (c : Bool) (v : Value) (hrun : (execOp a.eval o).run P w = .ok (.value v) w') (hR : R w w') (hφ : Φ (o.dst.elim undef fun _ => v) w')
    (hc : c = true → o.dst.isSome = true ∧ ∃ b, blkOf v = some b ∧ w.heap.size ≤ b ∧ b < w'.heap.size) :
    o.wp P a w (fun a' w' => ∃ v, a' = a.put o.dst v ∧ R w w' ∧ Φ (o.dst.elim undef fun _ => v) w' ∧ (c = true → o.dst.isSome = true ∧ ∃ b, blkOf v = some b ∧ w.heap.size ≤ b ∧ b < w'.heap.size)) Q := by
  unfold Oper.wp
  rw [hrun]
  exact ⟨v, rfl, hR, hφ, hc⟩

set_option maxHeartbeats 4000000 in
set_option maxRecDepth 100000 in
theorem Copy_W {w : World} {p : Nat} {M : WM} {F : Nat → Prop} (hW : IsW w p M F) (light : Hid (∀ r t, M.at r = some t → Lite t)) :
    Calls Tryz.prog 27 #[.pointer (some ⟨p, 0, none⟩)] w fun e w' => ∃ p' F', e = .returned (.pointer (some ⟨p', 0, none⟩)) ∧ IsW w' p' M F' ∧ (∀ b, F' b → w.heap.size ≤ b) ∧ Below w.heap.size w w' := by
  have hn := none_W hW
  have HN := (show Hid _ from hn)
  have hmm := @run_makeMap Tryz.prog
  have HW := (show Hid (IsW w p M F) from hW)
  obtain ⟨pa, pc, cg, cc, mg, mc, tb, fb, fn, bl, hV⟩ := hW
  have HV := (show Hid _ from hV)
  clear hV hn
  go_enter Tryz.func27, Tryz.ntmps27
  go_wp2_with fail
  refine Calls.mono HN.out ?_
  rintro e _ ⟨rfl, rfl⟩
  go_wp2_with fail
  refine wp_region_grow (by kernel_rfl) (by kernel_rfl) (fun a b => Below a.heap.size a b) (CPhi w p M pa pc cg cc mg mc) (fun i => i == 19 || i == 20) (fun w' => Below w.heap.size w w') (fun j v w w' => CPhi.stab j v w w') (fun _ _ h => h.size) below_drew (fun a b h hR => h.trans (hR.mono h.size)) ?_ ?_
  · intro i o a w1 ho hC hG
    have hi : i < 24 := (List.getElem?_eq_some_iff.1 ho).1
    have hV := HV.out.below hC
    match i, hi with
    | 0, _ =>
      cases ho
      have h0 : a.tmps.getD 0 undef = .pointer (some ⟨p, 0, none⟩) := hG.fr 0 (by simp)
      exact step_v _ (.pointer (some ⟨p, 0, none⟩)) (by rw [← h0]; rfl) (Below.refl _ _) rfl (fun h => by cases h)
    | 1, _ =>
      cases ho
      have h1 : a.tmps.getD 9 undef = .pointer (some ⟨p, 0, none⟩) := hG.dep ⟨0, .data⟩ (by simp) rfl _ rfl
      exact step_v _ (.pointer (some ⟨p, 0, none⟩)) (by simp [execOp, go_sem, Act.eval, h1]) (Below.refl _ _) rfl (fun h => by cases h)
    | 2, _ =>
      cases ho
      have h1 : a.tmps.getD 10 undef = .pointer (some ⟨p, 0, none⟩) := hG.dep ⟨1, .data⟩ (by simp) rfl _ rfl
      exact step_v _ (.pointer (some ⟨p, 0, none⟩)) (by simp [execOp, go_sem, Act.eval, h1]) (Below.refl _ _) rfl (fun h => by cases h)
    | 3, _ =>
      cases ho
      have h1 : a.tmps.getD 11 undef = .pointer (some ⟨p, 0, none⟩) := hG.dep ⟨2, .data⟩ (by simp) rfl _ rfl
      have hc := hV.c0
      exact step_v _ (.slice pa M.parents.length pc) (by simp [execOp, go_sem, Act.eval, h1, hc]) (Below.refl _ _) rfl (fun h => by cases h)
    | 4, _ =>
      cases ho
      have h1 : a.tmps.getD 12 undef = .slice pa M.parents.length pc := hG.dep ⟨3, .data⟩ (by simp) rfl _ rfl
      unfold Oper.wp
      simp [go_sem, callFunc, Act.eval, Tryz.func45, h1]
      refine (cloneSide_W HV.out w w1 hC.size hC).mono ?_
      rintro e w2 ⟨v, rfl, hv, hb⟩
      exact ⟨v, rfl, hb, hv⟩
    | 5, _ =>
      cases ho
      have h0 : a.tmps.getD 0 undef = .pointer (some ⟨p, 0, none⟩) := hG.fr 0 (by simp)
      exact step_v _ (.pointer (some ⟨p, 0, none⟩)) (by rw [← h0]; rfl) (Below.refl _ _) rfl (fun h => by cases h)
    | 6, _ =>
      cases ho
      have h1 : a.tmps.getD 14 undef = .pointer (some ⟨p, 0, none⟩) := hG.dep ⟨5, .data⟩ (by simp) rfl _ rfl
      exact step_v _ (.pointer (some ⟨p, 0, none⟩)) (by simp [execOp, go_sem, Act.eval, h1]) (Below.refl _ _) rfl (fun h => by cases h)
    | 7, _ =>
      cases ho
      have h1 : a.tmps.getD 15 undef = .pointer (some ⟨p, 0, none⟩) := hG.dep ⟨6, .data⟩ (by simp) rfl _ rfl
      exact step_v _ (.pointer (some ⟨p, 1, none⟩)) (by simp [execOp, go_sem, Act.eval, h1]) (Below.refl _ _) rfl (fun h => by cases h)
    | 8, _ =>
      cases ho
      have h1 : a.tmps.getD 16 undef = .pointer (some ⟨p, 1, none⟩) := hG.dep ⟨7, .data⟩ (by simp) rfl _ rfl
      have hc := hV.c1
      exact step_v _ (.slice (some ⟨cg, 0, none⟩) M.cuts.length cc) (by simp [execOp, go_sem, Act.eval, h1, hc]) (Below.refl _ _) rfl (fun h => by cases h)
    | 9, _ =>
      cases ho
      have h1 : a.tmps.getD 17 undef = .slice (some ⟨cg, 0, none⟩) M.cuts.length cc := hG.dep ⟨8, .data⟩ (by simp) rfl _ rfl
      unfold Oper.wp
      simp [go_sem, callFunc, Act.eval, Tryz.func66, h1]
      refine (cloneBool_W w1 cg cc _ (M.cuts.map Value.bool) (by simp) (fun j v h => hV.cut.cell h) (fun v h => by obtain ⟨x, -, rfl⟩ := List.mem_map.1 h; rfl) (by have := hV.ok.cuts; have := hV.ok.sides; simp; omega)).mono ?_
      rintro e w2 ⟨v, rfl, hv, hb⟩
      exact ⟨v, rfl, hb, CRow.of hC.size (by have := hV.ok.cuts; simp; omega) (by simpa using hv)⟩
    | 10, _ =>
      cases ho
      have h0 : a.tmps.getD 0 undef = .pointer (some ⟨p, 0, none⟩) := hG.fr 0 (by simp)
      exact step_v _ (.pointer (some ⟨p, 0, none⟩)) (by rw [← h0]; rfl) (Below.refl _ _) rfl (fun h => by cases h)
    | 11, _ =>
      cases ho
      have h1 : a.tmps.getD 19 undef = .pointer (some ⟨p, 0, none⟩) := hG.dep ⟨10, .data⟩ (by simp) rfl _ rfl
      exact step_v _ (.pointer (some ⟨p, 0, none⟩)) (by simp [execOp, go_sem, Act.eval, h1]) (Below.refl _ _) rfl (fun h => by cases h)
    | 12, _ =>
      cases ho
      have h1 : a.tmps.getD 20 undef = .pointer (some ⟨p, 0, none⟩) := hG.dep ⟨11, .data⟩ (by simp) rfl _ rfl
      exact step_v _ (.pointer (some ⟨p, 5, none⟩)) (by simp [execOp, go_sem, Act.eval, h1]) (Below.refl _ _) rfl (fun h => by cases h)
    | 13, _ =>
      cases ho
      have h1 : a.tmps.getD 21 undef = .pointer (some ⟨p, 5, none⟩) := hG.dep ⟨12, .data⟩ (by simp) rfl _ rfl
      have hc := hV.c5
      exact step_v _ (.slice (some ⟨mg, 0, none⟩) M.made.length mc) (by simp [execOp, go_sem, Act.eval, h1, hc]) (Below.refl _ _) rfl (fun h => by cases h)
    | 14, _ =>
      cases ho
      have h1 : a.tmps.getD 22 undef = .slice (some ⟨mg, 0, none⟩) M.made.length mc := hG.dep ⟨13, .data⟩ (by simp) rfl _ rfl
      unfold Oper.wp
      simp [go_sem, callFunc, Act.eval, Tryz.func67, h1]
      refine (cloneInt_W w1 mg mc _ (M.made.map (Value.int .i64)) (by simp) (fun j v h => hV.mad.cell h) (fun v h => by obtain ⟨x, -, rfl⟩ := List.mem_map.1 h; rfl) (by have := hV.ok.made; have := hV.ok.sides; simp; omega)).mono ?_
      rintro e w2 ⟨v, rfl, hv, hb⟩
      exact ⟨v, rfl, hb, CRow.of hC.size (by have := hV.ok.made; simp; omega) (by simpa using hv)⟩
    | 15, _ =>
      cases ho
      have h0 : a.tmps.getD 0 undef = .pointer (some ⟨p, 0, none⟩) := hG.fr 0 (by simp)
      exact step_v _ (.pointer (some ⟨p, 0, none⟩)) (by rw [← h0]; rfl) (Below.refl _ _) rfl (fun h => by cases h)
    | 16, _ =>
      cases ho
      have h1 : a.tmps.getD 24 undef = .pointer (some ⟨p, 0, none⟩) := hG.dep ⟨15, .data⟩ (by simp) rfl _ rfl
      exact step_v _ (.pointer (some ⟨p, 0, none⟩)) (by simp [execOp, go_sem, Act.eval, h1]) (Below.refl _ _) rfl (fun h => by cases h)
    | 17, _ =>
      cases ho
      have h1 : a.tmps.getD 25 undef = .pointer (some ⟨p, 0, none⟩) := hG.dep ⟨16, .data⟩ (by simp) rfl _ rfl
      exact step_v _ (.pointer (some ⟨p, 4, none⟩)) (by simp [execOp, go_sem, Act.eval, h1]) (Below.refl _ _) rfl (fun h => by cases h)
    | 18, _ =>
      cases ho
      have h1 : a.tmps.getD 26 undef = .pointer (some ⟨p, 4, none⟩) := hG.dep ⟨17, .data⟩ (by simp) rfl _ rfl
      have hc := hV.c4
      exact step_v _ (.int .i64 M.last) (by simp [execOp, go_sem, Act.eval, h1, hc]) (Below.refl _ _) rfl (fun h => by cases h)
    | 19, _ =>
      cases ho
      exact step_v _ (.map (some w1.heap.size)) (w' := w1.alloc (.map #[] 0)) (by simp [execOp, go_sem, hmm]) ((Below.refl _ _).alloc (Nat.le_refl _) _) ⟨w1.heap.size, rfl, hC.size, HasMap.made w1 _ _⟩ (fun _ => ⟨rfl, w1.heap.size, rfl, Nat.le_refl _, by simp⟩)
    | 20, _ =>
      cases ho
      exact step_v _ (.map (some w1.heap.size)) (w' := w1.alloc (.map #[] 0)) (by simp [execOp, go_sem, hmm]) ((Below.refl _ _).alloc (Nat.le_refl _) _) ⟨w1.heap.size, rfl, hC.size, HasMap.made w1 _ _⟩ (fun _ => ⟨rfl, w1.heap.size, rfl, Nat.le_refl _, by simp⟩)
    | 21, _ =>
      cases ho
      have h13 : NSides w M.parents (a.tmps.getD 13 undef) w1 := hG.dep ⟨4, .data⟩ (by simp) rfl _ rfl
      have h18 : CRow w 4 (M.cuts.map Value.bool) (a.tmps.getD 18 undef) w1 := hG.dep ⟨9, .data⟩ (by simp) rfl _ rfl
      have h23 : CRow w 3 (M.made.map (Value.int .i64)) (a.tmps.getD 23 undef) w1 := hG.dep ⟨14, .data⟩ (by simp) rfl _ rfl
      have h27 : a.tmps.getD 27 undef = .int .i64 M.last := hG.dep ⟨18, .data⟩ (by simp) rfl _ rfl
      have h28 : NMap w 24 (a.tmps.getD 28 undef) w1 := hG.dep ⟨19, .data⟩ (by simp) rfl _ rfl
      have h29 : NMap w 190 (a.tmps.getD 29 undef) w1 := hG.dep ⟨20, .data⟩ (by simp) rfl _ rfl
      have hne : blkOf (a.tmps.getD 28 undef) ≠ blkOf (a.tmps.getD 29 undef) := hG.ne ⟨19, .data⟩ (by simp) ⟨20, .data⟩ (by simp) rfl rfl (by decide) _ _ rfl rfl rfl rfl
      obtain ⟨pa', pc', e13, -⟩ := id h13
      obtain ⟨g18, cap18, e18, -⟩ := id h18
      obtain ⟨g23, cap23, e23, -⟩ := id h23
      obtain ⟨b28, e28, -⟩ := id h28
      obtain ⟨b29, e29, -⟩ := id h29
      refine step_v _ (.agg #[a.tmps.getD 13 undef, a.tmps.getD 18 undef, a.tmps.getD 28 undef, a.tmps.getD 29 undef, .int .i64 M.last, a.tmps.getD 23 undef]) ?_ (Below.refl _ _) ⟨_, _, _, _, _, rfl, h13, h18, h28, h29, h23, hne⟩ (fun h => by cases h)
      simp only [execOp, List.map_toArray, List.map_cons, List.map_nil, Act.eval, e13, e18, e23, h27, e28, e29]
      simp [go_sem]
    | 22, _ =>
      cases ho
      have h30 := hG.dep ⟨21, .data⟩ (by simp) rfl _ rfl
      obtain ⟨v0, v1, v2, v3, v5, h30, c0, c1, c2, c3, c5, hne⟩ := h30
      have h30 : a.tmps.getD 30 undef = .agg #[v0, v1, v2, v3, .int .i64 M.last, v5] := h30
      obtain ⟨pa', pc', e13, -⟩ := id c0
      obtain ⟨g18, cap18, e18, -⟩ := id c1
      obtain ⟨g23, cap23, e23, -⟩ := id c5
      obtain ⟨b28, e28, -⟩ := id c2
      obtain ⟨b29, e29, -⟩ := id c3
      have hb1 : Below w1.heap.size w1 (w1.alloc (.cells #[v0, v1, v2, v3, .int .i64 M.last, v5] 38)) := (Below.refl _ _).alloc (Nat.le_refl _) _
      refine step_v _ (.pointer (some ⟨w1.heap.size, 0, none⟩)) (w' := w1.alloc (.cells #[v0, v1, v2, v3, .int .i64 M.last, v5] 38)) ?_ hb1 ⟨w1.heap.size, v0, v1, v2, v3, v5, rfl, hC.size, blk_new _ _, c0.move hb1, c1.move hb1, c2.move hb1, c3.move hb1, c5.move hb1, hne⟩ (fun h => by cases h)
      subst e13 e18 e23 e28 e29
      simp [execOp, go_sem, Act.eval, h30]
    | 23, _ =>
      cases ho
      obtain ⟨q, v0, v1, v2, v3, v5, h31, hr⟩ := hG.dep ⟨22, .data⟩ (by simp) rfl _ rfl
      have h31 : a.tmps.getD 31 undef = .pointer (some ⟨q, 0, none⟩) := h31
      exact step_v _ (.pointer (some ⟨q, 0, none⟩)) (by rw [← h31]; rfl) (Below.refl _ _) ⟨q, v0, v1, v2, v3, v5, rfl, hr⟩ (fun h => by cases h)
  · intro a w1 hC hdf hsz hfr hphi hne
    obtain ⟨q, v0, v1, v2, v3, v5, h3, hq, hqb, c0, c1, c2, c3, c5, hne23⟩ := hphi 23 _ rfl
    have h0 : a.tmps.getD 0 undef = .pointer (some ⟨p, 0, none⟩) := hfr 0 (by simp)
    have h2 : a.tmps.getD 2 undef = .pointer none := hfr 2 (by simp)
    have h3 : a.tmps.getD 3 undef = .pointer (some ⟨q, 0, none⟩) := h3
    refine ‹∀ (a : Act) (w : World), Code.wp Tryz.prog _ _ a w → _› a w1 ?_
    obtain ⟨⟨l⟩, ds⟩ := a
    have hdf : ds = [] := hdf
    subst hdf
    have hsz : l.length = 54 + 1 := hsz
    clear hfr hphi hne
    obtain ⟨t0, l0, rfl, g0⟩ := len_cons hsz
    obtain ⟨t1, l1, rfl, g1⟩ := len_cons g0
    obtain ⟨t2, l2, rfl, g2⟩ := len_cons g1
    obtain ⟨t3, l3, rfl, g3⟩ := len_cons g2
    obtain ⟨t4, l4, rfl, g4⟩ := len_cons g3
    obtain ⟨t5, l5, rfl, g5⟩ := len_cons g4
    obtain ⟨t6, l6, rfl, g6⟩ := len_cons g5
    obtain ⟨t7, l7, rfl, g7⟩ := len_cons g6
    obtain ⟨t8, l8, rfl, g8⟩ := len_cons g7
    obtain ⟨t9, l9, rfl, g9⟩ := len_cons g8
    obtain ⟨t10, l10, rfl, g10⟩ := len_cons g9
    obtain ⟨t11, l11, rfl, g11⟩ := len_cons g10
    obtain ⟨t12, l12, rfl, g12⟩ := len_cons g11
    obtain ⟨t13, l13, rfl, g13⟩ := len_cons g12
    obtain ⟨t14, l14, rfl, g14⟩ := len_cons g13
    obtain ⟨t15, l15, rfl, g15⟩ := len_cons g14
    obtain ⟨t16, l16, rfl, g16⟩ := len_cons g15
    obtain ⟨t17, l17, rfl, g17⟩ := len_cons g16
    obtain ⟨t18, l18, rfl, g18⟩ := len_cons g17
    obtain ⟨t19, l19, rfl, g19⟩ := len_cons g18
    obtain ⟨t20, l20, rfl, g20⟩ := len_cons g19
    obtain ⟨t21, l21, rfl, g21⟩ := len_cons g20
    obtain ⟨t22, l22, rfl, g22⟩ := len_cons g21
    obtain ⟨t23, l23, rfl, g23⟩ := len_cons g22
    obtain ⟨t24, l24, rfl, g24⟩ := len_cons g23
    obtain ⟨t25, l25, rfl, g25⟩ := len_cons g24
    obtain ⟨t26, l26, rfl, g26⟩ := len_cons g25
    obtain ⟨t27, l27, rfl, g27⟩ := len_cons g26
    obtain ⟨t28, l28, rfl, g28⟩ := len_cons g27
    obtain ⟨t29, l29, rfl, g29⟩ := len_cons g28
    obtain ⟨t30, l30, rfl, g30⟩ := len_cons g29
    obtain ⟨t31, l31, rfl, g31⟩ := len_cons g30
    obtain ⟨t32, l32, rfl, g32⟩ := len_cons g31
    obtain ⟨t33, l33, rfl, g33⟩ := len_cons g32
    obtain ⟨t34, l34, rfl, g34⟩ := len_cons g33
    obtain ⟨t35, l35, rfl, g35⟩ := len_cons g34
    obtain ⟨t36, l36, rfl, g36⟩ := len_cons g35
    obtain ⟨t37, l37, rfl, g37⟩ := len_cons g36
    obtain ⟨t38, l38, rfl, g38⟩ := len_cons g37
    obtain ⟨t39, l39, rfl, g39⟩ := len_cons g38
    obtain ⟨t40, l40, rfl, g40⟩ := len_cons g39
    obtain ⟨t41, l41, rfl, g41⟩ := len_cons g40
    obtain ⟨t42, l42, rfl, g42⟩ := len_cons g41
    obtain ⟨t43, l43, rfl, g43⟩ := len_cons g42
    obtain ⟨t44, l44, rfl, g44⟩ := len_cons g43
    obtain ⟨t45, l45, rfl, g45⟩ := len_cons g44
    obtain ⟨t46, l46, rfl, g46⟩ := len_cons g45
    obtain ⟨t47, l47, rfl, g47⟩ := len_cons g46
    obtain ⟨t48, l48, rfl, g48⟩ := len_cons g47
    obtain ⟨t49, l49, rfl, g49⟩ := len_cons g48
    obtain ⟨t50, l50, rfl, g50⟩ := len_cons g49
    obtain ⟨t51, l51, rfl, g51⟩ := len_cons g50
    obtain ⟨t52, l52, rfl, g52⟩ := len_cons g51
    obtain ⟨t53, l53, rfl, g53⟩ := len_cons g52
    obtain ⟨t54, l54, rfl, g54⟩ := len_cons g53
    obtain rfl : l54 = [] := List.length_eq_zero_iff.1 g54
    have h0 : t0 = .pointer (some ⟨p, 0, none⟩) := h0
    have h2 : t2 = .pointer none := h2
    have h3 : t3 = .pointer (some ⟨q, 0, none⟩) := h3
    subst h0 h2 h3
    clear hdf hsz g0 g1 g2 g3 g4 g5 g6 g7 g8 g9 g10 g11 g12 g13 g14 g15 g16 g17 g18 g19 g20 g21 g22 g23 g24 g25 g26 g27 g28 g29 g30 g31 g32 g33 g34 g35 g36 g37 g38 g39 g40 g41 g42 g43 g44 g45 g46 g47 g48 g49 g50 g51 g52 g53 g54
    change Code.wp _ _ _ ({ tmps := #[.pointer (some ⟨p, 0, none⟩), t1, .pointer none, .pointer (some ⟨q, 0, none⟩), t4, t5, t6, t7, t8, t9, t10, t11, t12, t13, t14, t15, t16, t17, t18, t19, t20, t21, t22, t23, t24, t25, t26, t27, t28, t29, t30, t31, t32, t33, t34, t35, t36, t37, t38, t39, t40, t41, t42, t43, t44, t45, t46, t47, t48, t49, t50, t51, t52, t53, t54], defers := [] } : Act) _
    obtain ⟨pa', pc', rfl, s0⟩ := c0
    obtain ⟨g1, cap1, rfl, s11, s12, s13⟩ := c1
    obtain ⟨b2, rfl, s21, s22⟩ := c2
    obtain ⟨b3, rfl, s31, s32⟩ := c3
    obtain ⟨g5, cap5, rfl, s51, s52, s53⟩ := c5
    have HC1 : Hid (CW w w1 q M pa' pc' g1 cap1 b2 b3 g5 cap5 [] (fun _ => 0)) := {
      b := hC
      hq := by simpa using hqb
      pars := fun j x hx => by
        obtain ⟨b, o, e1, e2, e3, e4, e5⟩ := s0 j x hx
        exact ⟨b, o, e1, e2, e4, e5⟩
      cut := s13
      mad := s53
      things := s22.congr (fun key kl _ => by unfold thV; split <;> simp)
      facets := ⟨0, Nat.le_refl _, s32.congr (fun key kl _ => by unfold faV; split <;> (try split) <;> simp [Option.filter] <;> split <;> rfl)⟩
      blk := fun r t hr => by cases hr
      inj := fun r r' hr => by cases hr
      low := ⟨hq, s11, s51, s21, s31⟩
      ne := fun e => hne23 (by rw [e])
      nd := List.nodup_nil
      sub := fun r hr => by cases hr }
    clear s0 s11 s12 s13 s21 s22 s31 s32 s51 s52 s53 hqb hne23 hq
    have c2 := (HV.out.below hC).c2
    have Hth := (show Hid _ from (HV.out.below hC).things)
    have Hlt := (show Hid (w.heap.size ≤ w1.heap.size) from hC.size)
    clear hC
    go_wp2_with (first | (at_range; refine range_H rfl _ 34 122 rfl Tryz.underlying34 tb _ (thf M bl) rfl Hth.out ?_; intro w3 L cnt hrg hL hb3))
    have HC3 := (show Hid (CW w w3 q M pa' pc' g1 cap1 b2 b3 g5 cap5 [] (fun _ => 0)) from HC1.out.below hb3)
    have Hrg3 := (show Hid _ from hrg)
    have HS3 := (show Hid (Cs M L []) from Cs.start HV.out.ok hL)
    clear hrg hL hb3 c2 HC1 Hth h0 h3
    generalize w1.heap.size = r0 at *
    clear w1
    go_loopw [] (fun wr => ∃ L cnt vs bl', Hid (Rg wr tb r0 (thf M bl) L cnt) ∧ Hid (Cs M L vs) ∧ Hid (CW w wr q M pa' pc' g1 cap1 b2 b3 g5 cap5 vs bl')) (fun wr => wr.rangeLeft tb r0)
    case atStart => exact ⟨L, cnt, [], _, Hrg3, HS3, HC3⟩
    case round =>
      clear HC3 Hrg3 HS3
      obtain ⟨L, cnt, vs, bl', HG, HS, HC⟩ := hrel
      go_wp2_with (first | (at_next; refine next_H rfl _ rfl tb r0 (thf M bl) L cnt rfl HG.out ?_ ?_))
      · intro hdone
        have Hfin : Hid (IsW wr q M (fun b => w.heap.size ≤ b ∧ b < wr.heap.size) ∧ Below w.heap.size w wr) := by
          have hM := HV.out.ok
          refine ⟨HC.out.done hM (fun r t ht => ?_) (fun r t ht => ?_) (HS.out.done hM hdone).2 hM.len_le, HC.out.b⟩
          · obtain ⟨k, h, vk, vn, n, l, tg, bi, s, fu, rfl, -⟩ := light.out r t ht
            exact deep_lt _ _ _ _ _ _ _ _ _ _ _ _
          · exact (HS.out.mem r).2 ⟨by rw [ht]; rfl, hdone r (hM.at_wf ht)⟩
        clear hdone HG HS HC
        go_wp2_with fail
        go_ret
        exact ⟨q, _, rfl, Hfin.out.1, fun b hb => hb.1, Hfin.out.2⟩
      · intro x v w4 cnt' hx hLx hf hrg' hlt hk hsz hen
        obtain ⟨t, ht, rfl⟩ := thf_some hf
        obtain ⟨k, h, vk, vn, n, l, tg, bi, s, fu, rfl, hp⟩ := light.out x t ht
        have hC4 : CW w w4 q M pa' pc' g1 cap1 b2 b3 g5 cap5 vs bl' := by
          obtain ⟨o, h1, h2, h3⟩ := HG.out.obj
          exact HC.out.next h1 h2 h3 Hlt.out hk
        have hV4 := HV.out.below hC4.b
        have hld := loadWhat_blk (hV4.blk x _ ht).1 rfl
        rw [thc_lt] at hld
        have HC4 := (show Hid _ from hC4)
        have HS4 := (show Hid (Cs M (fun z => L z && !decide (z = x)) (vs ++ [x])) from HS.out.step ht hLx)
        have Hxv : Hid (x ∉ vs) := fun e => by
          have := ((HS.out.mem x).1 e).2
          rw [hLx] at this
          cases this
        have HG4 := (show Hid (Rg w4 tb r0 (thf M bl) (fun z => L z && !decide (z = x)) cnt') from hrg')
        have Ht := (show Hid (M.at x = some _) from ht)
        have Hp := (show Hid (Plain vk vn) from hp)
        have Hx := (show Hid ((Lit.int .i64 x).wf = true) from hx)
        have Hcnt := (show Hid (wr.rangeLeft tb r0 = cnt) from HG.out.left_eq)
        have Hlt' := (show Hid (cnt' < cnt) from hlt)
        clear hC4 hV4 hLx hf hrg' hlt hk hsz ht hp hx HG HS HC
        go_wp2_with fail
        refine (ownWhat_W _ k h vk vn n l tg bi s fu Hp.out).mono ?_
        rintro e w5 ⟨rfl, hb5⟩
        obtain ⟨w6, hst, hb6, hg6⟩ := box_what w5 #[.int .u8 k, .int .i64 h, .int .u8 vk, .int .i64 vn, .string ⟨#[]⟩, .slice none 0 0, .int .i64 0, .slice none 0 0, .int .i64 n, .int .i64 l, .int .i64 tg, .int .i64 bi, .int .u8 s, .bool fu, .slice none 0 0, .slice none 0 0] rfl (by simp [go_sem])
        have hb46 : Below w4.heap.size w4 w6 := hb5.trans (hb6.mono hb5.size)
        have hC6 := HC4.out.below hb46
        have hG6 := HG4.out.below hb46
        have hq2 := hC6.none.1
        obtain ⟨w7, hrun, hm7, ht7⟩ := hC6.things.store keyedRef Tryz.underlying34 (by
          have h1 := HS4.out.len
          have h2 := HV.out.ok.len_le
          have h3 := HV.out.ok.last.2
          simp only [List.length_append, List.length_cons, List.length_nil] at h1
          unfold maxLen
          omega) (key_ref Hx.out) (.pointer (some ⟨w5.heap.size, 0, none⟩)) (thV_snoc x w5.heap.size).1 (thV_snoc x w5.heap.size).2
        have hxn : (thV vs bl' (.int .i64 x)).isSome = false := by simp [thV, Hxv.out]
        rw [hxn] at hm7
        have hm7 : HasMap Tryz.prog 24 w7 b2 (thV (vs ++ [x]) (updB bl' x w5.heap.size)) (vs.length + 1) := hm7
        have hT7 := Turned.of ht7
        have hne2 : b2 ≠ b3 := HC4.out.ne
        have hg6' : ∃ es c, w6.heap[b2]? = some (.map es c) := hC6.things.is
        have hgb2 : w5.heap.size ≠ b2 := fun e => by
          obtain ⟨es, c, h⟩ := hg6'
          rw [← e, hg6] at h
          cases h
        have hq2' : q ≠ b2 := fun e => by
          obtain ⟨es, c, h⟩ := hg6'
          rw [← e, hC6.hq] at h
          cases h
        have hg7 : w7.heap[w5.heap.size]? = _ := (hT7.block hgb2).trans hg6
        have hq7 : w7.heap[q]? = _ := (hT7.block hq2').trans hC6.hq
        have d2 : w7.cell? ⟨q, 2, none⟩ = some (.map (some b2)) := by rw [cell_blk hq7]; rfl
        have d3 : w7.cell? ⟨q, 3, none⟩ = some (.map (some b3)) := by rw [cell_blk hq7]; rfl
        have k0 : w7.cell? ⟨w5.heap.size, 0, none⟩ = some (.int .u8 k) := by rw [cell_blk hg7]; rfl
        have k10 : w7.cell? ⟨w5.heap.size, 10, none⟩ = some (.int .i64 tg) := by rw [cell_blk hg7]; rfl
        have k12 : w7.cell? ⟨w5.heap.size, 12, none⟩ = some (.int .u8 s) := by rw [cell_blk hg7]; rfl
        have lk := hm7.look keyedRef Tryz.underlying34 (zeroPWhat w7) (key_ref Hx.out)
        rw [(thV_snoc x w5.heap.size).1] at lk
        have hM := HV.out.ok
        have hwf := hM.wf x _ Ht.out
        have hfac7 : MapLe Tryz.prog 190 w7 b3 (faV M vs) vs.length := hC6.facets.of_block (hT7.block (Ne.symm hne2))
        have hix : Calls Tryz.prog 68 #[.pointer (some ⟨q, 0, none⟩), .int .i64 x] w7 fun e w' => e = .returned (.tuple #[]) ∧ Hid ((Turned w7 w' b3 ∨ w' = w7) ∧ MapLe Tryz.prog 190 w' b3 (faV M (vs ++ [x])) (vs.length + 1)) := by
          by_cases h14 : k = 14
          · obtain ⟨m, hm, hfm⟩ := hfac7
            have hff := faV_facet (vs := vs) hM Ht.out h14
            refine (index_facet d2 d3 lk (by rw [k0, h14]) k10 k12 hwf.tgt (WalkArith.wf_u8 (by have := hwf.set; simp only at this; omega)) hfm (by
              have h1 := HS4.out.len
              have h2 := HV.out.ok.len_le
              have h3 := HV.out.ok.last.2
              simp only [List.length_append, List.length_cons, List.length_nil] at h1
              unfold maxLen
              omega) hff.1 hff.2).mono ?_
            rintro e w' ⟨rfl, h1, m', h2, h3⟩
            exact ⟨rfl, .inl h1, m', by omega, h3⟩
          · refine (index_plain d2 lk k0 (by simpa using h14)).mono ?_
            rintro e _ ⟨rfl, rfl⟩
            obtain ⟨m, hm, hfm⟩ := hfac7
            refine ⟨rfl, .inr rfl, m, by omega, ?_⟩
            rw [faV_plain hM Ht.out h14]
            exact hfm
        have Hix := (show Hid _ from hix)
        have Hadd : Hid (∀ w8, ((Turned w7 w8 b3 ∨ w8 = w7) ∧ MapLe Tryz.prog 190 w8 b3 (faV M (vs ++ [x])) (vs.length + 1)) → CW w w8 q M pa' pc' g1 cap1 b2 b3 g5 cap5 (vs ++ [x]) (updB bl' x w5.heap.size) ∧ Rg w8 tb r0 (thf M bl) (fun z => L z && !decide (z = x)) cnt') := by
          intro w8 h8
          refine ⟨HC4.out.add Ht.out Hxv.out hb46 hb5.size (by rw [thc_lt]; exact hg6) hT7 hm7 h8, ?_⟩
          obtain ⟨o, o1, o2, o3⟩ := hG6.obj
          have n1 : r0 ≠ b2 := fun e => by
            obtain ⟨es, c, h⟩ := hg6'
            rw [e, h] at o1
            exact o3 _ _ (Option.some.inj o1).symm
          have n2 : r0 ≠ b3 := fun e => by
            obtain ⟨es, c, h⟩ := hC6.facets.is
            rw [e, h] at o1
            exact o3 _ _ (Option.some.inj o1).symm
          have tlt : tb < w.heap.size := HV.out.lt _ HV.out.own.2.2.2.1
          have n3 : tb ≠ b2 := by have := HC4.out.low.2.2.2.1; omega
          have n4 : tb ≠ b3 := by have := HC4.out.low.2.2.2.2; omega
          have hG7 := hG6.of_blocks (hT7.block n3) (hT7.block n1)
          rcases h8.1 with h | h
          · exact hG7.of_blocks (h.block n4) (h.block n2)
          · rw [h]; exact hG7
        clear hb46 hC6 hG6 hm7 ht7 hT7 hne2 hg6' hgb2 hq2' hg7 hq7 d2 d3 k0 k10 k12 lk hM hwf hfac7 hix hxn hb5 hb6 hg6
        go_wp2_with fail
        refine Calls.mono Hix.out ?_
        rintro e w8 ⟨rfl, h8⟩
        have HR8 := (show Hid _ from Hadd.out w8 h8.out)
        clear h8 Hadd Hix hrun hq2 hst hld hen
        go_wp2_with fail
        go_roundw
        case rel => exact ⟨_, cnt', vs ++ [x], _, HR8.out.2, HS4.out, HR8.out.1⟩
        case measure =>
          rw [Hcnt.out, HR8.out.2.left_eq]
          exact Hlt'.out
end Go.Proofs.YtifmifjbebpomaaGreatDoor
