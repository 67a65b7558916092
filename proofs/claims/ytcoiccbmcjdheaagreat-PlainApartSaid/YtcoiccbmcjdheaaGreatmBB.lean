/- A part of the proof, several texts in one: PlDA. -/
import Derived.Test.YtcoiccbmcjdheaaGreatmBA
/- plain.Do at some kinds and abilities. Printed by gen_do.py. -/
namespace Go.Proofs.YtcoiccbmcjdheaaGreat
open Go.RowKit Go.ChangeMaps Go.MapKept
variable {w : World} {p : Nat} {M : WM} {F : Nat → Prop}

attribute [local go_sem ↓] execOp_stF execOp_stVd in
set_option maxHeartbeats 4000000 in
set_option maxRecDepth 20000 in
theorem Do_3_8 (hW : IsW w p M F) {r : Int} (hr : (Lit.int .i64 r).wf = true) {t : Th} (ht : M.at r = some t) (hf : Fair t) (hk : t.kind = 3) {F1 : Nat → Prop} {v : Val} {raw : Value} (hS : SlAt w F1 raw v.l) (hm : mayV v = true) (hkn : ∀ r ∈ refsV v, (Lit.int .i64 r).wf = true ∧ (M.at r).isSome = true)
    {Post : World → Val → Value → Int → World → Prop} {Post' : Val → Value → Int → World → Prop}
    (hP : ∀ w0 v raw n w1 w2 y, w.heap.size ≤ y → y < w0.heap.size → Keeps (fun z => z = y) w1 w2 → Post w0 v raw n w1 → Post' v raw n w2)
    (hM : ∀ w0 w' b, Below w.heap.size w w0 → FoundB w0 p r t 131 b w' → Calls Tryz.prog 147 #[.pointer (some ⟨b, 0, none⟩), .agg (vcs v raw)] w' (MethPost w' F b (Post w0))) :
    Calls Tryz.prog 38 #[.pointer (some ⟨p, 0, none⟩), .int .i64 r, .int .u8 8, .agg (vcs v raw)] w fun e w' => ∃ v' pv cv n, e = .returned (.tuple #[.agg (vcs v' (.slice pv v'.l.length cv)), .int .i64 n]) ∧ Keeps F w w' ∧ Post' v' (.slice pv v'.l.length cv) n w' := by
  obtain ⟨pa, c, rfl⟩ := hS.form
  have HW : Hid (IsW w p M F) := hW
  have Ht : Hid (M.at r = some t ∧ Fair t ∧ t.kind = 3) := ⟨ht, hf, hk⟩
  have HV : Hid (SlAt w F1 (.slice pa v.l.length c) v.l ∧ mayV v = true ∧ (∀ r ∈ refsV v, (Lit.int .i64 r).wf = true ∧ (M.at r).isSome = true)) := ⟨hS, hm, hkn⟩
  have HM := (show Hid _ from hM)
  have HP := (show Hid _ from hP)
  have hmf : ∀ (fn : Fn) (first cap : Array Value) (w : World), (Instr.makeFunc fn first cap).run Tryz.prog w = .ok (.func fn first cap) w := fun _ _ _ _ => rfl
  clear hW ht hf hk hS hm hkn hM hP
  obtain ⟨vk, vn, vstr, vl, vr⟩ := v
  simp only [vcs] at HM ⊢
  obtain ⟨w4, hst, HX⟩ : ∃ w4, (stF (.pointer (some ⟨w.heap.size + 1 + 1, 0, none⟩)) (.agg actsF)).run Tryz.prog (((w.alloc (.cells #[.int .u8 vk, .int .i64 vn, .string vstr, .slice pa vl.length c, .int .i64 vr] 34)).alloc (.cells #[.int .u8 0, .int .i64 0, .string ⟨#[]⟩, .slice none 0 0, .int .i64 0] 34)).alloc (.cells #[.nilFunc, .nilFunc, .nilFunc, .nilFunc] 119)) = .ok .skip w4 ∧
      Hid (Below w.heap.size w w4 ∧ w4.heap[w.heap.size]? = some (.cells #[.int .u8 vk, .int .i64 vn, .string vstr, .slice pa vl.length c, .int .i64 vr] 34 (0, 0)) ∧ w4.heap[w.heap.size + 1]? = some (.cells zV 34 (0, 0)) ∧ w4.heap[w.heap.size + 2]? = some (.cells actsF 119 (0, 0))) := by
    have g3 := blk_new ((w.alloc (.cells #[.int .u8 vk, .int .i64 vn, .string vstr, .slice pa vl.length c, .int .i64 vr] 34)).alloc (.cells #[.int .u8 0, .int .i64 0, .string ⟨#[]⟩, .slice none 0 0, .int .i64 0] 34)) (.cells #[.nilFunc, .nilFunc, .nilFunc, .nilFunc] 119)
    rw [World.size_alloc, World.size_alloc] at g3
    refine ⟨_, stF_run (c' := actsF) g3 rfl rfl (by simp only [actsF]; simp; exact ⟨rfl, rfl, rfl, rfl⟩), Below.setRow (((((Below.refl _ _).alloc (Nat.le_refl _) _).alloc (by simp) _).alloc (by simp; omega) _)) (by omega) _, ?_, ?_, heap_setRow_at g3⟩
    · rw [heap_setRow_other _ _ _ _ (by omega)]
      exact blk_old _ _ (blk2_old _ _ _)
    · rw [heap_setRow_other _ _ _ _ (by omega)]
      exact blk_old _ _ (blk2_new _ _ _)
  simp only [actsF] at hst
  go_enter Tryz.func38, Tryz.ntmps38
  go_wp2_with fail
  refine (Place8_W _).mono ?_
  rintro e w5 ⟨rfl, hb5⟩
  have HB5 := (show Hid (Below w.heap.size w w5 ∧ w5.heap[w.heap.size]? = some (.cells #[.int .u8 vk, .int .i64 vn, .string vstr, .slice pa vl.length c, .int .i64 vr] 34 (0, 0)) ∧ w5.heap[w.heap.size + 1]? = some (.cells zV 34 (0, 0)) ∧ w5.heap[w.heap.size + 2]? = some (.cells actsF 119 (0, 0))) from ⟨HX.out.1.trans (hb5.mono HX.out.1.size), below_blk hb5 HX.out.2.1, below_blk hb5 HX.out.2.2.1, below_blk hb5 HX.out.2.2.2⟩)
  clear hb5 HX hst hmf
  obtain ⟨⟨a0, a1, a2, a3, a4⟩, -⟩ := cells5 HB5.out.2.1
  go_wp2_with fail
  refine (there_W (HW.out.below HB5.out.1)).mono ?_
  rintro e _ ⟨rfl, rfl⟩
  go_wp2_with fail
  have hmay := vMay_G (v := ⟨vk, vn, vstr, vl, vr⟩) (HV.out.1.on HB5.out.1)
  rw [HV.out.2.1] at hmay
  refine hmay.mono ?_
  rintro e w6 ⟨rfl, hb6⟩
  have HB6 := (show Hid (Below w.heap.size w w6 ∧ w6.heap[w.heap.size]? = some (.cells #[.int .u8 vk, .int .i64 vn, .string vstr, .slice pa vl.length c, .int .i64 vr] 34 (0, 0)) ∧ w6.heap[w.heap.size + 1]? = some (.cells zV 34 (0, 0)) ∧ w6.heap[w.heap.size + 2]? = some (.cells actsF 119 (0, 0))) from ⟨HB5.out.1.trans (hb6.mono HB5.out.1.size), below_blk hb6 HB5.out.2.1, below_blk hb6 HB5.out.2.2.1, below_blk hb6 HB5.out.2.2.2⟩)
  clear hb6 hmay a0 a1 a2 a3 a4 HB5
  obtain ⟨⟨a0, a1, a2, a3, a4⟩, -⟩ := cells5 HB6.out.2.1
  go_wp2_with fail
  have hIs := Is_W (HW.out.below HB6.out.1) hr
  rw [Ht.out.1] at hIs
  refine hIs.mono ?_
  rintro e _ ⟨rfl, rfl⟩
  go_wp2_with fail
  refine (known_G (HW.out.below HB6.out.1) ⟨vk, vn, vstr, vl, vr⟩ _ (HV.out.1.on HB6.out.1) HV.out.2.2).mono ?_
  rintro e w7 ⟨rfl, hb7⟩
  have HB7 := (show Hid (Below w.heap.size w w7 ∧ w7.heap[w.heap.size]? = some (.cells #[.int .u8 vk, .int .i64 vn, .string vstr, .slice pa vl.length c, .int .i64 vr] 34 (0, 0)) ∧ w7.heap[w.heap.size + 1]? = some (.cells zV 34 (0, 0)) ∧ w7.heap[w.heap.size + 2]? = some (.cells actsF 119 (0, 0))) from ⟨HB6.out.1.trans (hb7.mono HB6.out.1.size), below_blk hb7 HB6.out.2.1, below_blk hb7 HB6.out.2.2.1, below_blk hb7 HB6.out.2.2.2⟩)
  clear hb7 hIs a0 a1 a2 a3 a4 HB6
  go_wp2_with fail
  refine (find_3 (HW.out.below HB7.out.1) hr Ht.out.1 Ht.out.2.1 Ht.out.2.2).mono ?_
  rintro e w8 ⟨b, rfl, hfd⟩
  have hb8 : Below w7.heap.size w7 w8 := by obtain ⟨_, _, -, -, h, -⟩ := hfd; exact h
  have HB8 := (show Hid (Below w.heap.size w w8.drew ∧ w8.drew.heap[w.heap.size + 1]? = some (.cells zV 34 (0, 0)) ∧ b ≠ w.heap.size + 1 ∧ w.heap.size ≤ b ∧ w.heap.size + 1 < w7.heap.size) from ⟨(HB7.out.1.trans (hb8.mono HB7.out.1.size)).drew, below_blk hb8 HB7.out.2.2.1, by
    obtain ⟨_, _, -, h, -⟩ := hfd
    have := blk_lt HB7.out.2.2.1
    omega, by
    obtain ⟨_, _, -, h, -⟩ := hfd
    have := HB7.out.1.size
    omega, blk_lt HB7.out.2.2.1⟩)
  have d3 : w8.drew.cell? ⟨w.heap.size + 1 + 1, 3, none⟩ = some (.func (.methodOf 90 "postern/plain.give") #[] #[]) := by
    have := below_blk hb8 HB7.out.2.2.2
    rw [cell_blk (blk_drew this)]
    rfl
  obtain ⟨⟨a0, a1, a2, a3, a4⟩, -⟩ := cells5 (blk_drew (below_blk hb8 HB7.out.2.1))
  have HC := (show Hid _ from HM.out w7 w8.drew b HB7.out.1 hfd.drew)
  clear hfd hb8 HB7 HM
  go_wp2_with fail
  refine wp_region_pivotS 5 2 (by kernel_rfl) (by kernel_rfl) ?_
  simp only [List.take_succ_cons, List.take_zero, List.drop_succ_cons, List.drop_zero]
  repeat still_step
  refine wpStill_nil ?_
  go_wp2_with fail
  refine Calls.mono HC.out ?_
  rintro e w9 ⟨v', pv, cv, n', rfl, hk9, hp9⟩
  have hlt := HW.out.lt
  have hz := blk_lt HB8.out.2.1
  have hg9 := (hk9.block _ hz (fun h => by
    rcases h with h | h
    · have := hlt _ h; omega
    · exact HB8.out.2.2.1 h.symm)).trans HB8.out.2.1
  obtain ⟨vk', vn', vstr', vl', vr'⟩ := v'
  have hst := storeV_blk (c' := #[.int .u8 vk', .int .i64 vn', .string vstr', .slice pv vl'.length cv, .int .i64 vr']) hg9 rfl rfl (by simp [go_sem])
  have HZ := (show Hid _ from heap_setRow_at (c' := #[.int .u8 vk', .int .i64 vn', .string vstr', .slice pv vl'.length cv, .int .i64 vr']) hg9)
  have HE : Hid (Keeps F w (w9.setRow (w.heap.size + 1) #[.int .u8 vk', .int .i64 vn', .string vstr', .slice pv vl'.length cv, .int .i64 vr']) ∧ Post' ⟨vk', vn', vstr', vl', vr'⟩ (.slice pv vl'.length cv) n' (w9.setRow (w.heap.size + 1) #[.int .u8 vk', .int .i64 vn', .string vstr', .slice pv vl'.length cv, .int .i64 vr'])) := by
    have hks : Keeps (fun z => z = w.heap.size + 1) w9 (w9.setRow (w.heap.size + 1) #[.int .u8 vk', .int .i64 vn', .string vstr', .slice pv vl'.length cv, .int .i64 vr']) := ⟨rfl, rfl, rfl, by simp [World.setRow], fun k _ hk => heap_setRow_other _ _ _ _ hk⟩
    refine ⟨?_, HP.out _ _ _ _ _ _ (w.heap.size + 1) (by omega) HB8.out.2.2.2.2 hks hp9⟩
    have h1 : Keeps F w w9 := ((Keeps.of_below (S := fun _ => False) HB8.out.1).trans hk9 (T := fun y => F y ∨ y = b) (fun _ _ h => h.elim) (fun _ _ h => h)).mono fun x hx h => by
      rcases h with h | h
      · exact h
      · have := HB8.out.2.2.2.1
        omega
    exact h1.trans hks (fun _ _ h => h) (fun x hx h => by omega)
  clear hk9 hp9 hg9 hz hlt HC HP d3 a0 a1 a2 a3 a4
  simp only [vcs]
  go_wp2_with fail
  change wpStill _ _ _ _ _ _
  repeat still_step
  refine wpStill_nil ?_
  go_wp2_with fail
  obtain ⟨⟨r0, r1, r2, r3, r4⟩, -⟩ := cells5 HZ.out
  refine bodyPost_ret (v := .tuple #[.agg #[.int .u8 vk', .int .i64 vn', .string vstr', .slice pv vl'.length cv, .int .i64 vr'], .int .i64 n']) (by simp [results, Tryz.results38, go_sem, r0, r1, r2, r3, r4]) rfl ⟨⟨vk', vn', vstr', vl', vr'⟩, pv, cv, n', rfl, HE.out.1, HE.out.2⟩
attribute [local go_sem ↓] execOp_stF execOp_stVd in
set_option maxHeartbeats 4000000 in
set_option maxRecDepth 20000 in
theorem Do_3_1 (hW : IsW w p M F) {r : Int} (hr : (Lit.int .i64 r).wf = true) {t : Th} (ht : M.at r = some t) (hf : Fair t) (hk : t.kind = 3) {F1 : Nat → Prop} {v : Val} {raw : Value} (hS : SlAt w F1 raw v.l) (hm : mayV v = true) (hkn : ∀ r ∈ refsV v, (Lit.int .i64 r).wf = true ∧ (M.at r).isSome = true)
    {Post : World → Val → Value → Int → World → Prop} {Post' : Val → Value → Int → World → Prop}
    (hP : ∀ w0 v raw n w1 w2 y, w.heap.size ≤ y → y < w0.heap.size → Keeps (fun z => z = y) w1 w2 → Post w0 v raw n w1 → Post' v raw n w2)
    (hM : ∀ w0 w' b, Below w.heap.size w w0 → FoundB w0 p r t 131 b w' → Calls Tryz.prog 146 #[.pointer (some ⟨b, 0, none⟩), .agg (vcs v raw)] w' (MethPost w' F b (Post w0))) :
    Calls Tryz.prog 38 #[.pointer (some ⟨p, 0, none⟩), .int .i64 r, .int .u8 1, .agg (vcs v raw)] w fun e w' => ∃ v' pv cv n, e = .returned (.tuple #[.agg (vcs v' (.slice pv v'.l.length cv)), .int .i64 n]) ∧ Keeps F w w' ∧ Post' v' (.slice pv v'.l.length cv) n w' := by
  obtain ⟨pa, c, rfl⟩ := hS.form
  have HW : Hid (IsW w p M F) := hW
  have Ht : Hid (M.at r = some t ∧ Fair t ∧ t.kind = 3) := ⟨ht, hf, hk⟩
  have HV : Hid (SlAt w F1 (.slice pa v.l.length c) v.l ∧ mayV v = true ∧ (∀ r ∈ refsV v, (Lit.int .i64 r).wf = true ∧ (M.at r).isSome = true)) := ⟨hS, hm, hkn⟩
  have HM := (show Hid _ from hM)
  have HP := (show Hid _ from hP)
  have hmf : ∀ (fn : Fn) (first cap : Array Value) (w : World), (Instr.makeFunc fn first cap).run Tryz.prog w = .ok (.func fn first cap) w := fun _ _ _ _ => rfl
  clear hW ht hf hk hS hm hkn hM hP
  obtain ⟨vk, vn, vstr, vl, vr⟩ := v
  simp only [vcs] at HM ⊢
  obtain ⟨w4, hst, HX⟩ : ∃ w4, (stF (.pointer (some ⟨w.heap.size + 1 + 1, 0, none⟩)) (.agg actsF)).run Tryz.prog (((w.alloc (.cells #[.int .u8 vk, .int .i64 vn, .string vstr, .slice pa vl.length c, .int .i64 vr] 34)).alloc (.cells #[.int .u8 0, .int .i64 0, .string ⟨#[]⟩, .slice none 0 0, .int .i64 0] 34)).alloc (.cells #[.nilFunc, .nilFunc, .nilFunc, .nilFunc] 119)) = .ok .skip w4 ∧
      Hid (Below w.heap.size w w4 ∧ w4.heap[w.heap.size]? = some (.cells #[.int .u8 vk, .int .i64 vn, .string vstr, .slice pa vl.length c, .int .i64 vr] 34 (0, 0)) ∧ w4.heap[w.heap.size + 1]? = some (.cells zV 34 (0, 0)) ∧ w4.heap[w.heap.size + 2]? = some (.cells actsF 119 (0, 0))) := by
    have g3 := blk_new ((w.alloc (.cells #[.int .u8 vk, .int .i64 vn, .string vstr, .slice pa vl.length c, .int .i64 vr] 34)).alloc (.cells #[.int .u8 0, .int .i64 0, .string ⟨#[]⟩, .slice none 0 0, .int .i64 0] 34)) (.cells #[.nilFunc, .nilFunc, .nilFunc, .nilFunc] 119)
    rw [World.size_alloc, World.size_alloc] at g3
    refine ⟨_, stF_run (c' := actsF) g3 rfl rfl (by simp only [actsF]; simp; exact ⟨rfl, rfl, rfl, rfl⟩), Below.setRow (((((Below.refl _ _).alloc (Nat.le_refl _) _).alloc (by simp) _).alloc (by simp; omega) _)) (by omega) _, ?_, ?_, heap_setRow_at g3⟩
    · rw [heap_setRow_other _ _ _ _ (by omega)]
      exact blk_old _ _ (blk2_old _ _ _)
    · rw [heap_setRow_other _ _ _ _ (by omega)]
      exact blk_old _ _ (blk2_new _ _ _)
  simp only [actsF] at hst
  go_enter Tryz.func38, Tryz.ntmps38
  go_wp2_with fail
  refine (Place1_W _).mono ?_
  rintro e w5 ⟨rfl, hb5⟩
  have HB5 := (show Hid (Below w.heap.size w w5 ∧ w5.heap[w.heap.size]? = some (.cells #[.int .u8 vk, .int .i64 vn, .string vstr, .slice pa vl.length c, .int .i64 vr] 34 (0, 0)) ∧ w5.heap[w.heap.size + 1]? = some (.cells zV 34 (0, 0)) ∧ w5.heap[w.heap.size + 2]? = some (.cells actsF 119 (0, 0))) from ⟨HX.out.1.trans (hb5.mono HX.out.1.size), below_blk hb5 HX.out.2.1, below_blk hb5 HX.out.2.2.1, below_blk hb5 HX.out.2.2.2⟩)
  clear hb5 HX hst hmf
  obtain ⟨⟨a0, a1, a2, a3, a4⟩, -⟩ := cells5 HB5.out.2.1
  go_wp2_with fail
  refine (there_W (HW.out.below HB5.out.1)).mono ?_
  rintro e _ ⟨rfl, rfl⟩
  go_wp2_with fail
  have hmay := vMay_G (v := ⟨vk, vn, vstr, vl, vr⟩) (HV.out.1.on HB5.out.1)
  rw [HV.out.2.1] at hmay
  refine hmay.mono ?_
  rintro e w6 ⟨rfl, hb6⟩
  have HB6 := (show Hid (Below w.heap.size w w6 ∧ w6.heap[w.heap.size]? = some (.cells #[.int .u8 vk, .int .i64 vn, .string vstr, .slice pa vl.length c, .int .i64 vr] 34 (0, 0)) ∧ w6.heap[w.heap.size + 1]? = some (.cells zV 34 (0, 0)) ∧ w6.heap[w.heap.size + 2]? = some (.cells actsF 119 (0, 0))) from ⟨HB5.out.1.trans (hb6.mono HB5.out.1.size), below_blk hb6 HB5.out.2.1, below_blk hb6 HB5.out.2.2.1, below_blk hb6 HB5.out.2.2.2⟩)
  clear hb6 hmay a0 a1 a2 a3 a4 HB5
  obtain ⟨⟨a0, a1, a2, a3, a4⟩, -⟩ := cells5 HB6.out.2.1
  go_wp2_with fail
  have hIs := Is_W (HW.out.below HB6.out.1) hr
  rw [Ht.out.1] at hIs
  refine hIs.mono ?_
  rintro e _ ⟨rfl, rfl⟩
  go_wp2_with fail
  refine (known_G (HW.out.below HB6.out.1) ⟨vk, vn, vstr, vl, vr⟩ _ (HV.out.1.on HB6.out.1) HV.out.2.2).mono ?_
  rintro e w7 ⟨rfl, hb7⟩
  have HB7 := (show Hid (Below w.heap.size w w7 ∧ w7.heap[w.heap.size]? = some (.cells #[.int .u8 vk, .int .i64 vn, .string vstr, .slice pa vl.length c, .int .i64 vr] 34 (0, 0)) ∧ w7.heap[w.heap.size + 1]? = some (.cells zV 34 (0, 0)) ∧ w7.heap[w.heap.size + 2]? = some (.cells actsF 119 (0, 0))) from ⟨HB6.out.1.trans (hb7.mono HB6.out.1.size), below_blk hb7 HB6.out.2.1, below_blk hb7 HB6.out.2.2.1, below_blk hb7 HB6.out.2.2.2⟩)
  clear hb7 hIs a0 a1 a2 a3 a4 HB6
  go_wp2_with fail
  refine (find_3 (HW.out.below HB7.out.1) hr Ht.out.1 Ht.out.2.1 Ht.out.2.2).mono ?_
  rintro e w8 ⟨b, rfl, hfd⟩
  have hb8 : Below w7.heap.size w7 w8 := by obtain ⟨_, _, -, -, h, -⟩ := hfd; exact h
  have HB8 := (show Hid (Below w.heap.size w w8.drew ∧ w8.drew.heap[w.heap.size + 1]? = some (.cells zV 34 (0, 0)) ∧ b ≠ w.heap.size + 1 ∧ w.heap.size ≤ b ∧ w.heap.size + 1 < w7.heap.size) from ⟨(HB7.out.1.trans (hb8.mono HB7.out.1.size)).drew, below_blk hb8 HB7.out.2.2.1, by
    obtain ⟨_, _, -, h, -⟩ := hfd
    have := blk_lt HB7.out.2.2.1
    omega, by
    obtain ⟨_, _, -, h, -⟩ := hfd
    have := HB7.out.1.size
    omega, blk_lt HB7.out.2.2.1⟩)
  have d3 : w8.drew.cell? ⟨w.heap.size + 1 + 1, 0, none⟩ = some (.func (.methodOf 90 "postern/plain.get") #[] #[]) := by
    have := below_blk hb8 HB7.out.2.2.2
    rw [cell_blk (blk_drew this)]
    rfl
  obtain ⟨⟨a0, a1, a2, a3, a4⟩, -⟩ := cells5 (blk_drew (below_blk hb8 HB7.out.2.1))
  have HC := (show Hid _ from HM.out w7 w8.drew b HB7.out.1 hfd.drew)
  clear hfd hb8 HB7 HM
  go_wp2_with fail
  refine wp_region_pivotS 5 2 (by kernel_rfl) (by kernel_rfl) ?_
  simp only [List.take_succ_cons, List.take_zero, List.drop_succ_cons, List.drop_zero]
  repeat still_step
  refine wpStill_nil ?_
  go_wp2_with fail
  refine Calls.mono HC.out ?_
  rintro e w9 ⟨v', pv, cv, n', rfl, hk9, hp9⟩
  have hlt := HW.out.lt
  have hz := blk_lt HB8.out.2.1
  have hg9 := (hk9.block _ hz (fun h => by
    rcases h with h | h
    · have := hlt _ h; omega
    · exact HB8.out.2.2.1 h.symm)).trans HB8.out.2.1
  obtain ⟨vk', vn', vstr', vl', vr'⟩ := v'
  have hst := storeV_blk (c' := #[.int .u8 vk', .int .i64 vn', .string vstr', .slice pv vl'.length cv, .int .i64 vr']) hg9 rfl rfl (by simp [go_sem])
  have HZ := (show Hid _ from heap_setRow_at (c' := #[.int .u8 vk', .int .i64 vn', .string vstr', .slice pv vl'.length cv, .int .i64 vr']) hg9)
  have HE : Hid (Keeps F w (w9.setRow (w.heap.size + 1) #[.int .u8 vk', .int .i64 vn', .string vstr', .slice pv vl'.length cv, .int .i64 vr']) ∧ Post' ⟨vk', vn', vstr', vl', vr'⟩ (.slice pv vl'.length cv) n' (w9.setRow (w.heap.size + 1) #[.int .u8 vk', .int .i64 vn', .string vstr', .slice pv vl'.length cv, .int .i64 vr'])) := by
    have hks : Keeps (fun z => z = w.heap.size + 1) w9 (w9.setRow (w.heap.size + 1) #[.int .u8 vk', .int .i64 vn', .string vstr', .slice pv vl'.length cv, .int .i64 vr']) := ⟨rfl, rfl, rfl, by simp [World.setRow], fun k _ hk => heap_setRow_other _ _ _ _ hk⟩
    refine ⟨?_, HP.out _ _ _ _ _ _ (w.heap.size + 1) (by omega) HB8.out.2.2.2.2 hks hp9⟩
    have h1 : Keeps F w w9 := ((Keeps.of_below (S := fun _ => False) HB8.out.1).trans hk9 (T := fun y => F y ∨ y = b) (fun _ _ h => h.elim) (fun _ _ h => h)).mono fun x hx h => by
      rcases h with h | h
      · exact h
      · have := HB8.out.2.2.2.1
        omega
    exact h1.trans hks (fun _ _ h => h) (fun x hx h => by omega)
  clear hk9 hp9 hg9 hz hlt HC HP d3 a0 a1 a2 a3 a4
  simp only [vcs]
  go_wp2_with fail
  change wpStill _ _ _ _ _ _
  repeat still_step
  refine wpStill_nil ?_
  go_wp2_with fail
  obtain ⟨⟨r0, r1, r2, r3, r4⟩, -⟩ := cells5 HZ.out
  refine bodyPost_ret (v := .tuple #[.agg #[.int .u8 vk', .int .i64 vn', .string vstr', .slice pv vl'.length cv, .int .i64 vr'], .int .i64 n']) (by simp [results, Tryz.results38, go_sem, r0, r1, r2, r3, r4]) rfl ⟨⟨vk', vn', vstr', vl', vr'⟩, pv, cv, n', rfl, HE.out.1, HE.out.2⟩
attribute [local go_sem ↓] execOp_stF execOp_stVd in
set_option maxHeartbeats 4000000 in
set_option maxRecDepth 20000 in
theorem Do_1_1 (hW : IsW w p M F) {r : Int} (hr : (Lit.int .i64 r).wf = true) {t : Th} (ht : M.at r = some t) (hf : Fair t) (hk : t.kind = 1) {F1 : Nat → Prop} {v : Val} {raw : Value} (hS : SlAt w F1 raw v.l) (hm : mayV v = true) (hkn : ∀ r ∈ refsV v, (Lit.int .i64 r).wf = true ∧ (M.at r).isSome = true)
    {Post : World → Val → Value → Int → World → Prop} {Post' : Val → Value → Int → World → Prop}
    (hP : ∀ w0 v raw n w1 w2 y, w.heap.size ≤ y → y < w0.heap.size → Keeps (fun z => z = y) w1 w2 → Post w0 v raw n w1 → Post' v raw n w2)
    (hM : ∀ w0 w' b, Below w.heap.size w w0 → FoundB w0 p r t 129 b w' → Calls Tryz.prog 132 #[.pointer (some ⟨b, 0, none⟩), .agg (vcs v raw)] w' (MethPost w' F b (Post w0))) :
    Calls Tryz.prog 38 #[.pointer (some ⟨p, 0, none⟩), .int .i64 r, .int .u8 1, .agg (vcs v raw)] w fun e w' => ∃ v' pv cv n, e = .returned (.tuple #[.agg (vcs v' (.slice pv v'.l.length cv)), .int .i64 n]) ∧ Keeps F w w' ∧ Post' v' (.slice pv v'.l.length cv) n w' := by
  obtain ⟨pa, c, rfl⟩ := hS.form
  have HW : Hid (IsW w p M F) := hW
  have Ht : Hid (M.at r = some t ∧ Fair t ∧ t.kind = 1) := ⟨ht, hf, hk⟩
  have HV : Hid (SlAt w F1 (.slice pa v.l.length c) v.l ∧ mayV v = true ∧ (∀ r ∈ refsV v, (Lit.int .i64 r).wf = true ∧ (M.at r).isSome = true)) := ⟨hS, hm, hkn⟩
  have HM := (show Hid _ from hM)
  have HP := (show Hid _ from hP)
  have hmf : ∀ (fn : Fn) (first cap : Array Value) (w : World), (Instr.makeFunc fn first cap).run Tryz.prog w = .ok (.func fn first cap) w := fun _ _ _ _ => rfl
  clear hW ht hf hk hS hm hkn hM hP
  obtain ⟨vk, vn, vstr, vl, vr⟩ := v
  simp only [vcs] at HM ⊢
  obtain ⟨w4, hst, HX⟩ : ∃ w4, (stF (.pointer (some ⟨w.heap.size + 1 + 1, 0, none⟩)) (.agg actsF)).run Tryz.prog (((w.alloc (.cells #[.int .u8 vk, .int .i64 vn, .string vstr, .slice pa vl.length c, .int .i64 vr] 34)).alloc (.cells #[.int .u8 0, .int .i64 0, .string ⟨#[]⟩, .slice none 0 0, .int .i64 0] 34)).alloc (.cells #[.nilFunc, .nilFunc, .nilFunc, .nilFunc] 119)) = .ok .skip w4 ∧
      Hid (Below w.heap.size w w4 ∧ w4.heap[w.heap.size]? = some (.cells #[.int .u8 vk, .int .i64 vn, .string vstr, .slice pa vl.length c, .int .i64 vr] 34 (0, 0)) ∧ w4.heap[w.heap.size + 1]? = some (.cells zV 34 (0, 0)) ∧ w4.heap[w.heap.size + 2]? = some (.cells actsF 119 (0, 0))) := by
    have g3 := blk_new ((w.alloc (.cells #[.int .u8 vk, .int .i64 vn, .string vstr, .slice pa vl.length c, .int .i64 vr] 34)).alloc (.cells #[.int .u8 0, .int .i64 0, .string ⟨#[]⟩, .slice none 0 0, .int .i64 0] 34)) (.cells #[.nilFunc, .nilFunc, .nilFunc, .nilFunc] 119)
    rw [World.size_alloc, World.size_alloc] at g3
    refine ⟨_, stF_run (c' := actsF) g3 rfl rfl (by simp only [actsF]; simp; exact ⟨rfl, rfl, rfl, rfl⟩), Below.setRow (((((Below.refl _ _).alloc (Nat.le_refl _) _).alloc (by simp) _).alloc (by simp; omega) _)) (by omega) _, ?_, ?_, heap_setRow_at g3⟩
    · rw [heap_setRow_other _ _ _ _ (by omega)]
      exact blk_old _ _ (blk2_old _ _ _)
    · rw [heap_setRow_other _ _ _ _ (by omega)]
      exact blk_old _ _ (blk2_new _ _ _)
  simp only [actsF] at hst
  go_enter Tryz.func38, Tryz.ntmps38
  go_wp2_with fail
  refine (Place1_W _).mono ?_
  rintro e w5 ⟨rfl, hb5⟩
  have HB5 := (show Hid (Below w.heap.size w w5 ∧ w5.heap[w.heap.size]? = some (.cells #[.int .u8 vk, .int .i64 vn, .string vstr, .slice pa vl.length c, .int .i64 vr] 34 (0, 0)) ∧ w5.heap[w.heap.size + 1]? = some (.cells zV 34 (0, 0)) ∧ w5.heap[w.heap.size + 2]? = some (.cells actsF 119 (0, 0))) from ⟨HX.out.1.trans (hb5.mono HX.out.1.size), below_blk hb5 HX.out.2.1, below_blk hb5 HX.out.2.2.1, below_blk hb5 HX.out.2.2.2⟩)
  clear hb5 HX hst hmf
  obtain ⟨⟨a0, a1, a2, a3, a4⟩, -⟩ := cells5 HB5.out.2.1
  go_wp2_with fail
  refine (there_W (HW.out.below HB5.out.1)).mono ?_
  rintro e _ ⟨rfl, rfl⟩
  go_wp2_with fail
  have hmay := vMay_G (v := ⟨vk, vn, vstr, vl, vr⟩) (HV.out.1.on HB5.out.1)
  rw [HV.out.2.1] at hmay
  refine hmay.mono ?_
  rintro e w6 ⟨rfl, hb6⟩
  have HB6 := (show Hid (Below w.heap.size w w6 ∧ w6.heap[w.heap.size]? = some (.cells #[.int .u8 vk, .int .i64 vn, .string vstr, .slice pa vl.length c, .int .i64 vr] 34 (0, 0)) ∧ w6.heap[w.heap.size + 1]? = some (.cells zV 34 (0, 0)) ∧ w6.heap[w.heap.size + 2]? = some (.cells actsF 119 (0, 0))) from ⟨HB5.out.1.trans (hb6.mono HB5.out.1.size), below_blk hb6 HB5.out.2.1, below_blk hb6 HB5.out.2.2.1, below_blk hb6 HB5.out.2.2.2⟩)
  clear hb6 hmay a0 a1 a2 a3 a4 HB5
  obtain ⟨⟨a0, a1, a2, a3, a4⟩, -⟩ := cells5 HB6.out.2.1
  go_wp2_with fail
  have hIs := Is_W (HW.out.below HB6.out.1) hr
  rw [Ht.out.1] at hIs
  refine hIs.mono ?_
  rintro e _ ⟨rfl, rfl⟩
  go_wp2_with fail
  refine (known_G (HW.out.below HB6.out.1) ⟨vk, vn, vstr, vl, vr⟩ _ (HV.out.1.on HB6.out.1) HV.out.2.2).mono ?_
  rintro e w7 ⟨rfl, hb7⟩
  have HB7 := (show Hid (Below w.heap.size w w7 ∧ w7.heap[w.heap.size]? = some (.cells #[.int .u8 vk, .int .i64 vn, .string vstr, .slice pa vl.length c, .int .i64 vr] 34 (0, 0)) ∧ w7.heap[w.heap.size + 1]? = some (.cells zV 34 (0, 0)) ∧ w7.heap[w.heap.size + 2]? = some (.cells actsF 119 (0, 0))) from ⟨HB6.out.1.trans (hb7.mono HB6.out.1.size), below_blk hb7 HB6.out.2.1, below_blk hb7 HB6.out.2.2.1, below_blk hb7 HB6.out.2.2.2⟩)
  clear hb7 hIs a0 a1 a2 a3 a4 HB6
  go_wp2_with fail
  refine (find_1 (HW.out.below HB7.out.1) hr Ht.out.1 Ht.out.2.1 Ht.out.2.2).mono ?_
  rintro e w8 ⟨b, rfl, hfd⟩
  have hb8 : Below w7.heap.size w7 w8 := by obtain ⟨_, _, -, -, h, -⟩ := hfd; exact h
  have HB8 := (show Hid (Below w.heap.size w w8.drew ∧ w8.drew.heap[w.heap.size + 1]? = some (.cells zV 34 (0, 0)) ∧ b ≠ w.heap.size + 1 ∧ w.heap.size ≤ b ∧ w.heap.size + 1 < w7.heap.size) from ⟨(HB7.out.1.trans (hb8.mono HB7.out.1.size)).drew, below_blk hb8 HB7.out.2.2.1, by
    obtain ⟨_, _, -, h, -⟩ := hfd
    have := blk_lt HB7.out.2.2.1
    omega, by
    obtain ⟨_, _, -, h, -⟩ := hfd
    have := HB7.out.1.size
    omega, blk_lt HB7.out.2.2.1⟩)
  have d3 : w8.drew.cell? ⟨w.heap.size + 1 + 1, 0, none⟩ = some (.func (.methodOf 90 "postern/plain.get") #[] #[]) := by
    have := below_blk hb8 HB7.out.2.2.2
    rw [cell_blk (blk_drew this)]
    rfl
  obtain ⟨⟨a0, a1, a2, a3, a4⟩, -⟩ := cells5 (blk_drew (below_blk hb8 HB7.out.2.1))
  have HC := (show Hid _ from HM.out w7 w8.drew b HB7.out.1 hfd.drew)
  clear hfd hb8 HB7 HM
  go_wp2_with fail
  refine wp_region_pivotS 5 2 (by kernel_rfl) (by kernel_rfl) ?_
  simp only [List.take_succ_cons, List.take_zero, List.drop_succ_cons, List.drop_zero]
  repeat still_step
  refine wpStill_nil ?_
  go_wp2_with fail
  refine Calls.mono HC.out ?_
  rintro e w9 ⟨v', pv, cv, n', rfl, hk9, hp9⟩
  have hlt := HW.out.lt
  have hz := blk_lt HB8.out.2.1
  have hg9 := (hk9.block _ hz (fun h => by
    rcases h with h | h
    · have := hlt _ h; omega
    · exact HB8.out.2.2.1 h.symm)).trans HB8.out.2.1
  obtain ⟨vk', vn', vstr', vl', vr'⟩ := v'
  have hst := storeV_blk (c' := #[.int .u8 vk', .int .i64 vn', .string vstr', .slice pv vl'.length cv, .int .i64 vr']) hg9 rfl rfl (by simp [go_sem])
  have HZ := (show Hid _ from heap_setRow_at (c' := #[.int .u8 vk', .int .i64 vn', .string vstr', .slice pv vl'.length cv, .int .i64 vr']) hg9)
  have HE : Hid (Keeps F w (w9.setRow (w.heap.size + 1) #[.int .u8 vk', .int .i64 vn', .string vstr', .slice pv vl'.length cv, .int .i64 vr']) ∧ Post' ⟨vk', vn', vstr', vl', vr'⟩ (.slice pv vl'.length cv) n' (w9.setRow (w.heap.size + 1) #[.int .u8 vk', .int .i64 vn', .string vstr', .slice pv vl'.length cv, .int .i64 vr'])) := by
    have hks : Keeps (fun z => z = w.heap.size + 1) w9 (w9.setRow (w.heap.size + 1) #[.int .u8 vk', .int .i64 vn', .string vstr', .slice pv vl'.length cv, .int .i64 vr']) := ⟨rfl, rfl, rfl, by simp [World.setRow], fun k _ hk => heap_setRow_other _ _ _ _ hk⟩
    refine ⟨?_, HP.out _ _ _ _ _ _ (w.heap.size + 1) (by omega) HB8.out.2.2.2.2 hks hp9⟩
    have h1 : Keeps F w w9 := ((Keeps.of_below (S := fun _ => False) HB8.out.1).trans hk9 (T := fun y => F y ∨ y = b) (fun _ _ h => h.elim) (fun _ _ h => h)).mono fun x hx h => by
      rcases h with h | h
      · exact h
      · have := HB8.out.2.2.2.1
        omega
    exact h1.trans hks (fun _ _ h => h) (fun x hx h => by omega)
  clear hk9 hp9 hg9 hz hlt HC HP d3 a0 a1 a2 a3 a4
  simp only [vcs]
  go_wp2_with fail
  change wpStill _ _ _ _ _ _
  repeat still_step
  refine wpStill_nil ?_
  go_wp2_with fail
  obtain ⟨⟨r0, r1, r2, r3, r4⟩, -⟩ := cells5 HZ.out
  refine bodyPost_ret (v := .tuple #[.agg #[.int .u8 vk', .int .i64 vn', .string vstr', .slice pv vl'.length cv, .int .i64 vr'], .int .i64 n']) (by simp [results, Tryz.results38, go_sem, r0, r1, r2, r3, r4]) rfl ⟨⟨vk', vn', vstr', vl', vr'⟩, pv, cv, n', rfl, HE.out.1, HE.out.2⟩
attribute [local go_sem ↓] execOp_stF execOp_stVd in
set_option maxHeartbeats 4000000 in
set_option maxRecDepth 20000 in
theorem Do_1_2 (hW : IsW w p M F) {r : Int} (hr : (Lit.int .i64 r).wf = true) {t : Th} (ht : M.at r = some t) (hf : Fair t) (hk : t.kind = 1) {F1 : Nat → Prop} {v : Val} {raw : Value} (hS : SlAt w F1 raw v.l) (hm : mayV v = true) (hkn : ∀ r ∈ refsV v, (Lit.int .i64 r).wf = true ∧ (M.at r).isSome = true)
    {Post : World → Val → Value → Int → World → Prop} {Post' : Val → Value → Int → World → Prop}
    (hP : ∀ w0 v raw n w1 w2 y, w.heap.size ≤ y → y < w0.heap.size → Keeps (fun z => z = y) w1 w2 → Post w0 v raw n w1 → Post' v raw n w2)
    (hM : ∀ w0 w' b, Below w.heap.size w w0 → FoundB w0 p r t 129 b w' → Calls Tryz.prog 134 #[.pointer (some ⟨b, 0, none⟩), .agg (vcs v raw)] w' (MethPost w' F b (Post w0))) :
    Calls Tryz.prog 38 #[.pointer (some ⟨p, 0, none⟩), .int .i64 r, .int .u8 2, .agg (vcs v raw)] w fun e w' => ∃ v' pv cv n, e = .returned (.tuple #[.agg (vcs v' (.slice pv v'.l.length cv)), .int .i64 n]) ∧ Keeps F w w' ∧ Post' v' (.slice pv v'.l.length cv) n w' := by
  obtain ⟨pa, c, rfl⟩ := hS.form
  have HW : Hid (IsW w p M F) := hW
  have Ht : Hid (M.at r = some t ∧ Fair t ∧ t.kind = 1) := ⟨ht, hf, hk⟩
  have HV : Hid (SlAt w F1 (.slice pa v.l.length c) v.l ∧ mayV v = true ∧ (∀ r ∈ refsV v, (Lit.int .i64 r).wf = true ∧ (M.at r).isSome = true)) := ⟨hS, hm, hkn⟩
  have HM := (show Hid _ from hM)
  have HP := (show Hid _ from hP)
  have hmf : ∀ (fn : Fn) (first cap : Array Value) (w : World), (Instr.makeFunc fn first cap).run Tryz.prog w = .ok (.func fn first cap) w := fun _ _ _ _ => rfl
  clear hW ht hf hk hS hm hkn hM hP
  obtain ⟨vk, vn, vstr, vl, vr⟩ := v
  simp only [vcs] at HM ⊢
  obtain ⟨w4, hst, HX⟩ : ∃ w4, (stF (.pointer (some ⟨w.heap.size + 1 + 1, 0, none⟩)) (.agg actsF)).run Tryz.prog (((w.alloc (.cells #[.int .u8 vk, .int .i64 vn, .string vstr, .slice pa vl.length c, .int .i64 vr] 34)).alloc (.cells #[.int .u8 0, .int .i64 0, .string ⟨#[]⟩, .slice none 0 0, .int .i64 0] 34)).alloc (.cells #[.nilFunc, .nilFunc, .nilFunc, .nilFunc] 119)) = .ok .skip w4 ∧
      Hid (Below w.heap.size w w4 ∧ w4.heap[w.heap.size]? = some (.cells #[.int .u8 vk, .int .i64 vn, .string vstr, .slice pa vl.length c, .int .i64 vr] 34 (0, 0)) ∧ w4.heap[w.heap.size + 1]? = some (.cells zV 34 (0, 0)) ∧ w4.heap[w.heap.size + 2]? = some (.cells actsF 119 (0, 0))) := by
    have g3 := blk_new ((w.alloc (.cells #[.int .u8 vk, .int .i64 vn, .string vstr, .slice pa vl.length c, .int .i64 vr] 34)).alloc (.cells #[.int .u8 0, .int .i64 0, .string ⟨#[]⟩, .slice none 0 0, .int .i64 0] 34)) (.cells #[.nilFunc, .nilFunc, .nilFunc, .nilFunc] 119)
    rw [World.size_alloc, World.size_alloc] at g3
    refine ⟨_, stF_run (c' := actsF) g3 rfl rfl (by simp only [actsF]; simp; exact ⟨rfl, rfl, rfl, rfl⟩), Below.setRow (((((Below.refl _ _).alloc (Nat.le_refl _) _).alloc (by simp) _).alloc (by simp; omega) _)) (by omega) _, ?_, ?_, heap_setRow_at g3⟩
    · rw [heap_setRow_other _ _ _ _ (by omega)]
      exact blk_old _ _ (blk2_old _ _ _)
    · rw [heap_setRow_other _ _ _ _ (by omega)]
      exact blk_old _ _ (blk2_new _ _ _)
  simp only [actsF] at hst
  go_enter Tryz.func38, Tryz.ntmps38
  go_wp2_with fail
  refine (Place2_W _).mono ?_
  rintro e w5 ⟨rfl, hb5⟩
  have HB5 := (show Hid (Below w.heap.size w w5 ∧ w5.heap[w.heap.size]? = some (.cells #[.int .u8 vk, .int .i64 vn, .string vstr, .slice pa vl.length c, .int .i64 vr] 34 (0, 0)) ∧ w5.heap[w.heap.size + 1]? = some (.cells zV 34 (0, 0)) ∧ w5.heap[w.heap.size + 2]? = some (.cells actsF 119 (0, 0))) from ⟨HX.out.1.trans (hb5.mono HX.out.1.size), below_blk hb5 HX.out.2.1, below_blk hb5 HX.out.2.2.1, below_blk hb5 HX.out.2.2.2⟩)
  clear hb5 HX hst hmf
  obtain ⟨⟨a0, a1, a2, a3, a4⟩, -⟩ := cells5 HB5.out.2.1
  go_wp2_with fail
  refine (there_W (HW.out.below HB5.out.1)).mono ?_
  rintro e _ ⟨rfl, rfl⟩
  go_wp2_with fail
  have hmay := vMay_G (v := ⟨vk, vn, vstr, vl, vr⟩) (HV.out.1.on HB5.out.1)
  rw [HV.out.2.1] at hmay
  refine hmay.mono ?_
  rintro e w6 ⟨rfl, hb6⟩
  have HB6 := (show Hid (Below w.heap.size w w6 ∧ w6.heap[w.heap.size]? = some (.cells #[.int .u8 vk, .int .i64 vn, .string vstr, .slice pa vl.length c, .int .i64 vr] 34 (0, 0)) ∧ w6.heap[w.heap.size + 1]? = some (.cells zV 34 (0, 0)) ∧ w6.heap[w.heap.size + 2]? = some (.cells actsF 119 (0, 0))) from ⟨HB5.out.1.trans (hb6.mono HB5.out.1.size), below_blk hb6 HB5.out.2.1, below_blk hb6 HB5.out.2.2.1, below_blk hb6 HB5.out.2.2.2⟩)
  clear hb6 hmay a0 a1 a2 a3 a4 HB5
  obtain ⟨⟨a0, a1, a2, a3, a4⟩, -⟩ := cells5 HB6.out.2.1
  go_wp2_with fail
  have hIs := Is_W (HW.out.below HB6.out.1) hr
  rw [Ht.out.1] at hIs
  refine hIs.mono ?_
  rintro e _ ⟨rfl, rfl⟩
  go_wp2_with fail
  refine (known_G (HW.out.below HB6.out.1) ⟨vk, vn, vstr, vl, vr⟩ _ (HV.out.1.on HB6.out.1) HV.out.2.2).mono ?_
  rintro e w7 ⟨rfl, hb7⟩
  have HB7 := (show Hid (Below w.heap.size w w7 ∧ w7.heap[w.heap.size]? = some (.cells #[.int .u8 vk, .int .i64 vn, .string vstr, .slice pa vl.length c, .int .i64 vr] 34 (0, 0)) ∧ w7.heap[w.heap.size + 1]? = some (.cells zV 34 (0, 0)) ∧ w7.heap[w.heap.size + 2]? = some (.cells actsF 119 (0, 0))) from ⟨HB6.out.1.trans (hb7.mono HB6.out.1.size), below_blk hb7 HB6.out.2.1, below_blk hb7 HB6.out.2.2.1, below_blk hb7 HB6.out.2.2.2⟩)
  clear hb7 hIs a0 a1 a2 a3 a4 HB6
  go_wp2_with fail
  refine (find_1 (HW.out.below HB7.out.1) hr Ht.out.1 Ht.out.2.1 Ht.out.2.2).mono ?_
  rintro e w8 ⟨b, rfl, hfd⟩
  have hb8 : Below w7.heap.size w7 w8 := by obtain ⟨_, _, -, -, h, -⟩ := hfd; exact h
  have HB8 := (show Hid (Below w.heap.size w w8.drew ∧ w8.drew.heap[w.heap.size + 1]? = some (.cells zV 34 (0, 0)) ∧ b ≠ w.heap.size + 1 ∧ w.heap.size ≤ b ∧ w.heap.size + 1 < w7.heap.size) from ⟨(HB7.out.1.trans (hb8.mono HB7.out.1.size)).drew, below_blk hb8 HB7.out.2.2.1, by
    obtain ⟨_, _, -, h, -⟩ := hfd
    have := blk_lt HB7.out.2.2.1
    omega, by
    obtain ⟨_, _, -, h, -⟩ := hfd
    have := HB7.out.1.size
    omega, blk_lt HB7.out.2.2.1⟩)
  have d3 : w8.drew.cell? ⟨w.heap.size + 1 + 1, 1, none⟩ = some (.func (.methodOf 90 "postern/plain.put") #[] #[]) := by
    have := below_blk hb8 HB7.out.2.2.2
    rw [cell_blk (blk_drew this)]
    rfl
  obtain ⟨⟨a0, a1, a2, a3, a4⟩, -⟩ := cells5 (blk_drew (below_blk hb8 HB7.out.2.1))
  have HC := (show Hid _ from HM.out w7 w8.drew b HB7.out.1 hfd.drew)
  clear hfd hb8 HB7 HM
  go_wp2_with fail
  refine wp_region_pivotS 5 2 (by kernel_rfl) (by kernel_rfl) ?_
  simp only [List.take_succ_cons, List.take_zero, List.drop_succ_cons, List.drop_zero]
  repeat still_step
  refine wpStill_nil ?_
  go_wp2_with fail
  refine Calls.mono HC.out ?_
  rintro e w9 ⟨v', pv, cv, n', rfl, hk9, hp9⟩
  have hlt := HW.out.lt
  have hz := blk_lt HB8.out.2.1
  have hg9 := (hk9.block _ hz (fun h => by
    rcases h with h | h
    · have := hlt _ h; omega
    · exact HB8.out.2.2.1 h.symm)).trans HB8.out.2.1
  obtain ⟨vk', vn', vstr', vl', vr'⟩ := v'
  have hst := storeV_blk (c' := #[.int .u8 vk', .int .i64 vn', .string vstr', .slice pv vl'.length cv, .int .i64 vr']) hg9 rfl rfl (by simp [go_sem])
  have HZ := (show Hid _ from heap_setRow_at (c' := #[.int .u8 vk', .int .i64 vn', .string vstr', .slice pv vl'.length cv, .int .i64 vr']) hg9)
  have HE : Hid (Keeps F w (w9.setRow (w.heap.size + 1) #[.int .u8 vk', .int .i64 vn', .string vstr', .slice pv vl'.length cv, .int .i64 vr']) ∧ Post' ⟨vk', vn', vstr', vl', vr'⟩ (.slice pv vl'.length cv) n' (w9.setRow (w.heap.size + 1) #[.int .u8 vk', .int .i64 vn', .string vstr', .slice pv vl'.length cv, .int .i64 vr'])) := by
    have hks : Keeps (fun z => z = w.heap.size + 1) w9 (w9.setRow (w.heap.size + 1) #[.int .u8 vk', .int .i64 vn', .string vstr', .slice pv vl'.length cv, .int .i64 vr']) := ⟨rfl, rfl, rfl, by simp [World.setRow], fun k _ hk => heap_setRow_other _ _ _ _ hk⟩
    refine ⟨?_, HP.out _ _ _ _ _ _ (w.heap.size + 1) (by omega) HB8.out.2.2.2.2 hks hp9⟩
    have h1 : Keeps F w w9 := ((Keeps.of_below (S := fun _ => False) HB8.out.1).trans hk9 (T := fun y => F y ∨ y = b) (fun _ _ h => h.elim) (fun _ _ h => h)).mono fun x hx h => by
      rcases h with h | h
      · exact h
      · have := HB8.out.2.2.2.1
        omega
    exact h1.trans hks (fun _ _ h => h) (fun x hx h => by omega)
  clear hk9 hp9 hg9 hz hlt HC HP d3 a0 a1 a2 a3 a4
  simp only [vcs]
  go_wp2_with fail
  change wpStill _ _ _ _ _ _
  repeat still_step
  refine wpStill_nil ?_
  go_wp2_with fail
  obtain ⟨⟨r0, r1, r2, r3, r4⟩, -⟩ := cells5 HZ.out
  refine bodyPost_ret (v := .tuple #[.agg #[.int .u8 vk', .int .i64 vn', .string vstr', .slice pv vl'.length cv, .int .i64 vr'], .int .i64 n']) (by simp [results, Tryz.results38, go_sem, r0, r1, r2, r3, r4]) rfl ⟨⟨vk', vn', vstr', vl', vr'⟩, pv, cv, n', rfl, HE.out.1, HE.out.2⟩
end Go.Proofs.YtcoiccbmcjdheaaGreat
