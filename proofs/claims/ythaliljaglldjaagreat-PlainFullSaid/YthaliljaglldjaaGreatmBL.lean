/- A part of the proof, several texts in one: PlK, PlS, PlW, PlDK, PlX. -/
import Derived.Test.YthaliljaglldjaaGreatmBK
import Derived.StillTailTactics
import Derived.Test.YthaliljaglldjaaGreatmBJ
/- plain: take of a queue. Printed by gen_take.py. -/
namespace Go.Proofs.YthaliljaglldjaaGreat
open Go.RowKit Go.ChangeMaps Go.MapKept
variable {w : World} {p : Nat} {M : WM} {F : Nat → Prop}
set_option maxRecDepth 8000 in
theorem qTake_arg (w : World) (b : Nat) (m : Int) (hm : m < 0) : Calls Tryz.prog 332 #[.pointer (some ⟨b, 0, none⟩), .agg #[.int .u8 1, .int .i64 m, .string ⟨#[]⟩, .slice none 0 0, .int .i64 0]] w fun e w' => e = .returned (.tuple #[.agg zV, .int .i64 2]) ∧ Below w.heap.size w w' := by
  go_enter Tryz.func332, Tryz.ntmps332
  go_wp2
  go_returns
  exact ⟨rfl, by go_grown⟩
set_option maxRecDepth 8000 in
theorem qTake_short {b : Nat} {r : Int} {t : Th} {ps : Option Addr} {ns cs : Nat} (hb : w.heap[b]? = some (.cells (baseC p r t) 167 (0, 0))) (hv : t.vals = .slice ps ns cs) (m : Int) (hm : (ns : Int) < m) : Calls Tryz.prog 332 #[.pointer (some ⟨b, 0, none⟩), .agg #[.int .u8 1, .int .i64 m, .string ⟨#[]⟩, .slice none 0 0, .int .i64 0]] w fun e w' => e = .returned (.tuple #[.agg zV, .int .i64 81]) ∧ Below w.heap.size w w' := by
  have c9 : w.cell? ⟨b, 9, none⟩ = some (.slice ps ns cs) := by rw [cell_blk hb, ← hv]; rfl
  have h1 : ¬ m < 0 := by omega
  have h2 : m > (ns : Int) := hm
  have hlt := blk_lt hb
  go_enter Tryz.func332, Tryz.ntmps332
  go_wp2_with fail
  go_region
  go_wp2_with fail
  go_returns
  exact ⟨rfl, by go_grown⟩
theorem slice_front (w : World) (ps : Option Addr) (n cs k : Nat) (h : k ≤ cs) : (Instr.sliceAt 24 (.slice ps n cs) none (some (.int .i64 k)) none).run Tryz.prog w = .ok (.slice ps k cs) w := by
  simp [go_sem, h]
theorem slice_back (w : World) (ps : Option Addr) (n cs k : Nat) (h : k ≤ n) : (Instr.sliceAt 24 (.slice ps n cs) (some (.int .i64 k)) none none).run Tryz.prog w = .ok (.slice (if cs = k then ps else ps.map (·.add (k * 5))) (n - k) (cs - k)) w := by
  simp [go_sem, h]
theorem IsW.of_setRow (h : IsW w p M F) {b : Nat} (hb : ∀ y, F y → y ≠ b) (c : Array Value) : IsW (w.setRow b c) p M F :=
  h.keeps (S := fun y => y = b) ⟨rfl, rfl, rfl, by simp [World.setRow], fun k _ hk => heap_setRow_other _ _ _ _ hk⟩ fun y hy e => hb y hy e
def TakePostQ (w : World) (p : Nat) (M : WM) (F : Nat → Prop) (r h : Int) (vs : List Val) (k b : Nat) (e : Ending) (w' : World) : Prop :=
  ∃ raw' vals' vl' vals2 F', e = .returned (.tuple #[.agg (vcs (listV (vs.take k)) raw'), .int .i64 0]) ∧ SlT w' (fun y => w.heap.size ≤ y ∧ ¬ F' y) raw' (vs.take k) ∧ ((qT 4 h (vs.drop k) vals').v.l = [] → vl' = .slice none 0 0) ∧ IsW w' p (M.set r { qT 4 h (vs.drop k) vals' with vl := vl', vals := vals2 }) F' ∧ Keeps (fun y => F y ∨ y = b) w w' ∧ ∀ y, F' y → F y ∨ w.heap.size ≤ y
theorem execOp_stVk (ρ : Operand → Value) (ty : TypeId) (pos : String) (af : Array Edge) (g : Option (Nat × Bool)) :
    execOp ρ { dst := none, op := .store 27 (.tmp 4) (.tmp 75), type := ty, pos := pos, after := af, guard := g } = stV (ρ (.tmp 4)) (ρ (.tmp 75)) := rfl
attribute [local go_sem ↓] execOp_stVk in
set_option maxHeartbeats 8000000 in
set_option maxRecDepth 20000 in
theorem qTake_W (hW : IsW w p M F) {r : Int} (hr : (Lit.int .i64 r).wf = true) {h : Int} {vs : List Val} {vals0 vals : Value} (ht : M.at r = some (qT 4 h vs vals0)) {b : Nat} (hb : w.heap[b]? = some (.cells (baseC p r (qT 4 h vs vals)) 167 (0, 0))) (hbF : ¬ F b)
    (hh : sideB M h = true) {FA : Nat → Prop} (hS : SlAt w FA vals vs) (hFA : ∀ y, FA y → y ≠ b ∧ ¬ F y) (hcap : CapOk vals) (hheld : ∀ r ∈ heldL (qT 4 h vs vals0), (Lit.int .i64 r).wf = true ∧ (M.at r).isSome = true) (hmay : mayV (listV vs) = true) (hmays : ∀ x ∈ vs, mayV x = true) {k : Nat} (hk : k ≤ vs.length) :
    Calls Tryz.prog 332 #[.pointer (some ⟨b, 0, none⟩), .agg #[.int .u8 1, .int .i64 (k : Int), .string ⟨#[]⟩, .slice none 0 0, .int .i64 0]] w (TakePostQ w p M F r h vs k b) := by
  obtain ⟨ps, cs, hvals⟩ := hS.form
  subst hvals
  have hlt := blk_lt hb
  have hncs : vs.length ≤ cs := by
    obtain ⟨a, n, c, e, h1, h2⟩ := hcap
    cases e
    exact h1
  have hl511 := may_list_len hmay
  have HbF : Hid (∀ y, F y → y < w.heap.size) := hW.lt
  obtain ⟨pd, nd, cd, hd⟩ : ∃ pd nd cd, (Value.slice (if cs = k then ps else ps.map (·.add (k * 5))) (vs.length - k) (cs - k)) = .slice pd nd cd := ⟨_, _, _, rfl⟩
  have hSf : SlAt w FA (.slice ps k cs) (vs.take k) := hS.front hk cs
  have hSd : SlAt w FA (.slice pd nd cd) (vs.drop k) := by
    have := hS.back hk hncs
    rwa [hd] at this
  have hslf := fun w : World => slice_front w ps vs.length cs k (by omega)
  have hslb := fun w : World => slice_back w ps vs.length cs k hk
  rw [hd] at hslb
  have HP : Hid (IsW w p M F ∧ M.at r = some (qT 4 h vs vals0) ∧ sideB M h = true ∧ (∀ y, FA y → y ≠ b ∧ ¬ F y) ∧ (∀ r ∈ heldL (qT 4 h vs vals0), (Lit.int .i64 r).wf = true ∧ (M.at r).isSome = true) ∧ mayV (listV vs) = true ∧ (∀ x ∈ vs, mayV x = true) ∧ SlAt w FA (.slice ps k cs) (vs.take k) ∧ SlAt w FA (.slice pd nd cd) (vs.drop k) ∧ vs.length ≤ 511) := ⟨hW, ht, hh, hFA, hheld, hmay, hmays, hSf, hSd, hl511⟩
  have h1 : ¬ ((k : Int) < 0) := by omega
  have h2 : ¬ ((k : Int) > (vs.length : Int)) := by omega
  have c9' : w.cell? ⟨b, 9, none⟩ = some (.slice ps vs.length cs) := by rw [cell_blk hb]; rfl
  clear hW ht hh hFA hheld hmay hmays hSf hSd hS hcap hncs hd
  have hk0 : (0 : Int) ≤ (k : Int) := by omega
  generalize hn : vs.length = n at *
  go_enter Tryz.func332, Tryz.ntmps332
  go_wp2_with fail
  go_region
  go_wp2_with fail
  have HX : Hid (Below w.heap.size w ((w.alloc (.cells #[.int .u8 1, .int .i64 (k : Int), .string ⟨#[]⟩, .slice none 0 0, .int .i64 0] 27)).alloc (.cells #[.int .u8 0, .int .i64 0, .string ⟨#[]⟩, .slice none 0 0, .int .i64 0] 27)).drew ∧ ((w.alloc (.cells #[.int .u8 1, .int .i64 (k : Int), .string ⟨#[]⟩, .slice none 0 0, .int .i64 0] 27)).alloc (.cells #[.int .u8 0, .int .i64 0, .string ⟨#[]⟩, .slice none 0 0, .int .i64 0] 27)).drew.heap[w.heap.size]? = some (.cells #[.int .u8 1, .int .i64 (k : Int), .string ⟨#[]⟩, .slice none 0 0, .int .i64 0] 27 (0, 0)) ∧ ((w.alloc (.cells #[.int .u8 1, .int .i64 (k : Int), .string ⟨#[]⟩, .slice none 0 0, .int .i64 0] 27)).alloc (.cells #[.int .u8 0, .int .i64 0, .string ⟨#[]⟩, .slice none 0 0, .int .i64 0] 27)).drew.heap[w.heap.size + 1]? = some (.cells zV 27 (0, 0))) :=
    ⟨(((Below.refl _ _).alloc (Nat.le_refl _) _).alloc (by simp) _).drew, blk2_old _ _ _, blk2_new _ _ _⟩
  revert HX
  generalize World.drew _ = w2
  intro HX
  clear c9'
  have hb2 := (HX.out.1.block b hlt).trans hb
  have c9 : w2.cell? ⟨b, 9, none⟩ = some (.slice ps n cs) := by rw [cell_blk hb2]; rfl
  have f9 := frozen_blk hb2 9
  have d1 : w2.cell? ⟨w.heap.size, 1, none⟩ = some (.int .i64 k) := by rw [cell_blk HX.out.2.1]; rfl
  go_still_tail 9, (by kernel_rfl)
  change wpList _ _ _ _ _ w2.drew
  go_wp2_with fail
  have HX3 : Hid (Below w.heap.size w w2.drew ∧ w2.drew.heap[w.heap.size]? = some (.cells #[.int .u8 1, .int .i64 (k : Int), .string ⟨#[]⟩, .slice none 0 0, .int .i64 0] 27 (0, 0)) ∧ w2.drew.heap[w.heap.size + 1]? = some (.cells zV 27 (0, 0))) := ⟨HX.out.1.drew, blk_drew HX.out.2.1, blk_drew HX.out.2.2⟩
  clear hb2 c9 f9 d1 HX
  revert HX3
  generalize w2.drew = w3
  intro HX
  have hb2 := (HX.out.1.block b hlt).trans hb
  have c9 : w3.cell? ⟨b, 9, none⟩ = some (.slice ps n cs) := by rw [cell_blk hb2]; rfl
  have f9 := frozen_blk hb2 9
  have d1 : w3.cell? ⟨w.heap.size, 1, none⟩ = some (.int .i64 k) := by rw [cell_blk HX.out.2.1]; rfl
  go_still_tail 14, (by kernel_rfl)
  change wpList _ _ _ _ _ w3.drew
  go_wp2_with fail
  have hb3 : (w3.setCell ⟨b, 9, none⟩ (.slice pd nd cd)).drew.heap[b]? = some (.cells (baseC p r (qT 4 h (vs.drop k) (.slice pd nd cd))) 167 (0, 0)) := blk_setCell hb2 9 (.slice pd nd cd)
  have hk3 : Keeps (fun y => y = b) w (w3.setCell ⟨b, 9, none⟩ (.slice pd nd cd)).drew := (Below.keeps HX.out.1 (Keeps.setCell (S := fun y => y = b) w3 ⟨b, 9, none⟩ _ rfl)).drew
  have hr3 : (w3.setCell ⟨b, 9, none⟩ (.slice pd nd cd)).drew.heap[w.heap.size + 1]? = some (.cells zV 27 (0, 0)) := blk_other HX.out.2.2 ⟨b, 9, none⟩ _ (by simp; omega)
  have HS3 := (show Hid _ from And.intro hb3 (And.intro hk3 hr3))
  clear hb3 hk3 hr3 hb2 c9 f9 d1 HX
  revert HS3
  generalize World.drew _ = w4
  intro HS3
  have c0 : w4.cell? ⟨b, 0, none⟩ = some (.pointer (some ⟨p, 0, none⟩)) := by rw [cell_blk HS3.out.1]; rfl
  have c1 : w4.cell? ⟨b, 1, none⟩ = some (.int .i64 r) := by rw [cell_blk HS3.out.1]; rfl
  have ldx : (ldW (.pointer (some ⟨b, 2, none⟩))).run Tryz.prog w4.drew = .ok (.value (.agg #[.int .u8 4, .int .i64 h, .int .u8 0, .int .i64 0, .string ⟨#[]⟩, .slice none 0 0, .int .i64 0, .slice pd nd cd, .int .i64 0, .int .i64 0, .int .i64 0, .int .i64 0, .int .u8 0, .bool false, .slice none 0 0, .slice none 0 0])) w4.drew := ldW_mid (blk_drew HS3.out.1) (cs := #[.int .u8 4, .int .i64 h, .int .u8 0, .int .i64 0, .string ⟨#[]⟩, .slice none 0 0, .int .i64 0, .slice pd nd cd, .int .i64 0, .int .i64 0, .int .i64 0, .int .i64 0, .int .u8 0, .bool false, .slice none 0 0, .slice none 0 0].toList) (by intro j x hj; exact baseC_at (t := qT 4 h (vs.drop k) (.slice pd nd cd)) hj) rfl
  obtain ⟨hW, ht, hh, hFA, hheld, hmay, hmays, hSf, hSd, hl511⟩ := HP.out
  have hW4 : IsW w4.drew p M F := hW.keeps HS3.out.2.1.drew (fun y hy e => hbF (e ▸ hy))
  have hSd4 : SlAt w4.drew FA (.slice pd nd cd) (vs.drop k) := hSd.keeps HS3.out.2.1.drew (fun y e hy => (hFA y hy).1 e)
  have hSf4 : SlAt w4.drew FA (.slice ps k cs) (vs.take k) := hSf.keeps HS3.out.2.1.drew (fun y e hy => (hFA y hy).1 e)
  have hsub : ∀ r ∈ heldL (qT 4 h (vs.drop k) (.slice pd nd cd)), (Lit.int .i64 r).wf = true ∧ (M.at r).isSome = true := fun r hr => hheld r (by
    simp only [heldL, List.mem_append, List.mem_flatMap] at hr ⊢
    rcases hr with hr | ⟨x, hx, hr⟩
    · exact .inl hr
    · exact .inr ⟨x, List.mem_of_mem_drop hx, hr⟩)
  have HL : Hid (Calls Tryz.prog 107 #[.pointer (some ⟨p, 0, none⟩), .int .i64 r, .agg #[.int .u8 4, .int .i64 h, .int .u8 0, .int .i64 0, .string ⟨#[]⟩, .slice none 0 0, .int .i64 0, .slice pd nd cd, .int .i64 0, .int .i64 0, .int .i64 0, .int .i64 0, .int .u8 0, .bool false, .slice none 0 0, .slice none 0 0]] w4.drew fun e w' => e = .returned (.int .i64 0) ∧ LaidG w4.drew p M F r (qT 4 h (vs.drop k) (.slice pd nd cd)) w') := by
    refine Lay_G hW4 hr ht rfl (x := qT 4 h (vs.drop k) (.slice pd nd cd)) ⟨SlAt.nil _ _ _ _, hSd4, rfl, rfl⟩ ⟨(refsV0 0 0 (.inl ⟨rfl, rfl⟩)).2, fun x hx => hmays x (List.mem_of_mem_drop hx), by show (vs.drop k).length ≤ _; simp; omega⟩ rfl rfl rfl rfl rfl (fun r hr => (hsub r hr).1) (by unfold namesB; rw [List.all_eq_true]; exact fun r hr => (hsub r hr).2) ?_
    intro w' hb'
    exact formV_4 (hW4.below hb') hh vYes0 (ofYes (hSd4.on hb') (by simp; omega) (ofE_may (fun x hx => hmays x (List.mem_of_mem_drop hx)) (mayList_drop hmay k)))
  have HO : Hid (ofE (vs.take k) = 0 ∧ (vs.take k).length = k ∧ SlAt w4.drew FA (.slice ps k cs) (vs.take k) ∧ ∀ y, FA y → ¬ F y) := ⟨ofE_may (fun x hx => hmays x (List.mem_of_mem_take hx)) (mayList_take hmay k), by simp; omega, hSf4, fun y hy => (hFA y hy).2⟩
  clear hW ht hh hFA hheld hmay hmays hSf hSd hW4 hSd4 hSf4 hsub
  go_still_tail 15, (by kernel_rfl)
  change wpList _ _ _ _ _ w4.drew
  go_wp2_with fail
  refine Calls.mono HL.out ?_
  rintro e w5 ⟨rfl, hl⟩
  have HLG := (show Hid (LaidG w4.drew p M F r (qT 4 h (vs.drop k) (.slice pd nd cd)) w5) from hl)
  have hk5 : Keeps F w4.drew w5 := by obtain ⟨_, _, _, _, _, l2, _⟩ := hl; exact l2
  have hs5 : SlAt w5 FA (.slice ps k cs) (vs.take k) := HO.out.2.2.1.keeps hk5 (fun y hy hf => HO.out.2.2.2 y hf hy)
  have hr5 := (hk5.block _ (blk_lt (blk_drew HS3.out.2.2)) (fun e => by have := HbF.out _ e; omega)).trans (blk_drew HS3.out.2.2)
  have HS5 := (show Hid (SlAt w5 FA (.slice ps k cs) (vs.take k) ∧ w5.heap[w.heap.size + 1]? = some (.cells zV 27 (0, 0)) ∧ w4.drew.heap.size ≤ w5.heap.size) from ⟨hs5, hr5, hk5.size⟩)
  clear hl hk5 hs5 hr5 c0 c1 ldx HL
  go_wp2_with fail
  refine (Of_G (vs.take k) (.slice ps k cs) HS5.out.1 (by have := HO.out.2.1; omega)).mono ?_
  rintro e w6 ⟨hb6, hof⟩
  obtain ⟨raw', rfl, hs6⟩ : ∃ raw', e = .returned (.tuple #[.agg (vcs (listV (vs.take k)) raw'), .int .i64 0]) ∧ SlT w6 (fun b => w5.heap.size ≤ b) raw' (vs.take k) := by
    rcases hof with ⟨-, h⟩ | ⟨h, -⟩
    · exact h
    · exact absurd HO.out.1 h
  obtain ⟨pr, cr, hform⟩ := hs6.form
  rw [HO.out.2.1] at hform
  subst hform
  have hg6 := below_blk hb6 HS5.out.2.1
  have hst := storeV_blk (c' := #[.int .u8 3, .int .i64 0, .string ⟨#[]⟩, .slice pr k cr, .int .i64 0]) hg6 rfl rfl (by simp [go_sem])
  have HZ := (show Hid _ from heap_setRow_at (c' := #[.int .u8 3, .int .i64 0, .string ⟨#[]⟩, .slice pr k cr, .int .i64 0]) hg6)
  have HE : Hid (TakePostQ w p M F r h vs k b (.returned (.tuple #[.agg (vcs (listV (vs.take k)) (.slice pr k cr)), .int .i64 0])) (w6.setRow (w.heap.size + 1) #[.int .u8 3, .int .i64 0, .string ⟨#[]⟩, .slice pr k cr, .int .i64 0])) := by
    have hz4 := blk_lt HS3.out.2.2
    have hz5 : w.heap.size + 1 < w4.drew.heap.size := hz4
    have h45 := HS5.out.2.2
    obtain ⟨vl', vals', F', l0, l1, l2, l3⟩ := HLG.out
    have hF' : ∀ y, F' y → y ≠ w.heap.size + 1 := fun y hy e => by
      rcases l3 y hy with h | h
      · have := HbF.out y h
        omega
      · omega
    refine ⟨.slice pr k cr, .slice pd nd cd, vl', vals', F', rfl, hs6.of_blocks (Lists.of fun y hy => heap_setRow_other _ _ _ _ (by have : w5.heap.size ≤ y := hy; omega)) (fun y hy => ⟨by have : w5.heap.size ≤ y := hy; omega, fun e => by have := l1.lt y e; have : w5.heap.size ≤ y := hy; omega⟩), l0, (l1.below hb6).of_setRow (fun y hy => hF' y hy) _, ?_, fun y hy => (l3 y hy).imp id fun h => by omega⟩
    have k1 : Keeps (fun y => F y ∨ y = b) w w5 := (HS3.out.2.1.drew).trans l2 (fun _ _ h => .inr h) (fun _ _ h => .inl h)
    have k2 : Keeps (fun y => F y ∨ y = b) w w6 := k1.then_below hb6
    exact ⟨k2.os, k2.tape, k2.output, by simpa [World.setRow] using k2.size, fun y hy hn => (heap_setRow_other _ _ _ _ (by omega)).trans (k2.block y hy hn)⟩
  have Hof := (show Hid _ from hof)
  clear hb6 hs6 hg6 HS5 HLG HS3 hof
  simp only [vcs, listV]
  go_wp2_with fail
  obtain ⟨⟨r0, r1, r2, r3, r4⟩, -⟩ := cells5 HZ.out
  refine bodyPost_ret (v := .tuple #[.agg #[.int .u8 3, .int .i64 0, .string ⟨#[]⟩, .slice pr k cr, .int .i64 0], .int .i64 0]) ?_ rfl ?_
  · simp [results, Tryz.results332, go_sem, r0, r1, r2, r3, r4]
  · exact HE.out
end Go.Proofs.YthaliljaglldjaaGreat
/- plain: what an act comes to, of a world as data. -/
namespace Go.Proofs.YthaliljaglldjaaGreat
open Go.RowKit Go.ChangeMaps Go.MapKept
variable {w : World} {p : Nat} {M : WM} {F : Nat → Prop}
def Acts (w : World) (p : Nat) (F : Nat → Prop) (N : WM) (w' : World) : Prop := Keeps F w w' ∧ ∃ F', IsW w' p N F' ∧ ∀ y, F' y → F y ∨ w.heap.size ≤ y
abbrev nilV : Val := ⟨0, 0, ⟨#[]⟩, [], 0⟩
abbrev numV (n : Int) : Val := ⟨1, n, ⟨#[]⟩, [], 0⟩
def ActPost (w : World) (p : Nat) (F : Nat → Prop) (X : Val → Int → WM → Prop) (e : Ending) (w' : World) : Prop :=
  ∃ v pv cv n N F', e = .returned (.tuple #[.agg (vcs v (.slice pv v.l.length cv)), .int .i64 n]) ∧ X v n N ∧ Keeps F w w' ∧ IsW w' p N F' ∧ (∀ y, F' y → F y ∨ w.heap.size ≤ y) ∧ SlT w' (fun y => w.heap.size ≤ y ∧ ¬ F' y) (.slice pv v.l.length cv) v.l
def MethX (p : Nat) (F : Nat → Prop) (X : Val → Int → WM → Prop) (w0 : World) (v : Val) (raw : Value) (n : Int) (w1 : World) : Prop :=
  ∃ N F', X v n N ∧ IsW w1 p N F' ∧ (∀ y, F' y → F y ∨ w0.heap.size ≤ y) ∧ SlT w1 (fun y => w0.heap.size ≤ y ∧ ¬ F' y) raw v.l
theorem methX_stab (hF : ∀ y, F y → y < w.heap.size) {X : Val → Int → WM → Prop} : ∀ w0 v raw n w1 w2 y, w.heap.size ≤ y → y < w0.heap.size → Keeps (fun z => z = y) w1 w2 → MethX p F X w0 v raw n w1 → MethX p F X w v raw n w2 := by
  rintro w0 v raw n w1 w2 y h1 h2 hk ⟨N, F', hX, hW, hF', hS⟩
  refine ⟨N, F', hX, hW.keeps hk fun z hz e => ?_, fun z hz => (hF' z hz).imp id fun h => by omega, ?_⟩
  · subst e
    rcases hF' _ hz with h | h
    · have := hF _ h
      omega
    · omega
  · have key : SlT w2 (fun y => w0.heap.size ≤ y ∧ ¬ F' y) raw v.l := (hS.monoLt (F' := fun z => (w0.heap.size ≤ z ∧ ¬ F' z) ∧ z < w1.heap.size) fun b h h' => ⟨h, h'⟩).of_blocks (Lists.of fun b hb => hk.block b hb.2 (by have := hb.1.1; omega)) (fun b hb => hb.1)
    exact key.mono fun b hb => ⟨by have := hb.1; omega, hb.2⟩
theorem doAct {X : Val → Int → WM → Prop} {e : Ending} {w' : World} (h : ∃ v' pv cv n, e = .returned (.tuple #[.agg (vcs v' (.slice pv v'.l.length cv)), .int .i64 n]) ∧ Keeps F w w' ∧ MethX p F X w v' (.slice pv v'.l.length cv) n w') : ActPost w p F X e w' := by
  obtain ⟨v', pv, cv, n, he, hk, N, F', hX, hW, hF, hS⟩ := h
  exact ⟨v', pv, cv, n, N, F', he, hX, hk, hW, hF, hS⟩
theorem ActPost.acts {X : Val → Int → WM → Prop} {e : Ending} {w' : World} (h : ActPost w p F X e w') : ∃ v pv cv n N, e = .returned (.tuple #[.agg (vcs v (.slice pv v.l.length cv)), .int .i64 n]) ∧ X v n N ∧ Acts w p F N w' := by
  obtain ⟨v', pv, cv, n, N, F', he, hX, hk, hW, hF, -⟩ := h
  exact ⟨v', pv, cv, n, N, he, hX, hk, F', hW, hF⟩
end Go.Proofs.YthaliljaglldjaaGreat
/- plain: Get, Put, Take, Give: by Do. -/
namespace Go.Proofs.YthaliljaglldjaaGreat
open Go.RowKit Go.ChangeMaps Go.MapKept
variable {w : World} {p : Nat} {M : WM} {F : Nat → Prop}
def IsPart (p : Nat) (F : Nat → Prop) (N : WM) (F' : Nat → Prop) (w w' : World) : Prop := Keeps F w w' ∧ IsW w' p N F' ∧ ∀ y, F' y → F y ∨ w.heap.size ≤ y
theorem IsPart.fin {w w1 w2 w3 : World} {N : WM} {F' : Nat → Prop} (h : IsPart p F N F' w1 w2) (hF : ∀ y, F y → y < w.heap.size) (hb : Below w.heap.size w w1) {y : Nat} (h1 : w.heap.size ≤ y) (h2 : y < w1.heap.size) (hk : Keeps (fun z => z = y) w2 w3) : IsPart p F N F' w w3 := by
  obtain ⟨k1, hW, hF'⟩ := h
  refine ⟨(Below.keeps hb k1).trans hk (fun _ _ h => h) (fun x hx e => by omega), hW.keeps hk fun z hz e => ?_, fun z hz => (hF' z hz).imp id fun h => Nat.le_trans hb.size h⟩
  subst e
  rcases hF' _ hz with h | h
  · have := hF _ h
    omega
  · omega
theorem Acts.start {w w1 w2 : World} {N : WM} (h : Acts w1 p F N w2) (hb : Below w.heap.size w w1) : Acts w p F N w2 := by
  obtain ⟨k1, F', hW, hF'⟩ := h
  exact ⟨Below.keeps hb k1, F', hW, fun z hz => (hF' z hz).imp id fun h => Nat.le_trans hb.size h⟩
theorem Acts.on {w w1 w2 : World} {N : WM} (h : Acts w p F N w1) (hb : Below w1.heap.size w1 w2) : Acts w p F N w2 := by
  obtain ⟨k1, F', hW, hF'⟩ := h
  exact ⟨k1.then_below hb, F', hW.below hb, hF'⟩
theorem slT_fin {w w1 w2 w3 : World} {G : Nat → Prop} {s : Value} {l : List Val} (h : SlT w2 (fun y => w1.heap.size ≤ y ∧ ¬ G y) s l) (hb : w.heap.size ≤ w1.heap.size) {y : Nat} (h2 : y < w1.heap.size) (hk : Keeps (fun z => z = y) w2 w3) : SlT w3 (fun y => w.heap.size ≤ y ∧ ¬ G y) s l := by
  have key : SlT w3 (fun y => w1.heap.size ≤ y ∧ ¬ G y) s l := (h.monoLt (F' := fun z => (w1.heap.size ≤ z ∧ ¬ G z) ∧ z < w2.heap.size) fun b h h' => ⟨h, h'⟩).of_blocks (Lists.of fun b hb => hk.block b hb.2 (by have := hb.1.1; omega)) (fun b hb => hb.1)
  exact key.mono fun b h => ⟨Nat.le_trans hb h.1, h.2⟩
theorem keeps_setRow (w : World) (b : Nat) (c : Array Value) : Keeps (fun z => z = b) w (w.setRow b c) := ⟨rfl, rfl, rfl, by simp [World.setRow], fun k _ hk => heap_setRow_other _ _ _ _ hk⟩
theorem execOp_stVw10 (ρ : Operand → Value) (ty : TypeId) (pos : String) (af : Array Edge) (g : Option (Nat × Bool)) :
    execOp ρ { dst := none, op := .store 27 (.tmp 4) (.tmp 10), type := ty, pos := pos, after := af, guard := g } = stV (ρ (.tmp 4)) (ρ (.tmp 10)) := rfl
theorem execOp_stVw13 (ρ : Operand → Value) (ty : TypeId) (pos : String) (af : Array Edge) (g : Option (Nat × Bool)) :
    execOp ρ { dst := none, op := .store 27 (.tmp 6) (.tmp 13), type := ty, pos := pos, after := af, guard := g } = stV (ρ (.tmp 6)) (ρ (.tmp 13)) := rfl
attribute [local go_sem ↓] execOp_stVw10 in
set_option maxHeartbeats 2000000 in
set_option maxRecDepth 8000 in
theorem plGet_A (hF : ∀ y, F y → y < w.heap.size) {r : Int} {X : Val → Int → WM → Prop} (hD : ∀ w1, Below w.heap.size w w1 → Calls Tryz.prog 90 #[.pointer (some ⟨p, 0, none⟩), .int .i64 r, .int .u8 1, .agg (vcs nilV (.slice none 0 0))] w1 (ActPost w1 p F X)) :
    Calls Tryz.prog 67 #[.pointer (some ⟨p, 0, none⟩), .int .i64 r] w (ActPost w p F X) := by
  have hb0 : Below w.heap.size w (w.alloc (.cells #[.int .u8 0, .int .i64 0, .string ⟨#[]⟩, .slice none 0 0, .int .i64 0] 27)) := (Below.refl _ _).alloc (Nat.le_refl _) _
  have HD := (show Hid _ from And.intro hb0 (And.intro (hD _ hb0) (blk_new w (.cells #[.int .u8 0, .int .i64 0, .string ⟨#[]⟩, .slice none 0 0, .int .i64 0] 27))))
  have HF : Hid (∀ y, F y → y < w.heap.size) := hF
  have hz : w.heap.size < (w.alloc (.cells #[.int .u8 0, .int .i64 0, .string ⟨#[]⟩, .slice none 0 0, .int .i64 0] 27)).heap.size := by simp
  have Hz := (show Hid _ from hz)
  clear hD hb0 hF hz
  simp only [vcs] at HD
  go_enter Tryz.func67, Tryz.ntmps67
  go_wp2_with fail
  refine Calls.mono HD.out.2.1 ?_
  rintro e w2 ⟨v', pv, cv, n, N, F', rfl, hX, hk, hW', hF', hS⟩
  have hA : IsPart p F N F' _ w2 := ⟨hk, hW', hF'⟩
  have hg : w2.heap[w.heap.size]? = some (.cells zV 27 (0, 0)) := (hk.block _ Hz.out (fun h => by have := HF.out _ h; omega)).trans HD.out.2.2
  obtain ⟨vk, vn, vstr, vl, vr⟩ := v'
  have hst := storeV_blk (c' := #[.int .u8 vk, .int .i64 vn, .string vstr, .slice pv vl.length cv, .int .i64 vr]) hg rfl rfl (by simp [go_sem])
  have HZ := (show Hid _ from heap_setRow_at (c' := #[.int .u8 vk, .int .i64 vn, .string vstr, .slice pv vl.length cv, .int .i64 vr]) hg)
  have HE : Hid (X ⟨vk, vn, vstr, vl, vr⟩ n N ∧ IsPart p F N F' w (w2.setRow w.heap.size #[.int .u8 vk, .int .i64 vn, .string vstr, .slice pv vl.length cv, .int .i64 vr]) ∧ SlT (w2.setRow w.heap.size #[.int .u8 vk, .int .i64 vn, .string vstr, .slice pv vl.length cv, .int .i64 vr]) (fun y => w.heap.size ≤ y ∧ ¬ F' y) (.slice pv vl.length cv) vl) :=
    ⟨hX, hA.fin HF.out HD.out.1 (Nat.le_refl _) Hz.out (keeps_setRow _ _ _), slT_fin hS (Nat.le_of_lt Hz.out) Hz.out (keeps_setRow _ _ _)⟩
  clear hX hA hk hW' hF' hS hg HD Hz
  simp only [vcs]
  go_wp2_with fail
  obtain ⟨⟨r0, r1, r2, r3, r4⟩, -⟩ := cells5 HZ.out
  refine bodyPost_ret (v := .tuple #[.agg #[.int .u8 vk, .int .i64 vn, .string vstr, .slice pv vl.length cv, .int .i64 vr], .int .i64 n]) ?_ rfl ?_
  · simp [results, Tryz.results67, go_sem, r0, r1, r2, r3, r4]
  · exact ⟨⟨vk, vn, vstr, vl, vr⟩, pv, cv, n, N, F', rfl, HE.out.1, HE.out.2.1.1, HE.out.2.1.2.1, HE.out.2.1.2.2, HE.out.2.2⟩
attribute [local go_sem ↓] execOp_stVw13 in
set_option maxHeartbeats 2000000 in
set_option maxRecDepth 8000 in
theorem plTake_A (hF : ∀ y, F y → y < w.heap.size) {r m : Int} {X : Val → Int → WM → Prop} (hD : ∀ w1, Below w.heap.size w w1 → Calls Tryz.prog 90 #[.pointer (some ⟨p, 0, none⟩), .int .i64 r, .int .u8 4, .agg (vcs (numV m) (.slice none 0 0))] w1 (ActPost w1 p F X)) :
    Calls Tryz.prog 70 #[.pointer (some ⟨p, 0, none⟩), .int .i64 r, .int .i64 m] w (ActPost w p F X) := by
  have hb0 : Below w.heap.size w (w.alloc (.cells #[.int .u8 0, .int .i64 0, .string ⟨#[]⟩, .slice none 0 0, .int .i64 0] 27)) := (Below.refl _ _).alloc (Nat.le_refl _) _
  have HD : Hid (∀ w1, Below w.heap.size w w1 → Calls Tryz.prog 90 #[.pointer (some ⟨p, 0, none⟩), .int .i64 r, .int .u8 4, .agg (vcs (numV m) (.slice none 0 0))] w1 (ActPost w1 p F X)) := hD
  have HB0 := (show Hid _ from And.intro hb0 (blk_new w (.cells #[.int .u8 0, .int .i64 0, .string ⟨#[]⟩, .slice none 0 0, .int .i64 0] 27)))
  have HF : Hid (∀ y, F y → y < w.heap.size) := hF
  clear hD hb0 hF
  simp only [vcs] at HD
  go_enter Tryz.func70, Tryz.ntmps70
  go_wp2_with fail
  refine (number_W _ m).mono ?_
  rintro e w1 ⟨rfl, hb1⟩
  have HB1 := (show Hid (Below w.heap.size w w1 ∧ w1.heap[w.heap.size]? = some (.cells zV 27 (0, 0)) ∧ w.heap.size < w1.heap.size) from ⟨HB0.out.1.trans (hb1.mono HB0.out.1.size), below_blk hb1 HB0.out.2, blk_lt (below_blk hb1 HB0.out.2)⟩)
  clear hb1 HB0
  go_wp2_with fail
  refine Calls.mono (HD.out _ HB1.out.1) ?_
  rintro e w2 ⟨v', pv, cv, n, N, F', rfl, hX, hk, hW', hF', hS⟩
  have hA : IsPart p F N F' _ w2 := ⟨hk, hW', hF'⟩
  have hg : w2.heap[w.heap.size]? = some (.cells zV 27 (0, 0)) := (hk.block _ HB1.out.2.2 (fun h => by have := HF.out _ h; omega)).trans HB1.out.2.1
  obtain ⟨vk, vn, vstr, vl, vr⟩ := v'
  have hst := storeV_blk (c' := #[.int .u8 vk, .int .i64 vn, .string vstr, .slice pv vl.length cv, .int .i64 vr]) hg rfl rfl (by simp [go_sem])
  have HZ := (show Hid _ from heap_setRow_at (c' := #[.int .u8 vk, .int .i64 vn, .string vstr, .slice pv vl.length cv, .int .i64 vr]) hg)
  have HE : Hid (X ⟨vk, vn, vstr, vl, vr⟩ n N ∧ IsPart p F N F' w (w2.setRow w.heap.size #[.int .u8 vk, .int .i64 vn, .string vstr, .slice pv vl.length cv, .int .i64 vr]) ∧ SlT (w2.setRow w.heap.size #[.int .u8 vk, .int .i64 vn, .string vstr, .slice pv vl.length cv, .int .i64 vr]) (fun y => w.heap.size ≤ y ∧ ¬ F' y) (.slice pv vl.length cv) vl) :=
    ⟨hX, hA.fin HF.out HB1.out.1 (Nat.le_refl _) HB1.out.2.2 (keeps_setRow _ _ _), slT_fin hS (Nat.le_of_lt HB1.out.2.2) HB1.out.2.2 (keeps_setRow _ _ _)⟩
  clear hX hA hk hW' hF' hS hg HD HB1
  simp only [vcs]
  go_wp2_with fail
  obtain ⟨⟨r0, r1, r2, r3, r4⟩, -⟩ := cells5 HZ.out
  refine bodyPost_ret (v := .tuple #[.agg #[.int .u8 vk, .int .i64 vn, .string vstr, .slice pv vl.length cv, .int .i64 vr], .int .i64 n]) ?_ rfl ?_
  · simp [results, Tryz.results70, go_sem, r0, r1, r2, r3, r4]
  · exact ⟨⟨vk, vn, vstr, vl, vr⟩, pv, cv, n, N, F', rfl, HE.out.1, HE.out.2.1.1, HE.out.2.1.2.1, HE.out.2.1.2.2, HE.out.2.2⟩
def ErrPost (w : World) (p : Nat) (F : Nat → Prop) (X : Val → Int → WM → Prop) (e : Ending) (w' : World) : Prop := ∃ v n N, e = .returned (.int .i64 n) ∧ X v n N ∧ Acts w p F N w'
set_option maxHeartbeats 2000000 in
set_option maxRecDepth 8000 in
theorem plGive_A {r : Int} {v : Val} {pv : Option Addr} {nv cv : Nat} {X : Val → Int → WM → Prop} (hD : ∀ w1, Below w.heap.size w w1 → Calls Tryz.prog 90 #[.pointer (some ⟨p, 0, none⟩), .int .i64 r, .int .u8 8, .agg (vcs v (.slice pv nv cv))] w1 (ActPost w1 p F X)) :
    Calls Tryz.prog 69 #[.pointer (some ⟨p, 0, none⟩), .int .i64 r, .agg (vcs v (.slice pv nv cv))] w (ErrPost w p F X) := by
  have hb0 : Below w.heap.size w (w.alloc (.cells (vcs v (.slice pv nv cv)) 27)) := (Below.refl _ _).alloc (Nat.le_refl _) _
  have HD := (show Hid _ from And.intro hb0 (hD _ hb0))
  clear hD hb0
  obtain ⟨vk, vn, vstr, vl, vr⟩ := v
  simp only [vcs] at HD ⊢
  go_enter Tryz.func69, Tryz.ntmps69
  go_wp2_with fail
  refine Calls.mono HD.out.2 ?_
  rintro e w2 h2
  obtain ⟨v', pv', cv', n, N, rfl, hX, hA⟩ := h2.acts
  obtain ⟨vk', vn', vstr', vl', vr'⟩ := v'
  have HE : Hid (X ⟨vk', vn', vstr', vl', vr'⟩ n N ∧ Acts w p F N (w2.alloc (.cells #[.int .u8 vk', .int .i64 vn', .string vstr', .slice pv' vl'.length cv', .int .i64 vr'] 27))) := ⟨hX, (hA.start HD.out.1).on ((Below.refl _ _).alloc (Nat.le_refl _) _)⟩
  clear hX hA h2 HD
  simp only [vcs]
  go_wp2_with fail
  go_ret
  exact ⟨_, n, N, rfl, HE.out.1, HE.out.2⟩
set_option maxHeartbeats 2000000 in
set_option maxRecDepth 8000 in
theorem plPut_A {r : Int} {v : Val} {pv : Option Addr} {nv cv : Nat} {X : Val → Int → WM → Prop} (hD : ∀ w1, Below w.heap.size w w1 → Calls Tryz.prog 90 #[.pointer (some ⟨p, 0, none⟩), .int .i64 r, .int .u8 2, .agg (vcs v (.slice pv nv cv))] w1 (ActPost w1 p F X)) :
    Calls Tryz.prog 71 #[.pointer (some ⟨p, 0, none⟩), .int .i64 r, .agg (vcs v (.slice pv nv cv))] w (ErrPost w p F X) := by
  have hb0 : Below w.heap.size w (w.alloc (.cells (vcs v (.slice pv nv cv)) 27)) := (Below.refl _ _).alloc (Nat.le_refl _) _
  have HD := (show Hid _ from And.intro hb0 (hD _ hb0))
  clear hD hb0
  obtain ⟨vk, vn, vstr, vl, vr⟩ := v
  simp only [vcs] at HD ⊢
  go_enter Tryz.func71, Tryz.ntmps71
  go_wp2_with fail
  refine Calls.mono HD.out.2 ?_
  rintro e w2 h2
  obtain ⟨v', pv', cv', n, N, rfl, hX, hA⟩ := h2.acts
  obtain ⟨vk', vn', vstr', vl', vr'⟩ := v'
  have HE : Hid (X ⟨vk', vn', vstr', vl', vr'⟩ n N ∧ Acts w p F N (w2.alloc (.cells #[.int .u8 vk', .int .i64 vn', .string vstr', .slice pv' vl'.length cv', .int .i64 vr'] 27))) := ⟨hX, (hA.start HD.out.1).on ((Below.refl _ _).alloc (Nat.le_refl _) _)⟩
  clear hX hA h2 HD
  simp only [vcs]
  go_wp2_with fail
  go_ret
  exact ⟨_, n, N, rfl, HE.out.1, HE.out.2⟩
end Go.Proofs.YthaliljaglldjaaGreat
/- plain.Do at a cell's get, a queue's put, take, give: one text for the four. -/
namespace Go.Proofs.YthaliljaglldjaaGreat
open Go.RowKit Go.ChangeMaps Go.MapKept
variable {w : World} {p : Nat} {M : WM} {F : Nat → Prop}
attribute [local go_sem ↓] execOp_stF execOp_stVd in
set_option maxHeartbeats 4000000 in
set_option maxRecDepth 20000 in
theorem Do_row {k a : Int} {tf f : Nat} (hrow : (k = 1 ∧ a = 1 ∧ tf = 247 ∧ f = 321) ∨ (k = 4 ∧ a = 2 ∧ tf = 167 ∧ f = 328) ∨ (k = 4 ∧ a = 4 ∧ tf = 167 ∧ f = 332) ∨ (k = 4 ∧ a = 8 ∧ tf = 167 ∧ f = 331)) (hW : IsW w p M F) {r : Int} (hr : (Lit.int .i64 r).wf = true) {t : Th} (ht : M.at r = some t) (hf : Fair t) (hk : t.kind = k) {F1 : Nat → Prop} {v : Val} {raw : Value} (hS : SlAt w F1 raw v.l) (hm : mayV v = true) (hkn : ∀ r ∈ refsV v, (Lit.int .i64 r).wf = true ∧ (M.at r).isSome = true)
    {Post : World → Val → Value → Int → World → Prop} {Post' : Val → Value → Int → World → Prop}
    (hP : ∀ w0 v raw n w1 w2 y, w.heap.size ≤ y → y < w0.heap.size → Keeps (fun z => z = y) w1 w2 → Post w0 v raw n w1 → Post' v raw n w2)
    (hM : ∀ w0 w' b, Below w.heap.size w w0 → FoundB w0 p r t tf b w' → Calls Tryz.prog f #[.pointer (some ⟨b, 0, none⟩), .agg (vcs v raw)] w' (MethPost w' F b (Post w0))) :
    Calls Tryz.prog 90 #[.pointer (some ⟨p, 0, none⟩), .int .i64 r, .int .u8 a, .agg (vcs v raw)] w fun e w' => ∃ v' pv cv n, e = .returned (.tuple #[.agg (vcs v' (.slice pv v'.l.length cv)), .int .i64 n]) ∧ Keeps F w w' ∧ Post' v' (.slice pv v'.l.length cv) n w' := by
  obtain ⟨pa, c, rfl⟩ := hS.form
  have HW : Hid (IsW w p M F) := hW
  have Ht : Hid (M.at r = some t ∧ Fair t ∧ t.kind = k) := ⟨ht, hf, hk⟩
  have HV : Hid (SlAt w F1 (.slice pa v.l.length c) v.l ∧ mayV v = true ∧ (∀ r ∈ refsV v, (Lit.int .i64 r).wf = true ∧ (M.at r).isSome = true)) := ⟨hS, hm, hkn⟩
  have HM := (show Hid _ from hM)
  have HP := (show Hid _ from hP)
  have hmf : ∀ (fn : Fn) (first cap : Array Value) (w : World), (Instr.makeFunc fn first cap).run Tryz.prog w = .ok (.func fn first cap) w := fun _ _ _ _ => rfl
  clear hW ht hf hk hS hm hkn hM hP
  obtain ⟨vk, vn, vstr, vl, vr⟩ := v
  simp only [vcs] at HM ⊢
  obtain ⟨w4, hst, HX⟩ : ∃ w4, (stF (.pointer (some ⟨w.heap.size + 1 + 1, 0, none⟩)) (.agg actsF)).run Tryz.prog (((w.alloc (.cells #[.int .u8 vk, .int .i64 vn, .string vstr, .slice pa vl.length c, .int .i64 vr] 27)).alloc (.cells #[.int .u8 0, .int .i64 0, .string ⟨#[]⟩, .slice none 0 0, .int .i64 0] 27)).alloc (.cells #[.nilFunc, .nilFunc, .nilFunc, .nilFunc] 240)) = .ok .skip w4 ∧
      Hid (Below w.heap.size w w4 ∧ w4.heap[w.heap.size]? = some (.cells #[.int .u8 vk, .int .i64 vn, .string vstr, .slice pa vl.length c, .int .i64 vr] 27 (0, 0)) ∧ w4.heap[w.heap.size + 1]? = some (.cells zV 27 (0, 0)) ∧ w4.heap[w.heap.size + 2]? = some (.cells actsF 240 (0, 0))) := by
    have g3 := blk_new ((w.alloc (.cells #[.int .u8 vk, .int .i64 vn, .string vstr, .slice pa vl.length c, .int .i64 vr] 27)).alloc (.cells #[.int .u8 0, .int .i64 0, .string ⟨#[]⟩, .slice none 0 0, .int .i64 0] 27)) (.cells #[.nilFunc, .nilFunc, .nilFunc, .nilFunc] 240)
    rw [World.size_alloc, World.size_alloc] at g3
    refine ⟨_, stF_run (c' := actsF) g3 rfl rfl (by simp only [actsF]; simp; exact ⟨rfl, rfl, rfl, rfl⟩), Below.setRow (((((Below.refl _ _).alloc (Nat.le_refl _) _).alloc (by simp) _).alloc (by simp; omega) _)) (by omega) _, ?_, ?_, heap_setRow_at g3⟩
    · rw [heap_setRow_other _ _ _ _ (by omega)]
      exact blk_old _ _ (blk2_old _ _ _)
    · rw [heap_setRow_other _ _ _ _ (by omega)]
      exact blk_old _ _ (blk2_new _ _ _)
  simp only [actsF] at hst
  rcases hrow with ⟨rfl, rfl, rfl, rfl⟩ | ⟨rfl, rfl, rfl, rfl⟩ | ⟨rfl, rfl, rfl, rfl⟩ | ⟨rfl, rfl, rfl, rfl⟩
  all_goals
    go_enter Tryz.func90, Tryz.ntmps90
    go_wp2_with fail
    first | with_reducible refine (Place1_W _).mono ?_ | with_reducible refine (Place2_W _).mono ?_ | with_reducible refine (Place4_W _).mono ?_ | with_reducible refine (Place8_W _).mono ?_
    rintro e w5 ⟨rfl, hb5⟩
    have HB5 := (show Hid (Below w.heap.size w w5 ∧ w5.heap[w.heap.size]? = some (.cells #[.int .u8 vk, .int .i64 vn, .string vstr, .slice pa vl.length c, .int .i64 vr] 27 (0, 0)) ∧ w5.heap[w.heap.size + 1]? = some (.cells zV 27 (0, 0)) ∧ w5.heap[w.heap.size + 2]? = some (.cells actsF 240 (0, 0))) from ⟨HX.out.1.trans (hb5.mono HX.out.1.size), below_blk hb5 HX.out.2.1, below_blk hb5 HX.out.2.2.1, below_blk hb5 HX.out.2.2.2⟩)
    clear hb5 HX hst hmf
    obtain ⟨⟨a0, a1, a2, a3, a4⟩, -⟩ := cells5 HB5.out.2.1
    go_wp2_with fail
    refine (there_W (HW.out.below HB5.out.1)).mono ?_
    rintro e _ ⟨rfl, rfl⟩
    go_wp2_with fail
    have hmay := vMay_G (v := ⟨vk, vn, vstr, vl, vr⟩) (HV.out.1.on HB5.out.1)
    rw [HV.out.2.1] at hmay
    refine hmay.mono ?_
    rintro e w6 ⟨rfl, hb6⟩
    have HB6 := (show Hid (Below w.heap.size w w6 ∧ w6.heap[w.heap.size]? = some (.cells #[.int .u8 vk, .int .i64 vn, .string vstr, .slice pa vl.length c, .int .i64 vr] 27 (0, 0)) ∧ w6.heap[w.heap.size + 1]? = some (.cells zV 27 (0, 0)) ∧ w6.heap[w.heap.size + 2]? = some (.cells actsF 240 (0, 0))) from ⟨HB5.out.1.trans (hb6.mono HB5.out.1.size), below_blk hb6 HB5.out.2.1, below_blk hb6 HB5.out.2.2.1, below_blk hb6 HB5.out.2.2.2⟩)
    clear hb6 hmay a0 a1 a2 a3 a4 HB5
    obtain ⟨⟨a0, a1, a2, a3, a4⟩, -⟩ := cells5 HB6.out.2.1
    go_wp2_with fail
    have hIs := Is_W (HW.out.below HB6.out.1) hr
    rw [Ht.out.1] at hIs
    refine hIs.mono ?_
    rintro e _ ⟨rfl, rfl⟩
    go_wp2_with fail
    refine (known_G (HW.out.below HB6.out.1) ⟨vk, vn, vstr, vl, vr⟩ _ (HV.out.1.on HB6.out.1) HV.out.2.2).mono ?_
    rintro e w7 ⟨rfl, hb7⟩
    have HB7 := (show Hid (Below w.heap.size w w7 ∧ w7.heap[w.heap.size]? = some (.cells #[.int .u8 vk, .int .i64 vn, .string vstr, .slice pa vl.length c, .int .i64 vr] 27 (0, 0)) ∧ w7.heap[w.heap.size + 1]? = some (.cells zV 27 (0, 0)) ∧ w7.heap[w.heap.size + 2]? = some (.cells actsF 240 (0, 0))) from ⟨HB6.out.1.trans (hb7.mono HB6.out.1.size), below_blk hb7 HB6.out.2.1, below_blk hb7 HB6.out.2.2.1, below_blk hb7 HB6.out.2.2.2⟩)
    clear hb7 hIs a0 a1 a2 a3 a4 HB6
    go_wp2_with fail
    first | with_reducible refine (find_1 (HW.out.below HB7.out.1) hr Ht.out.1 Ht.out.2.1 Ht.out.2.2).mono ?_ | with_reducible refine (find_4 (HW.out.below HB7.out.1) hr Ht.out.1 Ht.out.2.1 Ht.out.2.2).mono ?_
    rintro e w8 ⟨b, rfl, hfd⟩
    have hb8 : Below w7.heap.size w7 w8 := by obtain ⟨_, _, -, -, h, -⟩ := hfd; exact h
    have HB8 := (show Hid (Below w.heap.size w w8.drew ∧ w8.drew.heap[w.heap.size + 1]? = some (.cells zV 27 (0, 0)) ∧ b ≠ w.heap.size + 1 ∧ w.heap.size ≤ b ∧ w.heap.size + 1 < w7.heap.size) from ⟨(HB7.out.1.trans (hb8.mono HB7.out.1.size)).drew, below_blk hb8 HB7.out.2.2.1, by
      obtain ⟨_, _, -, h, -⟩ := hfd
      have := blk_lt HB7.out.2.2.1
      omega, by
      obtain ⟨_, _, -, h, -⟩ := hfd
      have := HB7.out.1.size
      omega, blk_lt HB7.out.2.2.1⟩)
    have hdb := blk_drew (below_blk hb8 HB7.out.2.2.2)
    have d0 : w8.drew.cell? ⟨w.heap.size + 1 + 1, 0, none⟩ = some (.func (.methodOf 157 "postern/plain.get") #[] #[]) := by rw [cell_blk hdb]; rfl
    have d1 : w8.drew.cell? ⟨w.heap.size + 1 + 1, 1, none⟩ = some (.func (.methodOf 157 "postern/plain.put") #[] #[]) := by rw [cell_blk hdb]; rfl
    have d2 : w8.drew.cell? ⟨w.heap.size + 1 + 1, 2, none⟩ = some (.func (.methodOf 157 "postern/plain.take") #[] #[]) := by rw [cell_blk hdb]; rfl
    have d3 : w8.drew.cell? ⟨w.heap.size + 1 + 1, 3, none⟩ = some (.func (.methodOf 157 "postern/plain.give") #[] #[]) := by rw [cell_blk hdb]; rfl
    clear hdb
    obtain ⟨⟨a0, a1, a2, a3, a4⟩, -⟩ := cells5 (blk_drew (below_blk hb8 HB7.out.2.1))
    have HC := (show Hid _ from HM.out w7 w8.drew b HB7.out.1 hfd.drew)
    clear hfd hb8 HB7 HM
    go_wp2_with fail
    refine wp_region_pivotS 5 2 (by kernel_rfl) (by kernel_rfl) ?_
    simp only [List.take_succ_cons, List.take_zero, List.drop_succ_cons, List.drop_zero]
    repeat still_step
    refine wpStill_nil ?_
    go_wp2_with fail
    refine Calls.mono HC.out ?_
    rintro e w9 ⟨v', pv, cv, n', rfl, hk9, hp9⟩
    have hlt := HW.out.lt
    have hz := blk_lt HB8.out.2.1
    have hg9 := (hk9.block _ hz (fun h => by
      rcases h with h | h
      · have := hlt _ h; omega
      · exact HB8.out.2.2.1 h.symm)).trans HB8.out.2.1
    obtain ⟨vk', vn', vstr', vl', vr'⟩ := v'
    have hst := storeV_blk (c' := #[.int .u8 vk', .int .i64 vn', .string vstr', .slice pv vl'.length cv, .int .i64 vr']) hg9 rfl rfl (by simp [go_sem])
    have HZ := (show Hid _ from heap_setRow_at (c' := #[.int .u8 vk', .int .i64 vn', .string vstr', .slice pv vl'.length cv, .int .i64 vr']) hg9)
    have HE : Hid (Keeps F w (w9.setRow (w.heap.size + 1) #[.int .u8 vk', .int .i64 vn', .string vstr', .slice pv vl'.length cv, .int .i64 vr']) ∧ Post' ⟨vk', vn', vstr', vl', vr'⟩ (.slice pv vl'.length cv) n' (w9.setRow (w.heap.size + 1) #[.int .u8 vk', .int .i64 vn', .string vstr', .slice pv vl'.length cv, .int .i64 vr'])) := by
      have hks : Keeps (fun z => z = w.heap.size + 1) w9 (w9.setRow (w.heap.size + 1) #[.int .u8 vk', .int .i64 vn', .string vstr', .slice pv vl'.length cv, .int .i64 vr']) := ⟨rfl, rfl, rfl, by simp [World.setRow], fun k _ hk => heap_setRow_other _ _ _ _ hk⟩
      refine ⟨?_, HP.out _ _ _ _ _ _ (w.heap.size + 1) (by omega) HB8.out.2.2.2.2 hks hp9⟩
      have h1 : Keeps F w w9 := ((Keeps.of_below (S := fun _ => False) HB8.out.1).trans hk9 (T := fun y => F y ∨ y = b) (fun _ _ h => h.elim) (fun _ _ h => h)).mono fun x hx h => by
        rcases h with h | h
        · exact h
        · have := HB8.out.2.2.2.1
          omega
      exact h1.trans hks (fun _ _ h => h) (fun x hx h => by omega)
    clear hk9 hp9 hg9 hz hlt HC HP d0 d1 d2 d3 a0 a1 a2 a3 a4
    simp only [vcs]
    go_wp2_with fail
    change wpStill _ _ _ _ _ _
    repeat still_step
    refine wpStill_nil ?_
    go_wp2_with fail
    obtain ⟨⟨r0, r1, r2, r3, r4⟩, -⟩ := cells5 HZ.out
    refine bodyPost_ret (v := .tuple #[.agg #[.int .u8 vk', .int .i64 vn', .string vstr', .slice pv vl'.length cv, .int .i64 vr'], .int .i64 n']) (by simp [results, Tryz.results90, go_sem, r0, r1, r2, r3, r4]) rfl ⟨⟨vk', vn', vstr', vl', vr'⟩, pv, cv, n', rfl, HE.out.1, HE.out.2⟩
end Go.Proofs.YthaliljaglldjaaGreat
/- plain: what acts on queues and cells come to. -/
namespace Go.Proofs.YthaliljaglldjaaGreat
open Go.RowKit Go.ChangeMaps Go.MapKept
variable {w : World} {p : Nat} {M : WM} {F : Nat → Prop}
theorem found_q {k r h : Int} {vs : List Val} {vals0 : Value} {ty : TypeId} {b : Nat} {w0 w' : World} (hty : ty ≠ 27) (hF : ∀ y, F y → y < w0.heap.size) (hfd : FoundB w0 p r (qT k h vs vals0) ty b w') :
    ∃ vals', w'.heap[b]? = some (.cells (baseC p r (qT k h vs vals')) ty (0, 0)) ∧ w0.heap.size ≤ b ∧ Below w0.heap.size w0 w' ∧ CapOk vals' ∧ ∃ FA : Nat → Prop, SlAt w' FA vals' vs ∧ ∀ y, FA y → y ≠ b ∧ ¬ F y := by
  obtain ⟨vl', vals', h1, h2, h3, h4, h5, -, h7⟩ := hfd
  rw [h5 rfl] at h1
  refine ⟨vals', h1, h2, h3, h7, TyB w' (fun x => w0.heap.size ≤ x), h4.vs, ?_⟩
  rintro y ⟨hy, cs, fr, hc⟩
  refine ⟨fun e => ?_, fun e => by have := hF y e; omega⟩
  subst e
  rw [h1] at hc
  cases hc
  exact hty rfl
theorem fair_q {k h : Int} {vs : List Val} {vals : Value} (h1 : ∀ x ∈ vs, mayV x = true) (h2 : vs.length ≤ 1024) : Fair (qT k h vs vals) := ⟨(refsV0 0 0 (.inl ⟨rfl, rfl⟩)).2, h1, h2⟩
def GiveX (M : WM) (r k h : Int) (vs : List Val) (x v : Val) (c : Int) (N : WM) : Prop :=
  v = nilV ∧ ((mayV (listV (vs ++ [x])) = true ∧ c = 0 ∧ ∃ vals', N = M.set r (qT k h (vs ++ [x]) vals')) ∨ (mayV (listV (vs ++ [x])) = false ∧ c = 8 ∧ N = M))
theorem GivePost.meth {w0 w1 w' : World} {r k h : Int} {vs : List Val} {v : Val} {b : Nat} {e : Ending} (hW : IsW w1 p M F) (hs : w0.heap.size ≤ w1.heap.size) (hg : GivePost w1 p M F r k h vs v b e w') : MethPost w1 F b (MethX p F (GiveX M r k h vs v) w0) e w' := by
  rcases hg with ⟨h0, rfl, vals', vl', vals2, F', l0, l1, l2, l3⟩ | ⟨h0, rfl, h1⟩
  · rw [l0 rfl] at l1
    exact ⟨nilV, none, 0, 0, rfl, l2, _, F', ⟨rfl, .inl ⟨h0, rfl, vals2, rfl⟩⟩, l1, fun y hy => (l3 y hy).imp id fun h => Nat.le_trans hs h, SlT.nil _ _ _ _⟩
  · exact ⟨nilV, none, 0, 8, rfl, Keeps.of_below h1, M, F, ⟨rfl, .inr ⟨h0, rfl, rfl⟩⟩, hW.below h1, fun _ h => .inl h, SlT.nil _ _ _ _⟩
theorem act_4_8 (hW : IsW w p M F) {r : Int} (hr : (Lit.int .i64 r).wf = true) {h : Int} {vs : List Val} {vals0 : Value} (ht : M.at r = some (qT 4 h vs vals0)) (hh : sideB M h = true) (hheld : ∀ r ∈ heldL (qT 4 h vs vals0), (Lit.int .i64 r).wf = true ∧ (M.at r).isSome = true) (hmay : ∀ x ∈ vs, mayV x = true) (hlen : vs.length ≤ 1024)
    {FB : Nat → Prop} {v : Val} {raw : Value} (hv : SlAt w FB raw v.l) (hm : mayV v = true) (hkn : ∀ r ∈ refsV v, (Lit.int .i64 r).wf = true ∧ (M.at r).isSome = true) :
    Calls Tryz.prog 90 #[.pointer (some ⟨p, 0, none⟩), .int .i64 r, .int .u8 8, .agg (vcs v raw)] w (ActPost w p F (GiveX M r 4 h vs v)) := by
  refine (Do_row (.inr (.inr (.inr ⟨rfl, rfl, rfl, rfl⟩))) hW hr ht (fair_q hmay hlen) rfl hv hm hkn (Post := MethX p F (GiveX M r 4 h vs v)) (Post' := fun v' raw n' w2 => MethX p F _ w v' raw n' w2)
    (methX_stab hW.lt) ?_).mono fun _ _ h => doAct h
  intro w0 w' b hb0 hfd
  obtain ⟨vals', hb, hbw, hbel, hcap, FA, hSA, hFA⟩ := found_q (F := F) (by decide) (fun y hy => Nat.lt_of_lt_of_le (hW.lt y hy) hb0.size) hfd
  have hbb := hb0.trans (hbel.mono hb0.size)
  have hW' : IsW w' p M F := hW.below hbb
  exact (qGive_W hW' hr (.inr rfl) ht hb (fun e => by have := hW.lt b e; have := hb0.size; omega) hh hSA (fun y hy => (hFA y hy).1) hcap hheld hmay hlen (hv.lt.on hbb) (fun y hy e => by have := hy.2; have := hb0.size; omega) hm hkn).mono fun e w'' hg => hg.meth hW' hbel.size
def TakeX (M : WM) (r h : Int) (vs : List Val) (m : Int) (v : Val) (c : Int) (N : WM) : Prop :=
  (m < 0 ∧ v = nilV ∧ c = 2 ∧ N = M) ∨ ((vs.length : Int) < m ∧ v = nilV ∧ c = 81 ∧ N = M) ∨ (0 ≤ m ∧ m ≤ vs.length ∧ v = listV (vs.take m.toNat) ∧ c = 0 ∧ ∃ vals', N = M.set r (qT 4 h (vs.drop m.toNat) vals'))
theorem act_4_4 (hW : IsW w p M F) {r : Int} (hr : (Lit.int .i64 r).wf = true) {h : Int} {vs : List Val} {vals0 : Value} (ht : M.at r = some (qT 4 h vs vals0)) (hh : sideB M h = true) (hheld : ∀ r ∈ heldL (qT 4 h vs vals0), (Lit.int .i64 r).wf = true ∧ (M.at r).isSome = true) (hmay : mayV (listV vs) = true) (hmays : ∀ x ∈ vs, mayV x = true) (m : Int) :
    Calls Tryz.prog 90 #[.pointer (some ⟨p, 0, none⟩), .int .i64 r, .int .u8 4, .agg (vcs (numV m) (.slice none 0 0))] w (ActPost w p F (TakeX M r h vs m)) := by
  have hv := refsV0 1 m (.inr rfl)
  have hlen := may_list_len hmay
  refine (Do_row (.inr (.inr (.inl ⟨rfl, rfl, rfl, rfl⟩))) hW hr ht (fair_q hmays (by omega)) rfl (v := numV m) (SlAt.nil w F none 0) hv.2 (fun r hr => by rw [hv.1] at hr; cases hr) (Post := MethX p F (TakeX M r h vs m)) (Post' := fun v' raw n' w2 => MethX p F _ w v' raw n' w2)
    (methX_stab hW.lt) ?_).mono fun _ _ h => doAct h
  intro w0 w' b hb0 hfd
  obtain ⟨vals', hb, hbw, hbel, hcap, FA, hSA, hFA⟩ := found_q (F := F) (by decide) (fun y hy => Nat.lt_of_lt_of_le (hW.lt y hy) hb0.size) hfd
  have hbb := hb0.trans (hbel.mono hb0.size)
  have hW' : IsW w' p M F := hW.below hbb
  by_cases h1 : m < 0
  · exact (qTake_arg w' b m h1).mono fun e w'' ⟨he, hb''⟩ => ⟨nilV, none, 0, 2, he, Keeps.of_below hb'', M, F, .inl ⟨h1, rfl, rfl, rfl⟩, hW'.below hb'', fun _ h => .inl h, SlT.nil _ _ _ _⟩
  by_cases h2 : (vs.length : Int) < m
  · obtain ⟨pa, c, e⟩ := hSA.form
    exact (qTake_short hb (show (qT 4 h vs vals').vals = .slice pa vs.length c from e) m h2).mono fun e w'' ⟨he, hb''⟩ => ⟨nilV, none, 0, 81, he, Keeps.of_below hb'', M, F, .inr (.inl ⟨h2, rfl, rfl, rfl⟩), hW'.below hb'', fun _ h => .inl h, SlT.nil _ _ _ _⟩
  · obtain ⟨k, rfl⟩ := Int.eq_ofNat_of_zero_le (show 0 ≤ m by omega)
    refine (qTake_W hW' hr ht hb (fun e => by have := hW.lt b e; have := hb0.size; omega) hh hSA hFA hcap hheld hmay hmays (k := k) (by omega)).mono ?_
    rintro e w'' ⟨raw', vals2, vl', vals3, F', he, hS', l0, l1, l2, l3⟩
    rw [l0 rfl] at l1
    obtain ⟨pr, cr, rfl⟩ := hS'.form
    exact ⟨listV (vs.take k), pr, cr, 0, he, l2, _, F', .inr (.inr ⟨by omega, by omega, rfl, rfl, vals3, rfl⟩), l1, fun y hy => (l3 y hy).imp id fun h => Nat.le_trans hbel.size h, hS'.mono fun y hy => ⟨Nat.le_trans hbel.size hy.1, hy.2⟩⟩
theorem act_4_2 (hW : IsW w p M F) {r : Int} (hr : (Lit.int .i64 r).wf = true) {h : Int} {vs : List Val} {vals0 : Value} (ht : M.at r = some (qT 4 h vs vals0)) (hmay : ∀ x ∈ vs, mayV x = true) (hlen : vs.length ≤ 1024)
    {FB : Nat → Prop} {v : Val} {raw : Value} (hv : SlAt w FB raw v.l) (hm : mayV v = true) (hkn : ∀ r ∈ refsV v, (Lit.int .i64 r).wf = true ∧ (M.at r).isSome = true) :
    Calls Tryz.prog 90 #[.pointer (some ⟨p, 0, none⟩), .int .i64 r, .int .u8 2, .agg (vcs v raw)] w (ActPost w p F (fun v c N => v = nilV ∧ c = 6 ∧ N = M)) := by
  refine (Do_row (.inr (.inl ⟨rfl, rfl, rfl, rfl⟩)) hW hr ht (fair_q hmay hlen) rfl hv hm hkn (Post := MethX p F (fun v c N => v = nilV ∧ c = 6 ∧ N = M)) (Post' := fun v' raw n' w2 => MethX p F _ w v' raw n' w2)
    (methX_stab hW.lt) ?_).mono fun _ _ h => doAct h
  intro w0 w' b hb0 hfd
  obtain ⟨vals', hb, hbw, hbel, -⟩ := found_q (F := F) (by decide) (fun y hy => Nat.lt_of_lt_of_le (hW.lt y hy) hb0.size) hfd
  have hW' : IsW w' p M F := hW.below (hb0.trans (hbel.mono hb0.size))
  obtain ⟨pv, cv, rfl⟩ := hv.form
  exact (bPut_W w' _ _ _ _ _ _ _ _).mono fun e w'' ⟨he, hb''⟩ => ⟨nilV, none, 0, 6, he, Keeps.of_below hb'', M, F, ⟨rfl, rfl, rfl⟩, hW'.below hb'', fun _ h => .inl h, SlT.nil _ _ _ _⟩
theorem act_1_1 (hW : IsW w p M F) {r : Int} (hr : (Lit.int .i64 r).wf = true) {h : Int} {x : Val} {raw : Value} (ht : M.at r = some (cellT h x raw)) (hm : mayV x = true) :
    Calls Tryz.prog 90 #[.pointer (some ⟨p, 0, none⟩), .int .i64 r, .int .u8 1, .agg (vcs nilV (.slice none 0 0))] w (ActPost w p F (fun v c N => v = x ∧ c = 0 ∧ N = M)) := by
  have hv := refsV0 0 0 (.inl ⟨rfl, rfl⟩)
  refine (Do_row (.inl ⟨rfl, rfl, rfl, rfl⟩) hW hr ht ⟨hm, fun x hx => (by cases hx), Nat.zero_le _⟩ rfl (v := nilV) (SlAt.nil w F none 0) hv.2 (fun r hr => by rw [hv.1] at hr; cases hr) (Post := MethX p F (fun v c N => v = x ∧ c = 0 ∧ N = M)) (Post' := fun v' raw n' w2 => MethX p F _ w v' raw n' w2)
    (methX_stab hW.lt) ?_).mono fun _ _ h => doAct h
  intro w0 w' b hb0 hfd
  obtain ⟨vl', vals', hb, hbw, hbel, hdeep, -, -, -⟩ := hfd
  have hW' : IsW w' p M F := hW.below (hb0.trans (hbel.mono hb0.size))
  obtain ⟨pv, cv, e⟩ := hdeep.v.form
  have e' : vl' = .slice pv x.l.length cv := e
  subst e'
  exact (cGet_W hb rfl).mono fun e w'' ⟨he, hb''⟩ => ⟨x, pv, cv, 0, he, Keeps.of_below hb'', M, F, ⟨rfl, rfl, rfl⟩, hW'.below hb'', fun _ h => .inl h, (hdeep.v.on hb'').mono fun y hy => ⟨hy, fun e => by have := hW.lt y e; have := hb0.size; have : w0.heap.size ≤ y := hy; omega⟩⟩
set_option maxRecDepth 8000 in
theorem rSame_num (w : World) (n : Int) (pv : Option Addr) (cv : Nat) : Calls Tryz.prog 68 #[.agg #[.int .u8 1, .int .i64 n, .string ⟨#[]⟩, .slice pv 0 cv, .int .i64 0], .agg #[.int .u8 1, .int .i64 n, .string ⟨#[]⟩, .slice none 0 0, .int .i64 0]] w fun e w' => e = .returned (.bool true) ∧ Below w.heap.size w w' := by
  go_enter Tryz.func68, Tryz.ntmps68
  go_wp2
  go_rounds 1
  go_ret
  exact ⟨rfl, by go_grown⟩
end Go.Proofs.YthaliljaglldjaaGreat
