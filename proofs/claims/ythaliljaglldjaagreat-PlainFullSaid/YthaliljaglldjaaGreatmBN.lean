/- A part of the proof, several texts in one: FullW, OpenV, OpenW. -/
import Derived.Test.YthaliljaglldjaaGreatmBM
import Derived.Test.YthaliljaglldjaaGreatmBC
import Derived.Test.YthaliljaglldjaaGreatmAB
import Derived.Test.YthaliljaglldjaaGreatmAM
/- PlainFull: its walk. -/
namespace Go.Proofs.YthaliljaglldjaaGreat
open Go.RowKit Go.ChangeMaps Go.MapKept
theorem execOp_ldFl23 (ρ : Operand → Value) (ty : TypeId) (pos : String) (af : Array Edge) (g : Option (Nat × Bool)) :
    execOp ρ { dst := some 23, op := .load 27 (.tmp 5), type := ty, pos := pos, after := af, guard := g } = ldV (ρ (.tmp 5)) := rfl
theorem execOp_ldFl94 (ρ : Operand → Value) (ty : TypeId) (pos : String) (af : Array Edge) (g : Option (Nat × Bool)) :
    execOp ρ { dst := some 94, op := .load 27 (.tmp 5), type := ty, pos := pos, after := af, guard := g } = ldV (ρ (.tmp 5)) := rfl
theorem execOp_ldFl102 (ρ : Operand → Value) (ty : TypeId) (pos : String) (af : Array Edge) (g : Option (Nat × Bool)) :
    execOp ρ { dst := some 102, op := .load 27 (.tmp 5), type := ty, pos := pos, after := af, guard := g } = ldV (ρ (.tmp 5)) := rfl
theorem execOp_stFl (ρ : Operand → Value) (ty : TypeId) (pos : String) (af : Array Edge) (g : Option (Nat × Bool)) :
    execOp ρ { dst := none, op := .store 27 (.tmp 7) (.tmp 25), type := ty, pos := pos, after := af, guard := g } = stV (ρ (.tmp 7)) (ρ (.tmp 25)) := rfl
attribute [local go_sem ↓] execOp_ldFl23 execOp_ldFl94 execOp_ldFl102 execOp_stFl in
set_option maxHeartbeats 16000000 in
set_option maxRecDepth 20000 in
theorem full_walk (W : World) (k n : Int) (v : Val) (raw : Value) (hS : SlAt W (fun b => b < W.heap.size) raw v.l) (hwf : v.wf) (hk : 0 ≤ k) :
    Calls Tryz.prog 3 #[.int .u8 k, .int .i64 n, .agg (vcs v raw)] W fun e w' => e = .returned (.bool true) ∧ Below W.heap.size W w' := by
  obtain ⟨pa, c, rfl⟩ := hS.form
  have HS := (show Hid (SlAt W (fun b => b < W.heap.size) (.slice pa v.l.length c) v.l ∧ v.wf) from ⟨hS, hwf⟩)
  have H1 : Hid (Below W.heap.size W (W.alloc (.cells (vcs v (.slice pa v.l.length c)) 27)) ∧ (W.alloc (.cells (vcs v (.slice pa v.l.length c)) 27)).heap[W.heap.size]? = some (.cells (vcs v (.slice pa v.l.length c)) 27 (0, 0))) := ⟨(Below.refl _ W).alloc (Nat.le_refl _) _, blk_new _ _⟩
  clear hS hwf
  simp only [vcs] at H1 ⊢
  go_enter Tryz.func3, Tryz.ntmps3
  go_upto_region 2 with fail
  revert H1
  generalize W.alloc _ = w1
  intro H1
  obtain ⟨NN, hNN⟩ : ∃ NN, NN = max 500 (min n 512) := ⟨_, rfl⟩
  obtain ⟨nn, hnn, hn5⟩ : ∃ nn : Nat, NN = (nn : Int) ∧ nn ≤ 512 := ⟨NN.toNat, by omega, by omega⟩
  rw [← hNN, hnn]
  clear hNN hnn
  have hl1 := loadV_blk H1.out.2 rfl
  go_wp2_with fail
  refine (room_T v (.slice pa v.l.length c) (HS.out.1.on H1.out.1)).mono ?_
  rintro e w2 ⟨raw', rfl, ⟨pr, nr, cr, rfl⟩, hb2, -⟩
  have H2 : Hid (Below W.heap.size W w2 ∧ w2.heap[W.heap.size]? = some (.cells #[.int .u8 v.kind, .int .i64 v.n, .string v.s, .slice pa v.l.length c, .int .i64 v.r] 27 (0, 0))) := ⟨H1.out.1.trans (hb2.mono H1.out.1.size), below_blk hb2 H1.out.2⟩
  clear hb2 H1 hl1
  have H3 : Hid (∀ w3, w3 = (w2.alloc (.cells zV 27)).setRow w2.heap.size (vcs v (.slice pr nr cr)) → Below W.heap.size W w3 ∧ w3.heap[W.heap.size]? = some (.cells #[.int .u8 v.kind, .int .i64 v.n, .string v.s, .slice pa v.l.length c, .int .i64 v.r] 27 (0, 0))) := fun w3 e => by
    subst e
    have hb : Below w2.heap.size w2 ((w2.alloc (.cells zV 27)).setRow w2.heap.size (vcs v (.slice pr nr cr))) := Below.setRow ((Below.refl _ w2).alloc (Nat.le_refl _) _) (Nat.le_refl _) _
    exact ⟨H2.out.1.trans (hb.mono H2.out.1.size), below_blk hb H2.out.2⟩
  have hst7 := storeV_blk (c' := vcs v (.slice pr nr cr)) (blk_new w2 (.cells zV 27)) rfl rfl (by simp [go_sem, vcs])
  obtain ⟨RB, hRB⟩ : ∃ RB, RB = roomB v := ⟨_, rfl⟩
  have HRB := (show Hid (RB = roomB v) from hRB)
  rw [← hRB]
  clear hRB
  simp only [vcs, zV] at hst7 H3 ⊢
  go_upto_region 3 with fail
  clear hst7
  revert H3
  generalize World.setRow _ _ _ = w3
  intro H3
  have H3 := (show Hid (_ ∧ _) from H3.out w3 rfl)
  clear H2
  cases RB with
  | false =>
    go_wp2_with fail
    refine (awake08_W w3).mono ?_
    rintro e w4 ⟨rfl, hb4⟩
    have HF : Hid (Below W.heap.size W w4) := H3.out.1.trans (hb4.mono H3.out.1.size)
    clear hb4 H3
    go_wp2_with fail
    go_ret
    exact ⟨rfl, HF.out⟩
  | true =>
    by_cases hkk : k = 1 ∨ k = 2 ∨ k = 3 ∨ k = 4 ∨ k = 10
    rotate_left
    · have b1 : (k != 1) = true := by have : ¬ k = 1 := fun e => hkk (.inl e); simpa using this
      have b2 : (k != 2) = true := by have : ¬ k = 2 := fun e => hkk (.inr (.inl e)); simpa using this
      have b3 : (k != 3) = true := by have : ¬ k = 3 := fun e => hkk (.inr (.inr (.inl e))); simpa using this
      have b4 : (k != 4) = true := by have : ¬ k = 4 := fun e => hkk (.inr (.inr (.inr (.inl e)))); simpa using this
      have b10 : (k != 10) = true := by have : ¬ k = 10 := fun e => hkk (.inr (.inr (.inr (.inr e)))); simpa using this
      clear hkk
      go_wp2_with fail
      refine (awake08_W w3).mono ?_
      rintro e w4 ⟨rfl, hb4⟩
      have HF : Hid (Below W.heap.size W w4) := H3.out.1.trans (hb4.mono H3.out.1.size)
      clear hb4 H3
      go_wp2_with fail
      go_ret
      exact ⟨rfl, HF.out⟩
    have HK := (show Hid (k = 1 ∨ k = 2 ∨ k = 3 ∨ k = 4 ∨ k = 10) from hkk)
    clear hkk
    go_cut [48] (fun v48 wx => v48 = .bool false ∧ w3 = wx)
    case first =>
      rcases HK.out with rfl | rfl | rfl | rfl | rfl
      all_goals
        clear HK H3
        go_wp2_with fail
        go_meet
        case rel => first | exact ⟨rfl, rfl⟩ | trivial
    obtain ⟨rfl, rfl⟩ := hcut
    have H4 : Hid (Below W.heap.size W (w3.alloc (.cells #[.int .i64 0] 35)) ∧ (w3.alloc (.cells #[.int .i64 0] 35)).heap[W.heap.size]? = some (.cells #[.int .u8 v.kind, .int .i64 v.n, .string v.s, .slice pa v.l.length c, .int .i64 v.r] 27 (0, 0)) ∧ SideArg (w3.alloc (.cells #[.int .i64 0] 35)) (some ⟨w3.heap.size, 0, none⟩) [0]) :=
      ⟨H3.out.1.trans (((Below.refl _ w3).alloc (Nat.le_refl _) _).mono H3.out.1.size), blk_old _ _ H3.out.2, .inr ⟨_, 0, rfl, fun j x hj => by
        match j, hj with
        | 0, hj => cases hj; rw [cell_blk (blk_new _ _)]; rfl
        | j + 1, hj => simp at hj⟩⟩
    refine ‹∀ (a : Act) (w : World), Code.wp Tryz.prog _ _ a w → _› _ _ ?_
    go_wp2_with fail
    revert H4
    generalize w3.alloc _ = w4
    generalize w3.heap.size = b4
    intro H4
    clear H3
    refine (New_W w4 (some ⟨b4, 0, none⟩) 1 [0] H4.out.2.2).mono ?_
    rintro e w5 hpost
    obtain ⟨p, F, rfl, hW, hF, hb⟩ := (Or.resolve_right hpost (fun h => h.1 tree0)).2
    clear hpost
    have H5 : Hid (IsW w5 p (WM.new [0]) F ∧ (∀ b, F b → w4.heap.size ≤ b) ∧ Below w4.heap.size w4 w5) := ⟨hW, hF, hb⟩
    clear hW hF hb
    have HSA : Hid (SideArg (w5.alloc (.cells #[.int .i64 0] 35)) (some ⟨w5.heap.size, 0, none⟩) [0] ∧ Below w5.heap.size w5 (w5.alloc (.cells #[.int .i64 0] 35))) := ⟨.inr ⟨_, 0, rfl, fun j x hj => by
        match j, hj with
        | 0, hj => cases hj; rw [cell_blk (blk_new _ _)]; rfl
        | j + 1, hj => simp at hj⟩, (Below.refl _ w5).alloc (Nat.le_refl _) _⟩
    go_wp2_with fail
    refine (new7_W _ (some ⟨w5.heap.size, 0, none⟩) 1 [0] HSA.out.1 tree0).mono ?_
    rintro e w6 ⟨q, G, rfl, hR, hG, hb⟩
    have HI6 : Hid (FulI w4 p q 0 (fun m => m = 0) w6) := both_new H5.out.1 H5.out.2.1 H5.out.2.2 hR (fun b hb => Nat.le_trans HSA.out.2.size (hG b hb)) (HSA.out.2.trans (hb.mono HSA.out.2.size))
    have HBx : Hid (∀ wr, Below w4.heap.size w4 wr → wr.heap[W.heap.size]? = some (.cells #[.int .u8 v.kind, .int .i64 v.n, .string v.s, .slice pa v.l.length c, .int .i64 v.r] 27 (0, 0)) ∧ Below W.heap.size W wr) := fun wr hb => ⟨below_blk hb H4.out.2.1, H4.out.1.trans (hb.mono H4.out.1.size)⟩
    have HSt : Hid (∀ (h : Int) (wr : World) (c' : Int), c' + 2 ≤ 100000 → FulI w4 p q c' (fun _ => True) wr → Calls Tryz.prog 16 #[.pointer (some ⟨p, 0, none⟩), .pointer (some ⟨q, 0, none⟩), .agg #[.int .i64 0, .int .u8 k, .int .i64 h, .int .i64 0, .int .u8 0, .int .u8 v.kind, .int .i64 v.n, .string v.s, .slice pa v.l.length c, .int .i64 v.r]] wr fun e w' => e = .returned (.bool true) ∧ FulI w4 p q (c' + 2) (fun _ => True) w') := fun h wr c' hc hI =>
      step2_W (F1 := fun b => b < W.heap.size) hI hc HK.out h v (.slice pa v.l.length c) (HS.out.1.on H4.out.1) (fun b hb => Nat.lt_of_lt_of_le hb H4.out.1.size) HS.out.2 HRB.out.symm
    clear hR hG hb H5 HSA H4 HS HRB HK
    go_wp2_with fail
    go_loopw [13] (fun vi wr => ∃ i : Nat, vi = .int .i64 i ∧ i ≤ nn ∧ Hid (FulI w4 p q i (fun m => m = i) wr)) (fun vi _ => nn - (intOf vi).toNat)
    case atStart => exact ⟨0, rfl, Nat.zero_le _, HI6.out⟩
    case round =>
      clear HI6
      obtain ⟨i, rfl, hi, HI⟩ := hrel
      by_cases hin : i < nn
      · have hiz : (i : Int) < (nn : Int) := by omega
        have hlog := log2_W HI.out (by omega) (by omega)
        go_wp2_with fail
        refine hlog.mono ?_
        clear hlog
        rintro e w7 ⟨r7, rfl, h7⟩
        have H7 := (show Hid _ from h7)
        clear h7
        go_wp2_with fail
        refine Calls.mono H7.out ?_
        rintro e w8 ⟨r8, rfl, h8⟩
        have H8 := (show Hid (FulI w4 p q ((i : Int) + 1) (fun m => m = (i : Int) + 1) w8) from h8)
        clear h8 H7 HI
        go_wp2_with fail
        go_roundw
        case rel => exact ⟨i + 1, by go_num, by omega, by have := H8.out; rw [Int.natCast_succ]; exact this⟩
        case measure => (simp [intOf]; omega)
      · have hiz : ¬ (i : Int) < (nn : Int) := by omega
        obtain rfl : i = nn := by omega
        have hkk : ¬ (i : Int) < (i : Int) := by omega
        have HI0 : Hid (FulI w4 p q ((i : Int) + 4 * ((0 : Nat) : Int)) (fun _ => True) wr) := by
          obtain ⟨M, N, F', G', h1, h2, h3, h4, h5, -⟩ := HI.out
          exact ⟨M, N, F', G', h1, h2, h3, by omega, h5, trivial⟩
        clear HI
        go_wp2_with fail
        go_loopw [18] (fun vi wr => ∃ j : Nat, vi = .int .i64 j ∧ j ≤ 8 ∧ Hid (FulI w4 p q ((i : Int) + 4 * (j : Int)) (fun _ => True) wr)) (fun vi _ => 8 - (intOf vi).toNat)
        case atStart => exact ⟨0, rfl, Nat.zero_le _, HI0.out⟩
        case round =>
          clear HI0
          obtain ⟨j, rfl, hj, HI⟩ := hrel
          by_cases hj8 : j < 8
          · have hjz : (j : Int) < 8 := by omega
            have b5 : wr.heap[W.heap.size]? = some (.cells #[.int .u8 v.kind, .int .i64 v.n, .string v.s, .slice pa v.l.length c, .int .i64 v.r] 27 (0, 0)) := by
              obtain ⟨M, N, F', G', -, -, h3, -⟩ := HI.out
              exact (HBx.out wr h3).1
            have hl := loadV_blk b5 rfl
            clear b5
            go_wp2_with fail
            refine (HSt.out 1 wr _ (by omega) HI.out).mono ?_
            rintro e w7 ⟨rfl, h7⟩
            have H7 := (show Hid (FulI w4 p q ((i : Int) + 4 * (j : Int) + 2) (fun _ => True) w7) from h7)
            clear h7 HI hl
            have b5 : w7.heap[W.heap.size]? = some (.cells #[.int .u8 v.kind, .int .i64 v.n, .string v.s, .slice pa v.l.length c, .int .i64 v.r] 27 (0, 0)) := by
              obtain ⟨M, N, F', G', -, -, h3, -⟩ := H7.out
              exact (HBx.out w7 h3).1
            have hl := loadV_blk b5 rfl
            clear b5
            go_wp2_with fail
            refine (HSt.out 0 w7 _ (by omega) H7.out).mono ?_
            rintro e w8 ⟨rfl, h8⟩
            have H8 : Hid (FulI w4 p q ((i : Int) + 4 * ((j + 1 : Nat) : Int)) (fun _ => True) w8) := by
              have e : (i : Int) + 4 * ((j + 1 : Nat) : Int) = (i : Int) + 4 * (j : Int) + 2 + 2 := by omega
              show FulI _ _ _ _ _ _
              rw [e]
              exact h8
            clear h8 H7 hl
            go_wp2_with fail
            go_roundw
            case rel => exact ⟨j + 1, by go_num, by omega, H8.out⟩
            case measure => (simp [intOf]; omega)
          · obtain rfl : j = 8 := by omega
            have HSm : Hid (Calls Tryz.prog 17 #[.pointer (some ⟨p, 0, none⟩), .pointer (some ⟨q, 0, none⟩)] wr fun e w' => e = .returned (.bool true) ∧ Below W.heap.size W w') := by
              obtain ⟨M, N, F', G', h1, h2, h3, h4, -⟩ := HI.out
              refine (same8_W h1 (by omega)).mono ?_
              rintro e w' ⟨rfl, hb⟩
              have h5 := (HBx.out wr h3).2
              exact ⟨rfl, h5.trans (hb.mono h5.size)⟩
            clear HI
            go_wp2_with fail
            refine Calls.mono HSm.out ?_
            rintro e w7 ⟨rfl, hb7⟩
            have H7 := (show Hid (Below W.heap.size W w7) from hb7)
            clear hb7 HSm
            go_wp2_with fail
            refine (awake08_W w7).mono ?_
            rintro e w8 ⟨rfl, hb8⟩
            have H8 := (show Hid (Below W.heap.size W w8) from H7.out.trans (hb8.mono H7.out.size))
            clear hb8 H7
            go_wp2_with fail
            go_ret
            exact ⟨rfl, H8.out⟩
end Go.Proofs.YthaliljaglldjaaGreat
/- Arguments of a law that are values or slices of values: what the walk is given. -/
namespace Go.Proofs.YthaliljaglldjaaGreat
open Go.ChangeShapes Go.WideShapes Go.ChangeAt Go.RowKit
theorem cellsV : Tryz.prog.cellsOf 27 = 5 := by kernel_rfl
theorem cellsVKind : Tryz.prog.cellsOf 23 = 1 := by kernel_rfl
theorem cellsI64 : Tryz.prog.cellsOf 2 = 1 := by kernel_rfl
theorem cellsStr : Tryz.prog.cellsOf 9 = 1 := by kernel_rfl
theorem cellsLV : Tryz.prog.cellsOf 24 = 1 := by kernel_rfl
theorem cellsRef : Tryz.prog.cellsOf 25 = 1 := by kernel_rfl
theorem addr_add (b o i : Nat) : (⟨b, o, none⟩ : Addr).add i = ⟨b, o + i, none⟩ := by unfold Addr.add; split <;> simp_all
end Go.Proofs.YthaliljaglldjaaGreat
/- Arguments of a law that are values or slices of values: what the walk is given, with the ranges (Val.wf). -/
namespace Go.Proofs.YthaliljaglldjaaGreat
open Go.ChangeShapes Go.WideShapes Go.ChangeAt Go.RowKit
theorem wf_u8W {y : Int} (h : (Lit.int .u8 y).wf = true) : 0 ≤ y ∧ y ≤ 255 := by
  simp [Lit.wf, IntKind.min, IntKind.max, IntKind.signed, IntKind.bits] at h
  omega
set_option maxRecDepth 100000 in
theorem trod_valsW {H : Type} {enc : TypeId × Value → H} {W : World} {base : Nat} {held : Bool} {spare : Nat → Bool} : ∀ fuel : Nat,
    (∀ cs x, DataW.trod enc Tryz.prog W base spare held fuel 24 cs = some x → ∃ s l, cs = [s] ∧ SlAt W (fun b => b < W.heap.size) s l ∧ (l.length : Int) ≤ maxLen ∧ (∃ pa c, s = .slice pa l.length c ∧ l.length ≤ c) ∧ ∀ x ∈ l, x.wf) ∧
    (∀ cs x, DataW.trod enc Tryz.prog W base spare held fuel 27 cs = some x → ∃ v raw, cs = (vcs v raw).toList ∧ SlAt W (fun b => b < W.heap.size) raw v.l ∧ v.wf) := by
  intro fuel
  induction fuel with
  | zero => exact ⟨fun cs x h => by simp [DataW.trod] at h, fun cs x h => by simp [DataW.trod] at h⟩
  | succ n ih =>
    refine ⟨fun cs x h => ?_, fun cs x h => ?_⟩
    · rcases DataW.trod_slice Tryz.underlying24 h with ⟨rfl, -⟩ | ⟨a, len, cap, elems, rest, m, hm, rfl, rfl, hb, hl, hc, hlen, hel, -, -⟩
      · exact ⟨_, [], rfl, SlAt.nil _ _ _ _, by simp [maxLen], ⟨_, _, rfl, Nat.le_refl _⟩, fun x hx => (by cases hx)⟩
      · cases hm
        have each : ∀ i, i < len → ∃ v raw, (SlAt W (fun b => b < W.heap.size) raw v.l ∧ v.wf) ∧ ∀ k, k < 5 → W.cell? ((a.add (i * 5)).add k) = (vcs v raw)[k]? := fun i hi => by
          have h1 := hel i hi
          rw [List.getElem?_eq_getElem (by omega), Option.bind_eq_some_iff] at h1
          obtain ⟨cs', h2, h3⟩ := h1
          obtain ⟨v, raw, rfl, hS⟩ := ih.2 _ _ h3
          rw [cellsV] at h2
          obtain ⟨-, -, h4⟩ := World.cells?_some h2
          exact ⟨v, raw, hS, fun k hk => (h4 k hk).trans (by simp)⟩
        by_cases h0 : len = 0
        · subst h0
          exact ⟨_, [], rfl, SlAt.nil _ _ _ _, by simp, ⟨_, _, rfl, Nat.zero_le _⟩, fun x hx => (by cases hx)⟩
        obtain ⟨b, o, rfl⟩ : ∃ b o, a = ⟨b, o, none⟩ := by
          obtain ⟨v, raw, -, h1⟩ := each 0 (by omega)
          have c0 : W.cell? ((a.add (0 * 5)).add 0) = some (.int .u8 v.kind) := h1 0 (by omega)
          obtain ⟨b, o, sp⟩ := a
          have hs : sp = none := by simpa [Addr.add] using World.cell?_spot c0
          exact ⟨b, o, by rw [hs]⟩
        have key : ∀ i, ∃ p : Val × Value, i < len → (SlAt W (fun b => b < W.heap.size) p.2 p.1.l ∧ p.1.wf) ∧ ∀ k, k < 5 → W.cell? ⟨b, o + 5 * i + k, none⟩ = (vcs p.1 p.2)[k]? := fun i => by
          by_cases hi : i < len
          · obtain ⟨v, raw, h1, h2⟩ := each i hi
            refine ⟨(v, raw), fun _ => ⟨h1, fun k hk => ?_⟩⟩
            have := h2 k hk
            rw [addr_add, addr_add, Nat.mul_comm i 5] at this
            exact this
          · exact ⟨(⟨0, 0, ⟨#[]⟩, [], 0⟩, undef), fun h => absurd h hi⟩
        obtain ⟨f, hf⟩ := Classical.axiomOfChoice key
        have hS : SlAt W (fun b => b < W.heap.size) (.slice (some ⟨b, o, none⟩) ((List.range len).map fun i => (f i).1).length cap) ((List.range len).map fun i => (f i).1) := by
          refine SlAt.mk _ _ _ (fun i => (f i).2) (fun i v hv => ?_) (fun i v hv => ?_)
          · have hi := (List.getElem?_eq_some_iff.1 hv).1
            simp only [List.length_map, List.length_range] at hi
            have hv' : v = (f i).1 := by
              simp [List.getElem?_map, List.getElem?_range hi] at hv
              exact hv.symm
            subst hv'
            obtain ⟨h1, h2⟩ := hf i hi
            have c0 := h2 0 (by omega)
            exact ⟨b, o, rfl, World.block_lt_of_cell? _ ⟨b, o + 5 * i + 0, none⟩ c0, c0, h2 1 (by omega), h2 2 (by omega), h2 3 (by omega), h2 4 (by omega)⟩
          · have hi := (List.getElem?_eq_some_iff.1 hv).1
            simp only [List.length_map, List.length_range] at hi
            have hv' : v = (f i).1 := by
              simp [List.getElem?_map, List.getElem?_range hi] at hv
              exact hv.symm
            subst hv'
            exact (hf i hi).1.1
        have e : ((List.range len).map fun i => (f i).1).length = len := by simp
        rw [e] at hS
        exact ⟨.slice (some ⟨b, o, none⟩) len cap, _, rfl, hS, by rw [e]; omega, ⟨_, _, by rw [e], by rw [e]; exact hl⟩, fun x hx => by
          simp only [List.mem_map, List.mem_range] at hx
          obtain ⟨i, hi, rfl⟩ := hx
          exact (hf i hi).1.2⟩
    · obtain ⟨xs, m, hm, rfl, hlen, hxs, hfs⟩ := DataW.trod_struct Tryz.underlying27 h
      cases hm
      rw [cellsV] at hlen
      match cs, hlen with
      | [c0, c1, c2, c3, c4], _ =>
        have hx : xs.length = 5 := hxs
        have g0 : DataW.trod enc Tryz.prog W base spare held n 23 [c0] = some (xs[0]'(by omega)) := by
          have g := hfs 0 _ rfl
          rw [List.getElem?_eq_getElem (by omega)] at g
          rw [← g]
          show _ = DataW.trod enc Tryz.prog W base spare held n 23 ([c0, c1, c2, c3, c4].take (Tryz.prog.cellsOf 23))
          rw [cellsVKind]
          rfl
        have g1 : DataW.trod enc Tryz.prog W base spare held n 2 [c1] = some (xs[1]'(by omega)) := by
          have g := hfs 1 _ rfl
          rw [List.getElem?_eq_getElem (by omega)] at g
          rw [← g]
          show _ = DataW.trod enc Tryz.prog W base spare held n 2 ([c1, c2, c3, c4].take (Tryz.prog.cellsOf 2))
          rw [cellsI64]
          rfl
        have g2 : DataW.trod enc Tryz.prog W base spare held n 9 [c2] = some (xs[2]'(by omega)) := by
          have g := hfs 2 _ rfl
          rw [List.getElem?_eq_getElem (by omega)] at g
          rw [← g]
          show _ = DataW.trod enc Tryz.prog W base spare held n 9 ([c2, c3, c4].take (Tryz.prog.cellsOf 9))
          rw [cellsStr]
          rfl
        have g3 : DataW.trod enc Tryz.prog W base spare held n 24 [c3] = some (xs[3]'(by omega)) := by
          have g := hfs 3 _ rfl
          rw [List.getElem?_eq_getElem (by omega)] at g
          rw [← g]
          show _ = DataW.trod enc Tryz.prog W base spare held n 24 ([c3, c4].take (Tryz.prog.cellsOf 24))
          rw [cellsLV]
          rfl
        have g4 : DataW.trod enc Tryz.prog W base spare held n 25 [c4] = some (xs[4]'(by omega)) := by
          have g := hfs 4 _ rfl
          rw [List.getElem?_eq_getElem (by omega)] at g
          rw [← g]
          show _ = DataW.trod enc Tryz.prog W base spare held n 25 ([c4].take (Tryz.prog.cellsOf 25))
          rw [cellsRef]
          rfl
        obtain ⟨k, e0, -, wk⟩ := DataW.trod_int Tryz.underlying23 g0
        obtain ⟨m, e1, -, wm⟩ := DataW.trod_int Tryz.underlying2 g1
        obtain ⟨s, e2, -, -⟩ := DataW.trod_string Tryz.underlying9 g2
        obtain ⟨raw, l, e3, hS, hln, -, hwf⟩ := ih.1 _ _ g3
        obtain ⟨r, e4, -, wr⟩ := DataW.trod_int Tryz.underlying25 g4
        cases e0; cases e1; cases e2; cases e3; cases e4
        exact ⟨⟨k, m, s, l, r⟩, _, rfl, hS, .mk _ _ _ _ _ (wf_u8W wk) hln hwf ⟨wm, wr⟩⟩
set_option maxRecDepth 100000 in
theorem open_valW {H : Type} {enc : TypeId × Value → H} {W : World} {base : Nat} {r : Reach} {b0 : Nat} {v : Value} (hval : Value.okWide Tryz.prog W r b0 27 v) {d : DataW H} {ps : List MemPlace} (hd : DataW.Trod enc Tryz.prog W base (fun _ => true) true 27 v d ps) :
    ∃ x raw, v = .agg (vcs x raw) ∧ SlAt W (fun b => b < W.heap.size) raw x.l ∧ x.wf := by
  obtain ⟨fuel, hf⟩ := hd
  simp only [Value.okWide, Tryz.underlying27] at hval
  obtain ⟨xs, rfl, hn, _⟩ := hval
  obtain ⟨x, raw, h1, h2⟩ := (trod_valsW fuel).2 _ _ hf
  exact ⟨x, raw, congrArg Value.agg (Array.toList_inj.1 h1), h2⟩
end Go.Proofs.YthaliljaglldjaaGreat
