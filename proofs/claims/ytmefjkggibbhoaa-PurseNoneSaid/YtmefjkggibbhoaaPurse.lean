/- Mint, Get, Ask, Take, Move, Of: money. -/
import Derived.Test.YtmefjkggibbhoaaFind
import Derived.Test.YtmefjkggibbhoaaLayW
import Derived.Test.YtmefjkggibbhoaaMakeL
namespace Go.Proofs.Ytmefjkggibbhoaa
open Go.RowKit Go.ChangeMaps Go.MapKept
variable {w : World} {p : Nat} {M : WM} {F : Nat → Prop}

/-- A mint of n, a purse of n. -/
abbrev mintT (h n lo : Int) : Th := lt 8 h 0 0 n lo 0 0 0 false
abbrev purseT (h n m : Int) : Th := lt 9 h 0 0 n 0 m 0 0 false

/-- A What that is put into a block of the call's own. -/
theorem boxed_what (w1 : World) (xs : Array Value) (hs : xs.size = 16) (h1 : xs.all (·.oneCell') = true) :
    (stW (.pointer (some ⟨w1.heap.size, 0, none⟩)) (.agg xs)).run Try.prog (w1.alloc (.cells #[.int .u8 0, .int .i64 0, .int .u8 0, .int .i64 0, .string ⟨#[]⟩, .slice none 0 0, .int .i64 0, .slice none 0 0, .int .i64 0, .int .i64 0, .int .i64 0, .int .i64 0, .int .u8 0, .bool false, .slice none 0 0, .slice none 0 0] 46)) = .ok .skip ((w1.alloc (.cells #[.int .u8 0, .int .i64 0, .int .u8 0, .int .i64 0, .string ⟨#[]⟩, .slice none 0 0, .int .i64 0, .slice none 0 0, .int .i64 0, .int .i64 0, .int .i64 0, .int .i64 0, .int .u8 0, .bool false, .slice none 0 0, .slice none 0 0] 46)).setRow w1.heap.size xs) ∧
    Below w1.heap.size w1 ((w1.alloc (.cells #[.int .u8 0, .int .i64 0, .int .u8 0, .int .i64 0, .string ⟨#[]⟩, .slice none 0 0, .int .i64 0, .slice none 0 0, .int .i64 0, .int .i64 0, .int .i64 0, .int .i64 0, .int .u8 0, .bool false, .slice none 0 0, .slice none 0 0] 46)).setRow w1.heap.size xs) ∧
    ((w1.alloc (.cells #[.int .u8 0, .int .i64 0, .int .u8 0, .int .i64 0, .string ⟨#[]⟩, .slice none 0 0, .int .i64 0, .slice none 0 0, .int .i64 0, .int .i64 0, .int .i64 0, .int .i64 0, .int .u8 0, .bool false, .slice none 0 0, .slice none 0 0] 46)).setRow w1.heap.size xs).heap[w1.heap.size]? = some (.cells xs 46 (0, 0)) :=
  ⟨storeWhat_blk (blk_new w1 _) rfl hs h1, Below.setRow ((Below.refl _ _).alloc (Nat.le_refl _) _) (Nat.le_refl _) _, heap_setRow_at (blk_new w1 _)⟩

set_option maxRecDepth 8000 in
theorem Get_W (hW : IsW w p M F) {r h n m : Int} (hr : (Lit.int .i64 r).wf = true) (ht : M.at r = some (purseT h n m)) :
    Calls Try.prog 42 #[.pointer (some ⟨p, 0, none⟩), .int .i64 r] w fun e w' => e = .returned (.tuple #[.int .i64 n, .int .i64 0]) ∧ Below w.heap.size w w' := by
  have hf := find_lt hW (q := 9) hr ht plain0 (.inr rfl)
  rw [if_pos rfl] at hf
  have HF := (show Hid _ from hf)
  clear hf hW ht
  go_enter Try.func42, Try.ntmps42
  go_wp2_with fail
  refine Calls.mono HF.out ?_
  rintro e w1 ⟨rfl, hb1⟩
  obtain ⟨hst, hb2, hg2⟩ := boxed_what w1 #[.int .u8 9, .int .i64 h, .int .u8 0, .int .i64 0, .string ⟨#[]⟩, .slice none 0 0, .int .i64 0, .slice none 0 0, .int .i64 n, .int .i64 0, .int .i64 m, .int .i64 0, .int .u8 0, .bool false, .slice none 0 0, .slice none 0 0] rfl (by simp [go_sem])
  have HB2 := (show Hid (Below w.heap.size w _) from hb1.trans (hb2.mono hb1.size))
  have HG2 := (show Hid _ from hg2)
  clear hb1 hb2 hg2
  go_upto_region 2 with fail
  clear hst
  revert HB2 HG2
  generalize (w1.alloc _).setRow _ _ = w2
  generalize w1.heap.size = g
  intro HB2 HG2
  have c8 : w2.cell? ⟨g, 8, none⟩ = some (.int .i64 n) := by rw [cell_blk HG2.out]; rfl
  go_wp2_with fail
  go_ret2
  exact ⟨rfl, HB2.out⟩

theorem Grew.then_keeps {F F' : Nat → Prop} {a b c : World} (h : Grew F a F' b) (k : Keeps F' b c) : Grew F a F' c := by
  obtain ⟨h1, h2⟩ := h
  refine ⟨⟨k.os.trans h1.os, k.tape.trans h1.tape, k.output.trans h1.output, Nat.le_trans h1.size k.size, fun x hx hF => (k.block x (Nat.lt_of_lt_of_le hx h1.size) (fun e => ?_)).trans (h1.block x hx hF)⟩, h2⟩
  rcases h2 x e with h | h
  · exact hF h
  · omega
theorem Grew.of_below {F F' : Nat → Prop} {a b c : World} (h : Below a.heap.size a b) (k : Grew F b F' c) : Grew F a F' c := by
  refine ⟨Below.keeps h k.1, fun x hx => ?_⟩
  rcases k.2 x hx with h' | h'
  · exact .inl h'
  · exact .inr (Nat.le_trans h.size h')

/-- What Ask leaves. -/
def AskPost (w : World) (p : Nat) (M : WM) (F : Nat → Prop) (mi h N lo n : Int) (e : Ending) (w' : World) : Prop :=
  (n < 0 ∧ e = .returned (.tuple #[.int .i64 0, .int .i64 2]) ∧ Below w.heap.size w w') ∨
  ((0 ≤ n ∧ 9007199254740992 - N < n) ∧ e = .returned (.tuple #[.int .i64 0, .int .i64 8]) ∧ Below w.heap.size w w') ∨
  ((0 ≤ n ∧ n ≤ 9007199254740992 - N) ∧ ¬ M.made.getD h.toNat 0 < 512 ∧ e = .returned (.tuple #[.int .i64 0, .int .i64 8]) ∧ Below w.heap.size w w') ∨
  ((0 ≤ n ∧ n ≤ 9007199254740992 - N) ∧ M.made.getD h.toNat 0 < 512 ∧ e = .returned (.tuple #[.int .i64 (M.last + 1), .int .i64 0]) ∧ ∃ F', IsW w' p ((M.add (purseT h n mi)).set mi (mintT h (N + n) lo)) F' ∧ Grew F w F' w')
/-- What Take leaves. -/
def TakePost (w : World) (p : Nat) (M : WM) (F : Nat → Prop) (r h N mi n : Int) (e : Ending) (w' : World) : Prop :=
  (n < 0 ∧ e = .returned (.tuple #[.int .i64 0, .int .i64 2]) ∧ Below w.heap.size w w') ∨
  ((0 ≤ n ∧ N < n) ∧ e = .returned (.tuple #[.int .i64 0, .int .i64 81]) ∧ Below w.heap.size w w') ∨
  ((0 ≤ n ∧ n ≤ N) ∧ ¬ M.made.getD h.toNat 0 < 512 ∧ e = .returned (.tuple #[.int .i64 0, .int .i64 8]) ∧ Below w.heap.size w w') ∨
  ((0 ≤ n ∧ n ≤ N) ∧ M.made.getD h.toNat 0 < 512 ∧ e = .returned (.tuple #[.int .i64 (M.last + 1), .int .i64 0]) ∧ ∃ F', IsW w' p ((M.add (purseT h n mi)).set r (purseT h (N - n) mi)) F' ∧ Grew F w F' w')

set_option maxHeartbeats 1000000 in
set_option maxRecDepth 8000 in
theorem Ask_W (hW : IsW w p M F) {r h N lo n : Int} (hr : (Lit.int .i64 r).wf = true) (hl : M.last + 1 ≤ 1099511627776) (home : 0 ≤ h ∧ h < M.made.length) (ht : M.at r = some (mintT h N lo)) (hN : 0 ≤ N ∧ N ≤ 9007199254740992) (hlo : 0 ≤ lo ∧ lo ≤ N) :
    Calls Try.prog 38 #[.pointer (some ⟨p, 0, none⟩), .int .i64 r, .int .i64 n] w (AskPost w p M F r h N lo n) := by
  have hf := find_lt hW (q := 8) hr ht plain0 (.inl rfl)
  rw [if_pos rfl] at hf
  have HF := (show Hid _ from hf)
  have HW := (show Hid (IsW w p M F) from hW)
  have Ht := (show Hid (M.at r = some _) from ht)
  have Hlo := (show Hid (0 ≤ lo ∧ lo ≤ N) from hlo)
  have Hl := (show Hid (M.last + 1 ≤ 1099511627776) from hl)
  have Hhome := (show Hid (0 ≤ h ∧ h < M.made.length) from home)
  obtain ⟨hN0, hN1⟩ := hN
  clear hf hW ht hlo hl home
  go_enter Try.func38, Try.ntmps38
  go_wp2_with fail
  refine Calls.mono HF.out ?_
  rintro e w1 ⟨rfl, hb1⟩
  obtain ⟨hst, hb2, hg2⟩ := boxed_what w1 #[.int .u8 8, .int .i64 h, .int .u8 0, .int .i64 0, .string ⟨#[]⟩, .slice none 0 0, .int .i64 0, .slice none 0 0, .int .i64 N, .int .i64 lo, .int .i64 0, .int .i64 0, .int .u8 0, .bool false, .slice none 0 0, .slice none 0 0] rfl (by simp [go_sem])
  have HB2 := (show Hid (Below w.heap.size w _) from hb1.trans (hb2.mono hb1.size))
  have HG2 := (show Hid _ from hg2)
  have hgw : w.heap.size ≤ w1.heap.size := hb1.size
  clear hb1 hb2 hg2
  go_upto_region 2 with fail
  clear hst
  revert HB2 HG2 hgw
  generalize (w1.alloc _).setRow _ _ = w2
  generalize w1.heap.size = g
  intro HB2 HG2 hgw
  have c1 : w2.cell? ⟨g, 1, none⟩ = some (.int .i64 h) := by rw [cell_blk HG2.out]; rfl
  have c8 : w2.cell? ⟨g, 8, none⟩ = some (.int .i64 N) := by rw [cell_blk HG2.out]; rfl
  have c10 : w2.cell? ⟨g, 10, none⟩ = some (.int .i64 0) := by rw [cell_blk HG2.out]; rfl
  have HGF : Hid (¬ F g ∧ g < w2.heap.size) := ⟨fun e => by have := HW.out.lt g e; omega, blk_lt HG2.out⟩
  have HW2 := (show Hid (IsW w2 p M F) from HW.out.below HB2.out)
  have Hgw := (show Hid (w.heap.size ≤ g) from hgw)
  clear hgw
  by_cases h0 : n < 0
  · go_wp2_with fail
    go_ret2
    exact .inl ⟨h0, rfl, HB2.out⟩
  · have hn0 : 0 ≤ n := by omega
    by_cases h1 : (9007199254740992 - N) < n
    · go_wp2_with fail
      go_ret2
      exact .inr (.inl ⟨⟨hn0, h1⟩, rfl, HB2.out⟩)
    · have hn1 : n ≤ (9007199254740992 - N) := by omega
      have hmk := Make_9 HW2.out Hl.out Hhome.out (n := n) (tg := r) ⟨hn0, by omega⟩ hr Ht.out rfl rfl
      have HMK := (show Hid _ from hmk)
      clear hmk
      go_wp2_with fail
      refine Calls.mono HMK.out ?_
      rintro e w5 (⟨hroom, rfl, F5, hW5, hG5⟩ | ⟨hroom, rfl, hb5⟩)
      · rw [makeM, if_neg (by simp)] at hW5
        have hnF5 : ¬ F5 g := fun e => by
          rcases hG5.2 g e with h | h
          · exact HGF.out.1 h
          · have := HGF.out.2; omega
        have hg5 := (hG5.1.block g HGF.out.2 HGF.out.1).trans HG2.out
        have HG5 := (show Hid _ from hg5)
        have d8 : w5.cell? ⟨g, 8, none⟩ = some (.int .i64 N) := by rw [cell_blk hg5]; rfl
        have f8 : w5.frozen? ⟨g, 8, none⟩ = false := frozen_blk hg5 8
        have hg6 : (w5.setCell ⟨g, 8, none⟩ (.int .i64 (N + n))).heap[g]? = some (.cells #[.int .u8 8, .int .i64 h, .int .u8 0, .int .i64 0, .string ⟨#[]⟩, .slice none 0 0, .int .i64 0, .slice none 0 0, .int .i64 (N + n), .int .i64 lo, .int .i64 0, .int .i64 0, .int .u8 0, .bool false, .slice none 0 0, .slice none 0 0] 46 (0, 0)) := blk_setCell hg5 8 _
        have hld := loadWhat_blk hg6 rfl
        have hk6 : Keeps (fun b => b = g) w5 (w5.setCell ⟨g, 8, none⟩ (.int .i64 (N + n))) := Keeps.setCell w5 _ _ rfl
        have hW6 := hW5.keeps hk6 (fun b hb e => hnF5 (e ▸ hb))
        have Hml : Hid ((M.add (purseT h n r)).made.length = M.made.length) := made_len M _
        have hlay := Lay_lt hW6 (r := r) (n' := N + n) (vk' := 0) (vn' := 0) hr (WM.add_at_old HW2.out.ok _ Ht.out) plain0 (fun w hW => form_8 hW h (N + n) lo (sideB_iff.2 (by rw [Hml.out]; exact Hhome.out)) (by have := hn0; have := hn1; omega) (by have := Hlo.out; have := hn0; omega))
        have HLAY := (show Hid _ from hlay)
        have HG6 : Hid (Grew F w F5 (w5.setCell ⟨g, 8, none⟩ (.int .i64 (N + n)))) := by
          have h1 : Grew F w F5 w5 := Grew.of_below HB2.out hG5
          refine ⟨⟨h1.1.os, h1.1.tape, h1.1.output, Nat.le_trans h1.1.size hk6.size, fun b hb hF => (hk6.block b (Nat.lt_of_lt_of_le hb h1.1.size) ?_).trans (h1.1.block b hb hF)⟩, h1.2⟩
          rintro rfl
          have := HB2.out.size
          exact absurd hb (by have := HGF.out.2; have := Hgw.out; omega)
        clear hG5 hW5 hg5 hg6 hk6 hW6 hlay hnF5
        go_wp2_with fail
        refine Calls.mono HLAY.out ?_
        rintro e w7 ⟨rfl, hW7, hk7⟩
        have HF7 : Hid (∃ F', IsW w7 p ((M.add (purseT h n r)).set r (mintT h (N + n) lo)) F' ∧ Grew F w F' w7) := ⟨F5, hW7, HG6.out.then_keeps hk7⟩
        clear hW7 hk7 hld d8 f8
        go_wp2_with fail
        go_ret2
        exact .inr (.inr (.inr ⟨⟨hn0, hn1⟩, hroom, rfl, HF7.out⟩))
      · have HB5 := (show Hid (Below w.heap.size w w5) from HB2.out.trans (hb5.mono HB2.out.size))
        clear hb5
        go_wp2_with fail
        go_ret2
        exact .inr (.inr (.inl ⟨⟨hn0, hn1⟩, by omega, rfl, HB5.out⟩))

set_option maxHeartbeats 1000000 in
set_option maxRecDepth 8000 in
theorem Take_W (hW : IsW w p M F) {r h N mi Nm lo n : Int} (hr : (Lit.int .i64 r).wf = true) (hl : M.last + 1 ≤ 1099511627776) (home : 0 ≤ h ∧ h < M.made.length) (ht : M.at r = some (purseT h N mi)) (hmi : M.at mi = some (mintT h Nm lo)) (hN : 0 ≤ N ∧ N ≤ 9007199254740992) :
    Calls Try.prog 43 #[.pointer (some ⟨p, 0, none⟩), .int .i64 r, .int .i64 n] w (TakePost w p M F r h N mi n) := by
  have hf := find_lt hW (q := 9) hr ht plain0 (.inr rfl)
  rw [if_pos rfl] at hf
  have HF := (show Hid _ from hf)
  have HW := (show Hid (IsW w p M F) from hW)
  have Ht := (show Hid (M.at r = some _) from ht)
  have Hmi := (show Hid (M.at mi = some (mintT h Nm lo)) from hmi)
  have Hl := (show Hid (M.last + 1 ≤ 1099511627776) from hl)
  have Hhome := (show Hid (0 ≤ h ∧ h < M.made.length) from home)
  obtain ⟨hN0, hN1⟩ := hN
  clear hf hW ht hmi hl home
  go_enter Try.func43, Try.ntmps43
  go_wp2_with fail
  refine Calls.mono HF.out ?_
  rintro e w1 ⟨rfl, hb1⟩
  obtain ⟨hst, hb2, hg2⟩ := boxed_what w1 #[.int .u8 9, .int .i64 h, .int .u8 0, .int .i64 0, .string ⟨#[]⟩, .slice none 0 0, .int .i64 0, .slice none 0 0, .int .i64 N, .int .i64 0, .int .i64 mi, .int .i64 0, .int .u8 0, .bool false, .slice none 0 0, .slice none 0 0] rfl (by simp [go_sem])
  have HB2 := (show Hid (Below w.heap.size w _) from hb1.trans (hb2.mono hb1.size))
  have HG2 := (show Hid _ from hg2)
  have hgw : w.heap.size ≤ w1.heap.size := hb1.size
  clear hb1 hb2 hg2
  go_upto_region 2 with fail
  clear hst
  revert HB2 HG2 hgw
  generalize (w1.alloc _).setRow _ _ = w2
  generalize w1.heap.size = g
  intro HB2 HG2 hgw
  have c1 : w2.cell? ⟨g, 1, none⟩ = some (.int .i64 h) := by rw [cell_blk HG2.out]; rfl
  have c8 : w2.cell? ⟨g, 8, none⟩ = some (.int .i64 N) := by rw [cell_blk HG2.out]; rfl
  have c10 : w2.cell? ⟨g, 10, none⟩ = some (.int .i64 mi) := by rw [cell_blk HG2.out]; rfl
  have HGF : Hid (¬ F g ∧ g < w2.heap.size) := ⟨fun e => by have := HW.out.lt g e; omega, blk_lt HG2.out⟩
  have HW2 := (show Hid (IsW w2 p M F) from HW.out.below HB2.out)
  have Hgw := (show Hid (w.heap.size ≤ g) from hgw)
  clear hgw
  by_cases h0 : n < 0
  · go_wp2_with fail
    go_ret2
    exact .inl ⟨h0, rfl, HB2.out⟩
  · have hn0 : 0 ≤ n := by omega
    by_cases h1 : N < n
    · go_wp2_with fail
      go_ret2
      exact .inr (.inl ⟨⟨hn0, h1⟩, rfl, HB2.out⟩)
    · have hn1 : n ≤ N := by omega
      have hmk := Make_9 HW2.out Hl.out Hhome.out (n := n) (tg := mi) ⟨hn0, by omega⟩ (HW2.out.ok.at_wf Hmi.out) Hmi.out rfl rfl
      have HMK := (show Hid _ from hmk)
      clear hmk
      go_wp2_with fail
      refine Calls.mono HMK.out ?_
      rintro e w5 (⟨hroom, rfl, F5, hW5, hG5⟩ | ⟨hroom, rfl, hb5⟩)
      · rw [makeM, if_neg (by simp)] at hW5
        have hnF5 : ¬ F5 g := fun e => by
          rcases hG5.2 g e with h | h
          · exact HGF.out.1 h
          · have := HGF.out.2; omega
        have hg5 := (hG5.1.block g HGF.out.2 HGF.out.1).trans HG2.out
        have HG5 := (show Hid _ from hg5)
        have d8 : w5.cell? ⟨g, 8, none⟩ = some (.int .i64 N) := by rw [cell_blk hg5]; rfl
        have f8 : w5.frozen? ⟨g, 8, none⟩ = false := frozen_blk hg5 8
        have hg6 : (w5.setCell ⟨g, 8, none⟩ (.int .i64 (N - n))).heap[g]? = some (.cells #[.int .u8 9, .int .i64 h, .int .u8 0, .int .i64 0, .string ⟨#[]⟩, .slice none 0 0, .int .i64 0, .slice none 0 0, .int .i64 (N - n), .int .i64 0, .int .i64 mi, .int .i64 0, .int .u8 0, .bool false, .slice none 0 0, .slice none 0 0] 46 (0, 0)) := blk_setCell hg5 8 _
        have hld := loadWhat_blk hg6 rfl
        have hk6 : Keeps (fun b => b = g) w5 (w5.setCell ⟨g, 8, none⟩ (.int .i64 (N - n))) := Keeps.setCell w5 _ _ rfl
        have hW6 := hW5.keeps hk6 (fun b hb e => hnF5 (e ▸ hb))
        have Hml : Hid ((M.add (purseT h n mi)).made.length = M.made.length) := made_len M _
        have hlay := Lay_lt hW6 (r := r) (n' := N - n) (vk' := 0) (vn' := 0) hr (WM.add_at_old HW2.out.ok _ Ht.out) plain0 (fun w hW => form_9 hW h (N - n) mi (sideB_iff.2 (by rw [Hml.out]; exact Hhome.out)) (by have := hn0; have := hn1; omega))
        have HLAY := (show Hid _ from hlay)
        have HG6 : Hid (Grew F w F5 (w5.setCell ⟨g, 8, none⟩ (.int .i64 (N - n)))) := by
          have h1 : Grew F w F5 w5 := Grew.of_below HB2.out hG5
          refine ⟨⟨h1.1.os, h1.1.tape, h1.1.output, Nat.le_trans h1.1.size hk6.size, fun b hb hF => (hk6.block b (Nat.lt_of_lt_of_le hb h1.1.size) ?_).trans (h1.1.block b hb hF)⟩, h1.2⟩
          rintro rfl
          have := HB2.out.size
          exact absurd hb (by have := HGF.out.2; have := Hgw.out; omega)
        clear hG5 hW5 hg5 hg6 hk6 hW6 hlay hnF5
        go_wp2_with fail
        refine Calls.mono HLAY.out ?_
        rintro e w7 ⟨rfl, hW7, hk7⟩
        have HF7 : Hid (∃ F', IsW w7 p ((M.add (purseT h n mi)).set r (purseT h (N - n) mi)) F' ∧ Grew F w F' w7) := ⟨F5, hW7, HG6.out.then_keeps hk7⟩
        clear hW7 hk7 hld d8 f8
        go_wp2_with fail
        go_ret2
        exact .inr (.inr (.inr ⟨⟨hn0, hn1⟩, hroom, rfl, HF7.out⟩))
      · have HB5 := (show Hid (Below w.heap.size w w5) from HB2.out.trans (hb5.mono HB2.out.size))
        clear hb5
        go_wp2_with fail
        go_ret2
        exact .inr (.inr (.inl ⟨⟨hn0, hn1⟩, by omega, rfl, HB5.out⟩))
end Go.Proofs.Ytmefjkggibbhoaa
