/- A part of the proof, several texts in one: Purse, Move, SortLay. -/
import Derived.Test.YtmefjkggibbhoaaGreatmAE
import Derived.Test.YtmefjkggibbhoaaGreatmAF
import Derived.Test.YtmefjkggibbhoaaGreatmAK
import Derived.Test.YtmefjkggibbhoaaGreatmAA
import Derived.Test.YtmefjkggibbhoaaGreatChecked
import Derived.Shelf.SortM.Plain
import Derived.Ground.SlgmProg
import Derived.Shelf.SlGeneric
/- Mint, Get, Ask, Take, Move, Of: money. -/
namespace Go.Proofs.YtmefjkggibbhoaaGreat
open Go.RowKit Go.ChangeMaps Go.MapKept
variable {w : World} {p : Nat} {M : WM} {F : Nat → Prop}

/-- A mint of n, a purse of n. -/
abbrev mintT (h n lo : Int) : Th := lt 8 h 0 0 n lo 0 0 0 false
abbrev purseT (h n m : Int) : Th := lt 9 h 0 0 n 0 m 0 0 false

/-- A What that is put into a block of the call's own. -/
theorem boxed_what (w1 : World) (xs : Array Value) (hs : xs.size = 16) (h1 : xs.all (·.oneCell') = true) :
    (stW (.pointer (some ⟨w1.heap.size, 0, none⟩)) (.agg xs)).run Tryz.prog (w1.alloc (.cells #[.int .u8 0, .int .i64 0, .int .u8 0, .int .i64 0, .string ⟨#[]⟩, .slice none 0 0, .int .i64 0, .slice none 0 0, .int .i64 0, .int .i64 0, .int .i64 0, .int .i64 0, .int .u8 0, .bool false, .slice none 0 0, .slice none 0 0] 53)) = .ok .skip ((w1.alloc (.cells #[.int .u8 0, .int .i64 0, .int .u8 0, .int .i64 0, .string ⟨#[]⟩, .slice none 0 0, .int .i64 0, .slice none 0 0, .int .i64 0, .int .i64 0, .int .i64 0, .int .i64 0, .int .u8 0, .bool false, .slice none 0 0, .slice none 0 0] 53)).setRow w1.heap.size xs) ∧
    Below w1.heap.size w1 ((w1.alloc (.cells #[.int .u8 0, .int .i64 0, .int .u8 0, .int .i64 0, .string ⟨#[]⟩, .slice none 0 0, .int .i64 0, .slice none 0 0, .int .i64 0, .int .i64 0, .int .i64 0, .int .i64 0, .int .u8 0, .bool false, .slice none 0 0, .slice none 0 0] 53)).setRow w1.heap.size xs) ∧
    ((w1.alloc (.cells #[.int .u8 0, .int .i64 0, .int .u8 0, .int .i64 0, .string ⟨#[]⟩, .slice none 0 0, .int .i64 0, .slice none 0 0, .int .i64 0, .int .i64 0, .int .i64 0, .int .i64 0, .int .u8 0, .bool false, .slice none 0 0, .slice none 0 0] 53)).setRow w1.heap.size xs).heap[w1.heap.size]? = some (.cells xs 53 (0, 0)) :=
  ⟨storeWhat_blk (blk_new w1 _) rfl hs h1, Below.setRow ((Below.refl _ _).alloc (Nat.le_refl _) _) (Nat.le_refl _) _, heap_setRow_at (blk_new w1 _)⟩

set_option maxRecDepth 8000 in
theorem Get_W (hW : IsW w p M F) {r h n m : Int} (hr : (Lit.int .i64 r).wf = true) (ht : M.at r = some (purseT h n m)) :
    Calls Tryz.prog 30 #[.pointer (some ⟨p, 0, none⟩), .int .i64 r] w fun e w' => e = .returned (.tuple #[.int .i64 n, .int .i64 0]) ∧ Below w.heap.size w w' := by
  have hf := find_lt hW (q := 9) hr ht plain0 (.inr rfl)
  rw [if_pos rfl] at hf
  have HF := (show Hid _ from hf)
  clear hf hW ht
  go_enter Tryz.func30, Tryz.ntmps30
  go_wp2_with fail
  refine Calls.mono HF.out ?_
  rintro e w1 ⟨rfl, hb1⟩
  obtain ⟨hst, hb2, hg2⟩ := boxed_what w1 #[.int .u8 9, .int .i64 h, .int .u8 0, .int .i64 0, .string ⟨#[]⟩, .slice none 0 0, .int .i64 0, .slice none 0 0, .int .i64 n, .int .i64 0, .int .i64 m, .int .i64 0, .int .u8 0, .bool false, .slice none 0 0, .slice none 0 0] rfl (by simp [go_sem])
  have HB2 := (show Hid (Below w.heap.size w _) from hb1.trans (hb2.mono hb1.size))
  have HG2 := (show Hid _ from hg2)
  clear hb1 hb2 hg2
  go_upto_region 2 with fail
  clear hst
  revert HB2 HG2
  generalize (w1.alloc _).setRow _ _ = w2
  generalize w1.heap.size = g
  intro HB2 HG2
  have c8 : w2.cell? ⟨g, 8, none⟩ = some (.int .i64 n) := by rw [cell_blk HG2.out]; rfl
  go_wp2_with fail
  go_ret2
  exact ⟨rfl, HB2.out⟩

theorem Grew.then_keeps {F F' : Nat → Prop} {a b c : World} (h : Grew F a F' b) (k : Keeps F' b c) : Grew F a F' c := by
  obtain ⟨h1, h2⟩ := h
  refine ⟨⟨k.os.trans h1.os, k.tape.trans h1.tape, k.output.trans h1.output, Nat.le_trans h1.size k.size, fun x hx hF => (k.block x (Nat.lt_of_lt_of_le hx h1.size) (fun e => ?_)).trans (h1.block x hx hF)⟩, h2⟩
  rcases h2 x e with h | h
  · exact hF h
  · omega
theorem Grew.of_below {F F' : Nat → Prop} {a b c : World} (h : Below a.heap.size a b) (k : Grew F b F' c) : Grew F a F' c := by
  refine ⟨Below.keeps h k.1, fun x hx => ?_⟩
  rcases k.2 x hx with h' | h'
  · exact .inl h'
  · exact .inr (Nat.le_trans h.size h')

/-- What Ask leaves. -/
def AskPost (w : World) (p : Nat) (M : WM) (F : Nat → Prop) (mi h N lo n : Int) (e : Ending) (w' : World) : Prop :=
  (n < 0 ∧ e = .returned (.tuple #[.int .i64 0, .int .i64 2]) ∧ Below w.heap.size w w') ∨
  ((0 ≤ n ∧ 9007199254740992 - N < n) ∧ e = .returned (.tuple #[.int .i64 0, .int .i64 8]) ∧ Below w.heap.size w w') ∨
  ((0 ≤ n ∧ n ≤ 9007199254740992 - N) ∧ ¬ M.made.getD h.toNat 0 < 512 ∧ e = .returned (.tuple #[.int .i64 0, .int .i64 8]) ∧ Below w.heap.size w w') ∨
  ((0 ≤ n ∧ n ≤ 9007199254740992 - N) ∧ M.made.getD h.toNat 0 < 512 ∧ e = .returned (.tuple #[.int .i64 (M.last + 1), .int .i64 0]) ∧ ∃ F', IsW w' p ((M.add (purseT h n mi)).set mi (mintT h (N + n) lo)) F' ∧ Grew F w F' w')
/-- What Take leaves. -/
def TakePost (w : World) (p : Nat) (M : WM) (F : Nat → Prop) (r h N mi n : Int) (e : Ending) (w' : World) : Prop :=
  (n < 0 ∧ e = .returned (.tuple #[.int .i64 0, .int .i64 2]) ∧ Below w.heap.size w w') ∨
  ((0 ≤ n ∧ N < n) ∧ e = .returned (.tuple #[.int .i64 0, .int .i64 81]) ∧ Below w.heap.size w w') ∨
  ((0 ≤ n ∧ n ≤ N) ∧ ¬ M.made.getD h.toNat 0 < 512 ∧ e = .returned (.tuple #[.int .i64 0, .int .i64 8]) ∧ Below w.heap.size w w') ∨
  ((0 ≤ n ∧ n ≤ N) ∧ M.made.getD h.toNat 0 < 512 ∧ e = .returned (.tuple #[.int .i64 (M.last + 1), .int .i64 0]) ∧ ∃ F', IsW w' p ((M.add (purseT h n mi)).set r (purseT h (N - n) mi)) F' ∧ Grew F w F' w')

set_option maxHeartbeats 1000000 in
set_option maxRecDepth 8000 in
theorem Ask_W (hW : IsW w p M F) {r h N lo n : Int} (hr : (Lit.int .i64 r).wf = true) (hl : M.last + 1 ≤ 1099511627776) (home : 0 ≤ h ∧ h < M.made.length) (ht : M.at r = some (mintT h N lo)) (hN : 0 ≤ N ∧ N ≤ 9007199254740992) (hlo : 0 ≤ lo ∧ lo ≤ N) :
    Calls Tryz.prog 24 #[.pointer (some ⟨p, 0, none⟩), .int .i64 r, .int .i64 n] w (AskPost w p M F r h N lo n) := by
  have hf := find_lt hW (q := 8) hr ht plain0 (.inl rfl)
  rw [if_pos rfl] at hf
  have HF := (show Hid _ from hf)
  have HW := (show Hid (IsW w p M F) from hW)
  have Ht := (show Hid (M.at r = some _) from ht)
  have Hlo := (show Hid (0 ≤ lo ∧ lo ≤ N) from hlo)
  have Hl := (show Hid (M.last + 1 ≤ 1099511627776) from hl)
  have Hhome := (show Hid (0 ≤ h ∧ h < M.made.length) from home)
  obtain ⟨hN0, hN1⟩ := hN
  clear hf hW ht hlo hl home
  go_enter Tryz.func24, Tryz.ntmps24
  go_wp2_with fail
  refine Calls.mono HF.out ?_
  rintro e w1 ⟨rfl, hb1⟩
  obtain ⟨hst, hb2, hg2⟩ := boxed_what w1 #[.int .u8 8, .int .i64 h, .int .u8 0, .int .i64 0, .string ⟨#[]⟩, .slice none 0 0, .int .i64 0, .slice none 0 0, .int .i64 N, .int .i64 lo, .int .i64 0, .int .i64 0, .int .u8 0, .bool false, .slice none 0 0, .slice none 0 0] rfl (by simp [go_sem])
  have HB2 := (show Hid (Below w.heap.size w _) from hb1.trans (hb2.mono hb1.size))
  have HG2 := (show Hid _ from hg2)
  have hgw : w.heap.size ≤ w1.heap.size := hb1.size
  clear hb1 hb2 hg2
  go_upto_region 2 with fail
  clear hst
  revert HB2 HG2 hgw
  generalize (w1.alloc _).setRow _ _ = w2
  generalize w1.heap.size = g
  intro HB2 HG2 hgw
  have c1 : w2.cell? ⟨g, 1, none⟩ = some (.int .i64 h) := by rw [cell_blk HG2.out]; rfl
  have c8 : w2.cell? ⟨g, 8, none⟩ = some (.int .i64 N) := by rw [cell_blk HG2.out]; rfl
  have c10 : w2.cell? ⟨g, 10, none⟩ = some (.int .i64 0) := by rw [cell_blk HG2.out]; rfl
  have HGF : Hid (¬ F g ∧ g < w2.heap.size) := ⟨fun e => by have := HW.out.lt g e; omega, blk_lt HG2.out⟩
  have HW2 := (show Hid (IsW w2 p M F) from HW.out.below HB2.out)
  have Hgw := (show Hid (w.heap.size ≤ g) from hgw)
  clear hgw
  by_cases h0 : n < 0
  · go_wp2_with fail
    go_ret2
    exact .inl ⟨h0, rfl, HB2.out⟩
  · have hn0 : 0 ≤ n := by omega
    by_cases h1 : (9007199254740992 - N) < n
    · go_wp2_with fail
      go_ret2
      exact .inr (.inl ⟨⟨hn0, h1⟩, rfl, HB2.out⟩)
    · have hn1 : n ≤ (9007199254740992 - N) := by omega
      have hmk := Make_9 HW2.out Hl.out Hhome.out (n := n) (tg := r) ⟨hn0, by omega⟩ hr Ht.out rfl rfl
      have HMK := (show Hid _ from hmk)
      clear hmk
      go_wp2_with fail
      refine Calls.mono HMK.out ?_
      rintro e w5 (⟨hroom, rfl, F5, hW5, hG5⟩ | ⟨hroom, rfl, hb5⟩)
      · rw [makeM, if_neg (by simp)] at hW5
        have hnF5 : ¬ F5 g := fun e => by
          rcases hG5.2 g e with h | h
          · exact HGF.out.1 h
          · have := HGF.out.2; omega
        have hg5 := (hG5.1.block g HGF.out.2 HGF.out.1).trans HG2.out
        have HG5 := (show Hid _ from hg5)
        have d8 : w5.cell? ⟨g, 8, none⟩ = some (.int .i64 N) := by rw [cell_blk hg5]; rfl
        have f8 : w5.frozen? ⟨g, 8, none⟩ = false := frozen_blk hg5 8
        have hg6 : (w5.setCell ⟨g, 8, none⟩ (.int .i64 (N + n))).heap[g]? = some (.cells #[.int .u8 8, .int .i64 h, .int .u8 0, .int .i64 0, .string ⟨#[]⟩, .slice none 0 0, .int .i64 0, .slice none 0 0, .int .i64 (N + n), .int .i64 lo, .int .i64 0, .int .i64 0, .int .u8 0, .bool false, .slice none 0 0, .slice none 0 0] 53 (0, 0)) := blk_setCell hg5 8 _
        have hld := loadWhat_blk hg6 rfl
        have hk6 : Keeps (fun b => b = g) w5 (w5.setCell ⟨g, 8, none⟩ (.int .i64 (N + n))) := Keeps.setCell w5 _ _ rfl
        have hW6 := hW5.keeps hk6 (fun b hb e => hnF5 (e ▸ hb))
        have Hml : Hid ((M.add (purseT h n r)).made.length = M.made.length) := made_len M _
        have hlay := Lay_lt hW6 (r := r) (n' := N + n) (vk' := 0) (vn' := 0) hr (WM.add_at_old HW2.out.ok _ Ht.out) plain0 (fun w hW => form_8 hW h (N + n) lo (sideB_iff.2 (by rw [Hml.out]; exact Hhome.out)) (by have := hn0; have := hn1; omega) (by have := Hlo.out; have := hn0; omega))
        have HLAY := (show Hid _ from hlay)
        have HG6 : Hid (Grew F w F5 (w5.setCell ⟨g, 8, none⟩ (.int .i64 (N + n)))) := by
          have h1 : Grew F w F5 w5 := Grew.of_below HB2.out hG5
          refine ⟨⟨h1.1.os, h1.1.tape, h1.1.output, Nat.le_trans h1.1.size hk6.size, fun b hb hF => (hk6.block b (Nat.lt_of_lt_of_le hb h1.1.size) ?_).trans (h1.1.block b hb hF)⟩, h1.2⟩
          rintro rfl
          have := HB2.out.size
          exact absurd hb (by have := HGF.out.2; have := Hgw.out; omega)
        clear hG5 hW5 hg5 hg6 hk6 hW6 hlay hnF5
        go_wp2_with fail
        refine Calls.mono HLAY.out ?_
        rintro e w7 ⟨rfl, hW7, hk7⟩
        have HF7 : Hid (∃ F', IsW w7 p ((M.add (purseT h n r)).set r (mintT h (N + n) lo)) F' ∧ Grew F w F' w7) := ⟨F5, hW7, HG6.out.then_keeps hk7⟩
        clear hW7 hk7 hld d8 f8
        go_wp2_with fail
        go_ret2
        exact .inr (.inr (.inr ⟨⟨hn0, hn1⟩, hroom, rfl, HF7.out⟩))
      · have HB5 := (show Hid (Below w.heap.size w w5) from HB2.out.trans (hb5.mono HB2.out.size))
        clear hb5
        go_wp2_with fail
        go_ret2
        exact .inr (.inr (.inl ⟨⟨hn0, hn1⟩, by omega, rfl, HB5.out⟩))

set_option maxHeartbeats 1000000 in
set_option maxRecDepth 8000 in
theorem Take_W (hW : IsW w p M F) {r h N mi Nm lo n : Int} (hr : (Lit.int .i64 r).wf = true) (hl : M.last + 1 ≤ 1099511627776) (home : 0 ≤ h ∧ h < M.made.length) (ht : M.at r = some (purseT h N mi)) (hmi : M.at mi = some (mintT h Nm lo)) (hN : 0 ≤ N ∧ N ≤ 9007199254740992) :
    Calls Tryz.prog 25 #[.pointer (some ⟨p, 0, none⟩), .int .i64 r, .int .i64 n] w (TakePost w p M F r h N mi n) := by
  have hf := find_lt hW (q := 9) hr ht plain0 (.inr rfl)
  rw [if_pos rfl] at hf
  have HF := (show Hid _ from hf)
  have HW := (show Hid (IsW w p M F) from hW)
  have Ht := (show Hid (M.at r = some _) from ht)
  have Hmi := (show Hid (M.at mi = some (mintT h Nm lo)) from hmi)
  have Hl := (show Hid (M.last + 1 ≤ 1099511627776) from hl)
  have Hhome := (show Hid (0 ≤ h ∧ h < M.made.length) from home)
  obtain ⟨hN0, hN1⟩ := hN
  clear hf hW ht hmi hl home
  go_enter Tryz.func25, Tryz.ntmps25
  go_wp2_with fail
  refine Calls.mono HF.out ?_
  rintro e w1 ⟨rfl, hb1⟩
  obtain ⟨hst, hb2, hg2⟩ := boxed_what w1 #[.int .u8 9, .int .i64 h, .int .u8 0, .int .i64 0, .string ⟨#[]⟩, .slice none 0 0, .int .i64 0, .slice none 0 0, .int .i64 N, .int .i64 0, .int .i64 mi, .int .i64 0, .int .u8 0, .bool false, .slice none 0 0, .slice none 0 0] rfl (by simp [go_sem])
  have HB2 := (show Hid (Below w.heap.size w _) from hb1.trans (hb2.mono hb1.size))
  have HG2 := (show Hid _ from hg2)
  have hgw : w.heap.size ≤ w1.heap.size := hb1.size
  clear hb1 hb2 hg2
  go_upto_region 2 with fail
  clear hst
  revert HB2 HG2 hgw
  generalize (w1.alloc _).setRow _ _ = w2
  generalize w1.heap.size = g
  intro HB2 HG2 hgw
  have c1 : w2.cell? ⟨g, 1, none⟩ = some (.int .i64 h) := by rw [cell_blk HG2.out]; rfl
  have c8 : w2.cell? ⟨g, 8, none⟩ = some (.int .i64 N) := by rw [cell_blk HG2.out]; rfl
  have c10 : w2.cell? ⟨g, 10, none⟩ = some (.int .i64 mi) := by rw [cell_blk HG2.out]; rfl
  have HGF : Hid (¬ F g ∧ g < w2.heap.size) := ⟨fun e => by have := HW.out.lt g e; omega, blk_lt HG2.out⟩
  have HW2 := (show Hid (IsW w2 p M F) from HW.out.below HB2.out)
  have Hgw := (show Hid (w.heap.size ≤ g) from hgw)
  clear hgw
  by_cases h0 : n < 0
  · go_wp2_with fail
    go_ret2
    exact .inl ⟨h0, rfl, HB2.out⟩
  · have hn0 : 0 ≤ n := by omega
    by_cases h1 : N < n
    · go_wp2_with fail
      go_ret2
      exact .inr (.inl ⟨⟨hn0, h1⟩, rfl, HB2.out⟩)
    · have hn1 : n ≤ N := by omega
      have hmk := Make_9 HW2.out Hl.out Hhome.out (n := n) (tg := mi) ⟨hn0, by omega⟩ (HW2.out.ok.at_wf Hmi.out) Hmi.out rfl rfl
      have HMK := (show Hid _ from hmk)
      clear hmk
      go_wp2_with fail
      refine Calls.mono HMK.out ?_
      rintro e w5 (⟨hroom, rfl, F5, hW5, hG5⟩ | ⟨hroom, rfl, hb5⟩)
      · rw [makeM, if_neg (by simp)] at hW5
        have hnF5 : ¬ F5 g := fun e => by
          rcases hG5.2 g e with h | h
          · exact HGF.out.1 h
          · have := HGF.out.2; omega
        have hg5 := (hG5.1.block g HGF.out.2 HGF.out.1).trans HG2.out
        have HG5 := (show Hid _ from hg5)
        have d8 : w5.cell? ⟨g, 8, none⟩ = some (.int .i64 N) := by rw [cell_blk hg5]; rfl
        have f8 : w5.frozen? ⟨g, 8, none⟩ = false := frozen_blk hg5 8
        have hg6 : (w5.setCell ⟨g, 8, none⟩ (.int .i64 (N - n))).heap[g]? = some (.cells #[.int .u8 9, .int .i64 h, .int .u8 0, .int .i64 0, .string ⟨#[]⟩, .slice none 0 0, .int .i64 0, .slice none 0 0, .int .i64 (N - n), .int .i64 0, .int .i64 mi, .int .i64 0, .int .u8 0, .bool false, .slice none 0 0, .slice none 0 0] 53 (0, 0)) := blk_setCell hg5 8 _
        have hld := loadWhat_blk hg6 rfl
        have hk6 : Keeps (fun b => b = g) w5 (w5.setCell ⟨g, 8, none⟩ (.int .i64 (N - n))) := Keeps.setCell w5 _ _ rfl
        have hW6 := hW5.keeps hk6 (fun b hb e => hnF5 (e ▸ hb))
        have Hml : Hid ((M.add (purseT h n mi)).made.length = M.made.length) := made_len M _
        have hlay := Lay_lt hW6 (r := r) (n' := N - n) (vk' := 0) (vn' := 0) hr (WM.add_at_old HW2.out.ok _ Ht.out) plain0 (fun w hW => form_9 hW h (N - n) mi (sideB_iff.2 (by rw [Hml.out]; exact Hhome.out)) (by have := hn0; have := hn1; omega))
        have HLAY := (show Hid _ from hlay)
        have HG6 : Hid (Grew F w F5 (w5.setCell ⟨g, 8, none⟩ (.int .i64 (N - n)))) := by
          have h1 : Grew F w F5 w5 := Grew.of_below HB2.out hG5
          refine ⟨⟨h1.1.os, h1.1.tape, h1.1.output, Nat.le_trans h1.1.size hk6.size, fun b hb hF => (hk6.block b (Nat.lt_of_lt_of_le hb h1.1.size) ?_).trans (h1.1.block b hb hF)⟩, h1.2⟩
          rintro rfl
          have := HB2.out.size
          exact absurd hb (by have := HGF.out.2; have := Hgw.out; omega)
        clear hG5 hW5 hg5 hg6 hk6 hW6 hlay hnF5
        go_wp2_with fail
        refine Calls.mono HLAY.out ?_
        rintro e w7 ⟨rfl, hW7, hk7⟩
        have HF7 : Hid (∃ F', IsW w7 p ((M.add (purseT h n mi)).set r (purseT h (N - n) mi)) F' ∧ Grew F w F' w7) := ⟨F5, hW7, HG6.out.then_keeps hk7⟩
        clear hW7 hk7 hld d8 f8
        go_wp2_with fail
        go_ret2
        exact .inr (.inr (.inr ⟨⟨hn0, hn1⟩, hroom, rfl, HF7.out⟩))
      · have HB5 := (show Hid (Below w.heap.size w w5) from HB2.out.trans (hb5.mono HB2.out.size))
        clear hb5
        go_wp2_with fail
        go_ret2
        exact .inr (.inr (.inl ⟨⟨hn0, hn1⟩, by omega, rfl, HB5.out⟩))
end Go.Proofs.YtmefjkggibbhoaaGreat
/- Mint, Move, Of: money. -/
namespace Go.Proofs.YtmefjkggibbhoaaGreat
open Go.RowKit Go.ChangeMaps Go.MapKept
variable {w : World} {p : Nat} {M : WM} {F : Nat → Prop}

set_option maxRecDepth 8000 in
theorem Mint_W (hW : IsW w p M F) (hl : M.last + 1 ≤ 1099511627776) {h : Int} (home : 0 ≤ h ∧ h < M.made.length) :
    Calls Tryz.prog 23 #[.pointer (some ⟨p, 0, none⟩), .int .i64 h] w (MadeL w p M F h (mintT h 0 0)) := by
  have hmk := Make_8 hW hl home (n := 0) (l := 0) (by decide) (by decide)
  have HMK := (show Hid _ from hmk)
  clear hmk hW hl home
  go_enter Tryz.func23, Tryz.ntmps23
  go_wp2_with fail
  refine Calls.mono HMK.out ?_
  rintro e w5 (⟨hroom, rfl, h5⟩ | ⟨hroom, rfl, hb5⟩)
  · have H5 := (show Hid _ from h5)
    have HR : Hid (M.made.getD h.toNat 0 < 512) := hroom
    clear h5 hroom
    go_wp2_with fail
    go_ret2
    exact .inl ⟨HR.out, rfl, H5.out⟩
  · have H5 := (show Hid (Below w.heap.size w w5) from hb5)
    have HR : Hid (¬ M.made.getD h.toNat 0 < 512) := hroom
    clear hb5 hroom
    go_wp2_with fail
    go_ret2
    exact .inr ⟨by have := HR.out; omega, rfl, H5.out⟩

/-- Two boxes of Whats. -/
def MovePost (w : World) (p : Nat) (M : WM) (F : Nat → Prop) (a h N mi b h' N' mi' : Int) (e : Ending) (w' : World) : Prop :=
  ((a = b ∨ mi ≠ mi') ∧ e = .returned (.int .i64 100) ∧ Below w.heap.size w w') ∨
  (a ≠ b ∧ mi = mi' ∧ 9007199254740992 - N < N' ∧ e = .returned (.int .i64 8) ∧ Below w.heap.size w w') ∨
  (a ≠ b ∧ mi = mi' ∧ N' ≤ 9007199254740992 - N ∧ e = .returned (.int .i64 0) ∧ IsW w' p ((M.set a (purseT h (N + N') mi)).set b (purseT h' 0 mi')) F ∧ Keeps F w w')

set_option maxHeartbeats 2000000 in
set_option maxRecDepth 8000 in
theorem Move_W (hW : IsW w p M F) {a h N mi b h' N' mi' : Int} (ha : M.at a = some (purseT h N mi)) (hb : M.at b = some (purseT h' N' mi')) (home : 0 ≤ h ∧ h < M.made.length) (home' : 0 ≤ h' ∧ h' < M.made.length)
    (hN : 0 ≤ N ∧ N ≤ 9007199254740992) (hN' : 0 ≤ N' ∧ N' ≤ 9007199254740992) :
    Calls Tryz.prog 26 #[.pointer (some ⟨p, 0, none⟩), .int .i64 a, .int .i64 b] w (MovePost w p M F a h N mi b h' N' mi') := by
  have hra := hW.ok.at_wf ha
  have hrb := hW.ok.at_wf hb
  have hf := find_lt hW (q := 9) hra ha plain0 (.inr rfl)
  rw [if_pos rfl] at hf
  have HF := (show Hid _ from hf)
  have HW := (show Hid (IsW w p M F) from hW)
  have Ha := (show Hid (M.at a = some (purseT h N mi)) from ha)
  have Hb := (show Hid (M.at b = some (purseT h' N' mi')) from hb)
  have Hhome := (show Hid (0 ≤ h ∧ h < M.made.length) from home)
  have Hhome' := (show Hid (0 ≤ h' ∧ h' < M.made.length) from home')
  have Hra := (show Hid _ from hra)
  have Hrb := (show Hid _ from hrb)
  obtain ⟨hN0, hN1⟩ := hN
  obtain ⟨hM0, hM1⟩ := hN'
  clear hf hW ha hb home home' hra hrb
  go_enter Tryz.func26, Tryz.ntmps26
  go_wp2_with fail
  refine Calls.mono HF.out ?_
  rintro e w1 ⟨rfl, hb1⟩
  obtain ⟨hst, hb2, hg2⟩ := boxed_what w1 #[.int .u8 9, .int .i64 h, .int .u8 0, .int .i64 0, .string ⟨#[]⟩, .slice none 0 0, .int .i64 0, .slice none 0 0, .int .i64 N, .int .i64 0, .int .i64 mi, .int .i64 0, .int .u8 0, .bool false, .slice none 0 0, .slice none 0 0] rfl (by simp [go_sem])
  have HB2 := (show Hid (Below w.heap.size w _) from hb1.trans (hb2.mono hb1.size))
  have HG2 := (show Hid _ from hg2)
  have hgw : w.heap.size ≤ w1.heap.size := hb1.size
  clear hb1 hb2 hg2
  go_upto_region 2 with fail
  clear hst
  revert HB2 HG2 hgw
  generalize (w1.alloc _).setRow _ _ = w2
  generalize w1.heap.size = g
  intro HB2 HG2 hgw
  have hf2 := find_lt (HW.out.below HB2.out) (q := 9) Hrb.out Hb.out plain0 (.inr rfl)
  rw [if_pos rfl] at hf2
  have HF2 := (show Hid _ from hf2)
  have Hgw := (show Hid (w.heap.size ≤ g) from hgw)
  clear hf2 HF hgw
  go_wp2_with fail
  refine Calls.mono HF2.out ?_
  rintro e w3 ⟨rfl, hb3⟩
  obtain ⟨hst, hb4, hg4⟩ := boxed_what w3 #[.int .u8 9, .int .i64 h', .int .u8 0, .int .i64 0, .string ⟨#[]⟩, .slice none 0 0, .int .i64 0, .slice none 0 0, .int .i64 N', .int .i64 0, .int .i64 mi', .int .i64 0, .int .u8 0, .bool false, .slice none 0 0, .slice none 0 0] rfl (by simp [go_sem])
  have HB4 := (show Hid (Below w.heap.size w _) from HB2.out.trans ((hb3.trans (hb4.mono hb3.size)).mono HB2.out.size))
  have HG4 := (show Hid _ from hg4)
  have hg3 := below_blk hb3 HG2.out
  have HGA := (show Hid _ from below_blk hb4 hg3)
  have Hgg : Hid (g < w3.heap.size) := blk_lt hg3
  clear hb3 hb4 hg4 hg3
  go_upto_region 3 with fail
  clear hst
  revert HB4 HG4 HGA Hgg
  generalize (w3.alloc _).setRow _ _ = w4
  generalize w3.heap.size = g'
  intro HB4 HG4 HGA Hgg
  have a8 : w4.cell? ⟨g, 8, none⟩ = some (.int .i64 N) := by rw [cell_blk HGA.out]; rfl
  have a10 : w4.cell? ⟨g, 10, none⟩ = some (.int .i64 mi) := by rw [cell_blk HGA.out]; rfl
  have b8 : w4.cell? ⟨g', 8, none⟩ = some (.int .i64 N') := by rw [cell_blk HG4.out]; rfl
  have b10 : w4.cell? ⟨g', 10, none⟩ = some (.int .i64 mi') := by rw [cell_blk HG4.out]; rfl
  by_cases hab : a = b
  · have e1 : (a == b) = true := by simpa using hab
    go_wp2_with fail
    go_ret
    exact .inl ⟨.inl hab, rfl, HB4.out⟩
  · have e1 : (a == b) = false := by simpa using hab
    by_cases hmm : mi = mi'
    · have e2 : (mi != mi') = false := by simpa using hmm
      by_cases h1 : 9007199254740992 - N < N'
      · have Hab := (show Hid (a ≠ b) from hab)
        have Hmm := (show Hid (mi = mi') from hmm)
        clear hab hmm
        go_wp2_with fail
        go_ret
        exact .inr (.inl ⟨Hab.out, Hmm.out, h1, rfl, HB4.out⟩)
      · have hn1 : N' ≤ 9007199254740992 - N := by omega
        have Hab := (show Hid (a ≠ b) from hab)
        have Hmm := (show Hid (mi = mi') from hmm)
        clear hab hmm
        have fa := frozen_blk HGA.out 8
        have fb := frozen_blk HG4.out 8
        have hA5 : (w4.setCell ⟨g, 8, none⟩ (.int .i64 (N + N'))).heap[g]? = some (.cells #[.int .u8 9, .int .i64 h, .int .u8 0, .int .i64 0, .string ⟨#[]⟩, .slice none 0 0, .int .i64 0, .slice none 0 0, .int .i64 (N + N'), .int .i64 0, .int .i64 mi, .int .i64 0, .int .u8 0, .bool false, .slice none 0 0, .slice none 0 0] 53 (0, 0)) := blk_setCell HGA.out 8 _
        have hB5 := blk_other HG4.out ⟨g, 8, none⟩ (.int .i64 (N + N')) (show g' ≠ g by have := Hgg.out; omega)
        have hA6 := blk_other hA5 ⟨g', 8, none⟩ (.int .i64 0) (show g ≠ g' by have := Hgg.out; omega)
        have hB6 : ((w4.setCell ⟨g, 8, none⟩ (.int .i64 (N + N'))).setCell ⟨g', 8, none⟩ (.int .i64 0)).heap[g']? = some (.cells #[.int .u8 9, .int .i64 h', .int .u8 0, .int .i64 0, .string ⟨#[]⟩, .slice none 0 0, .int .i64 0, .slice none 0 0, .int .i64 0, .int .i64 0, .int .i64 mi', .int .i64 0, .int .u8 0, .bool false, .slice none 0 0, .slice none 0 0] 53 (0, 0)) := blk_setCell hB5 8 _
        have hk6 : Keeps (fun x => x = g ∨ x = g') w4 ((w4.setCell ⟨g, 8, none⟩ (.int .i64 (N + N'))).setCell ⟨g', 8, none⟩ (.int .i64 0)) :=
          (Keeps.setCell (S := fun x => x = g ∨ x = g') w4 _ _ (.inl rfl)).trans (Keeps.setCell (S := fun x => x = g ∨ x = g') _ _ _ (.inr rfl)) (fun _ _ h => h) (fun _ _ h => h)
        have hgF : ∀ x, F x → ¬ (x = g ∨ x = g') := fun x hx e => by
          have h1 := HW.out.lt x hx
          have h2 := Hgw.out
          have h3 := Hgg.out
          omega
        have HgF := (show Hid _ from hgF)
        have hW6 := (HW.out.below HB4.out).keeps hk6 hgF
        have hb6 : Below w.heap.size w ((w4.setCell ⟨g, 8, none⟩ (.int .i64 (N + N'))).setCell ⟨g', 8, none⟩ (.int .i64 0)) := HB4.out.trans (hk6.below HB4.out.size (fun x hx => by have h2 := Hgw.out; have h3 := Hgg.out; omega))
        have b58 : (w4.setCell ⟨g, 8, none⟩ (.int .i64 (N + N'))).cell? ⟨g', 8, none⟩ = some (.int .i64 N') := by rw [cell_blk hB5]; rfl
        have HB6 := (show Hid (Below w.heap.size w _) from hb6)
        have HW6 := (show Hid (IsW _ p M F) from hW6)
        have HA6 := (show Hid _ from hA6)
        have HB6' := (show Hid _ from hB6)
        clear hA5 hB5 hA6 hB6 hk6 hgF hW6 hb6
        go_upto_region 12 with fail
        clear a8 a10 b8 b10 fa fb b58
        revert HB6 HW6 HA6 HB6'
        generalize (w4.setCell _ _).setCell _ _ = w6
        intro HB6 HW6 HA6 HB6'
        have hld := loadWhat_blk HA6.out rfl
        have hlay := Lay_lt HW6.out (r := a) (n' := N + N') (vk' := 0) (vn' := 0) (l' := 0) (fu' := false) Hra.out Ha.out plain0 (fun w hW => form_9 hW h (N + N') mi (sideB_iff.2 Hhome.out) (by omega))
        have HLAY := (show Hid _ from hlay)
        clear hlay
        go_wp2_with fail
        refine Calls.mono HLAY.out ?_
        rintro e w7 ⟨rfl, hW7, hk7⟩
        have hg7 : w7.heap[g']? = some (.cells #[.int .u8 9, .int .i64 h', .int .u8 0, .int .i64 0, .string ⟨#[]⟩, .slice none 0 0, .int .i64 0, .slice none 0 0, .int .i64 0, .int .i64 0, .int .i64 mi', .int .i64 0, .int .u8 0, .bool false, .slice none 0 0, .slice none 0 0] 53 (0, 0)) := (hk7.block g' (blk_lt HB6'.out) (fun e => HgF.out g' e (.inr rfl))).trans HB6'.out
        have hld7 := loadWhat_blk hg7 rfl
        have HW7 := (show Hid (IsW w7 p (M.set a (purseT h (N + N') mi)) F) from hW7)
        have HK7 := (show Hid (Keeps F w w7) from Below.keeps HB6.out hk7)
        have hlay2 := Lay_lt HW7.out (r := b) (n' := 0) (vk' := 0) (vn' := 0) (l' := 0) (fu' := false) Hrb.out ((WM.set_at_ne M _ (fun e => Hab.out e.symm)).trans Hb.out) plain0 (fun w hW => form_9 hW h' 0 mi' (sideB_iff.2 Hhome'.out) (by omega))
        have HLAY2 := (show Hid _ from hlay2)
        clear hlay2 hW7 hk7 hg7 hld HLAY
        go_wp2_with fail
        refine Calls.mono HLAY2.out ?_
        rintro e w8 ⟨rfl, hW8, hk8⟩
        have HF8 : Hid (IsW w8 p ((M.set a (purseT h (N + N') mi)).set b (purseT h' 0 mi')) F ∧ Keeps F w w8) := ⟨hW8, HK7.out.trans hk8 (fun _ _ h => h) (fun _ _ h => h)⟩
        clear hW8 hk8 hld7
        go_wp2_with fail
        go_ret
        exact .inr (.inr ⟨Hab.out, Hmm.out, hn1, rfl, HF8.out⟩)
    · have e2 : (mi != mi') = true := by simpa using hmm
      have Hmm := (show Hid (mi ≠ mi') from hmm)
      clear hab hmm
      go_wp2_with fail
      go_ret
      exact .inl ⟨.inr Hmm.out, rfl, HB4.out⟩
end Go.Proofs.YtmefjkggibbhoaaGreat
/- The contract of slices.Sort, laid at the references. -/
namespace Go.Proofs.YtmefjkggibbhoaaGreat
open Go.Shelf
def Tryz.sortLay_ren : Go.Shelf.Ren := ⟨fun | 5 => 75 | 8 => 101 | 7 => 100 | 19 => 125 | 20 => 126 | 10 => 116 | 11 => 117 | 12 => 118 | 13 => 119 | 14 => 120 | 15 => 121 | 16 => 122 | 17 => 123 | 18 => 124 | 30 => 140 | 31 => 141 | 32 => 142 | 33 => 143 | 34 => 144 | 35 => 145 | 40 => 152 | n => n, fun | 23 => 31 | 25 => 35 | 3 => 3 | 32 => 175 | 22 => 31 | 0 => 0 | 44 => 198 | 46 => 200 | 4 => 4 | 36 => 190 | 35 => 189 | 41 => 195 | 5 => 5 | 9 => 9 | 53 => 215 | 57 => 156 | 63 => 225 | 64 => 226 | n => n, fun | n => n⟩
theorem Tryz.sortLay : Go.Proofs.SlLaysM.n5 Tryz.prog Tryz.sortLay_ren := {
  mixed := by kernel_rfl
  f5 := ⟨Tryz.f75.name, by decide, Tryz.func75.trans (congrArg some (by kernel_rfl))⟩
  f7 := ⟨Tryz.f100.name, by decide, Tryz.func100.trans (congrArg some (by kernel_rfl))⟩
  f8 := Tryz.func101.trans (congrArg some (by kernel_rfl))
  f10 := ⟨Tryz.f116.name, by decide, Tryz.func116.trans (congrArg some (by kernel_rfl))⟩
  f11 := ⟨Tryz.f117.name, by decide, Tryz.func117.trans (congrArg some (by kernel_rfl))⟩
  f12 := ⟨Tryz.f118.name, by decide, Tryz.func118.trans (congrArg some (by kernel_rfl))⟩
  f13 := ⟨Tryz.f119.name, by decide, Tryz.func119.trans (congrArg some (by kernel_rfl))⟩
  f14 := ⟨Tryz.f120.name, by decide, Tryz.func120.trans (congrArg some (by kernel_rfl))⟩
  f15 := ⟨Tryz.f121.name, by decide, Tryz.func121.trans (congrArg some (by kernel_rfl))⟩
  f16 := ⟨Tryz.f122.name, by decide, Tryz.func122.trans (congrArg some (by kernel_rfl))⟩
  f17 := ⟨Tryz.f123.name, by decide, Tryz.func123.trans (congrArg some (by kernel_rfl))⟩
  f18 := ⟨Tryz.f124.name, by decide, Tryz.func124.trans (congrArg some (by kernel_rfl))⟩
  f19 := Tryz.func125.trans (congrArg some (by kernel_rfl))
  f20 := Tryz.func126.trans (congrArg some (by kernel_rfl))
  f30 := ⟨Tryz.f140.name, by decide, Tryz.func140.trans (congrArg some (by kernel_rfl))⟩
  f31 := Tryz.func141.trans (congrArg some (by kernel_rfl))
  f32 := Tryz.func142.trans (congrArg some (by kernel_rfl))
  f33 := ⟨Tryz.f143.name, by decide, Tryz.func143.trans (congrArg some (by kernel_rfl))⟩
  f34 := ⟨Tryz.f144.name, by decide, Tryz.func144.trans (congrArg some (by kernel_rfl))⟩
  f35 := ⟨Tryz.f145.name, by decide, Tryz.func145.trans (congrArg some (by kernel_rfl))⟩
  f40 := ⟨Tryz.f152.name, by decide, Tryz.func152.trans (congrArg some (by kernel_rfl))⟩
  t0 := Tryz.underlying0
  a0 := Tryz.isAgg0
  z0 := Tryz.sizeOf0
  v0 := Tryz.zeroValue0
  t3 := Tryz.underlying3
  a3 := Tryz.isAgg3
  z3 := Tryz.sizeOf3
  v3 := Tryz.zeroValue3
  t4 := Tryz.underlying4
  a4 := Tryz.isAgg4
  z4 := Tryz.sizeOf4
  v4 := Tryz.zeroValue4
  t5 := Tryz.underlying5
  a5 := Tryz.isAgg5
  z5 := Tryz.sizeOf5
  v5 := Tryz.zeroValue5
  t9 := Tryz.underlying9
  a9 := Tryz.isAgg9
  z9 := Tryz.sizeOf9
  v9 := Tryz.zeroValue9
  t22 := Tryz.underlying31
  a22 := Tryz.isAgg31
  z22 := Tryz.sizeOf31
  v22 := Tryz.zeroValue31
  t23 := Tryz.underlying31
  a23 := Tryz.isAgg31
  z23 := Tryz.sizeOf31
  v23 := Tryz.zeroValue31
  t25 := Tryz.underlying35
  a25 := Tryz.isAgg35
  z25 := Tryz.sizeOf35
  v25 := Tryz.zeroValue35
  t32 := Tryz.underlying175
  a32 := Tryz.isAgg175
  z32 := Tryz.sizeOf175
  v32 := Tryz.zeroValue175
  t35 := Tryz.underlying189
  a35 := Tryz.isAgg189
  z35 := Tryz.sizeOf189
  v35 := Tryz.zeroValue189
  t36 := Tryz.underlying190
  a36 := Tryz.isAgg190
  z36 := Tryz.sizeOf190
  v36 := Tryz.zeroValue190
  t41 := Tryz.underlying195
  a41 := Tryz.isAgg195
  z41 := Tryz.sizeOf195
  v41 := Tryz.zeroValue195
  t44 := Tryz.underlying198
  a44 := Tryz.isAgg198
  z44 := Tryz.sizeOf198
  v44 := Tryz.zeroValue198
  t46 := Tryz.underlying200
  a46 := Tryz.isAgg200
  z46 := Tryz.sizeOf200
  v46 := Tryz.zeroValue200
  t53 := Tryz.underlying215
  a53 := Tryz.isAgg215
  z53 := Tryz.sizeOf215
  v53 := Tryz.zeroValue215
  t57 := Tryz.underlying156
  a57 := Tryz.isAgg156
  z57 := Tryz.sizeOf156
  v57 := Tryz.zeroValue156
  t63 := Tryz.underlying225
  a63 := Tryz.isAgg225
  z63 := Tryz.sizeOf225
  v63 := Tryz.zeroValue225
  t64 := Tryz.underlying226
  a64 := Tryz.isAgg226
  z64 := Tryz.sizeOf226
  v64 := Tryz.zeroValue226 }
end Go.Proofs.YtmefjkggibbhoaaGreat
