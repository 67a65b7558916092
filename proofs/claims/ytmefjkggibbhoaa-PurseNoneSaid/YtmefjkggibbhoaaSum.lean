/- Sum: what the purses of a mint hold, and what the mint says. -/
import Derived.Test.YtmefjkggibbhoaaPurses
import Derived.Sort.QuietIn
import Derived.Sort.CutIn
namespace Go.Proofs.Ytmefjkggibbhoaa
open Go.RowKit Go.Shelf Go.ChangeMaps Go.MapKept
attribute [local go_sem] Oper.semAt_some

/-- What some purses hold. -/
def sumP : List (Int × Th) → Int
  | [] => 0
  | x :: xs => x.2.n + sumP xs
def sumF (xs : List (Int × Th)) : Int := xs.foldl (fun s x => s + min x.2.n (9007199254740992 - s)) 0
theorem sumF_snoc (xs : List (Int × Th)) (x : Int × Th) : sumF (xs ++ [x]) = sumF xs + min x.2.n (9007199254740992 - sumF xs) := by simp [sumF]
theorem sumF_le : ∀ (xs : List (Int × Th)), (∀ x ∈ xs, 0 ≤ x.2.n) → 0 ≤ sumF xs ∧ sumF xs ≤ 9007199254740992 := by
  have key : ∀ (xs : List (Int × Th)) (s : Int), (∀ x ∈ xs, 0 ≤ x.2.n) → 0 ≤ s ∧ s ≤ 9007199254740992 → 0 ≤ xs.foldl (fun s x => s + min x.2.n (9007199254740992 - s)) s ∧ xs.foldl (fun s x => s + min x.2.n (9007199254740992 - s)) s ≤ 9007199254740992 := by
    intro xs
    induction xs with
    | nil => intro s _ h; exact h
    | cons x xs ih =>
      intro s hx h
      refine ih _ (fun y hy => hx y (by simp [hy])) ?_
      have := hx x (by simp)
      show 0 ≤ s + min x.2.n (9007199254740992 - s) ∧ s + min x.2.n (9007199254740992 - s) ≤ 9007199254740992
      omega
  exact fun xs h => key xs 0 h (by omega)
theorem row_slice {W : World} {base : Nat} {e : TypeId} {v : Value} {n : Nat} {xs : List Value} (h : W.ownsRow base e 1 v n xs) :
    ∃ a cap, v = .slice a n cap ∧ ∀ k, k < n → ∃ g, a = some ⟨g, 0, none⟩ ∧ W.cell? ⟨g, k, none⟩ = xs[k]? := by
  rcases h.2 with ⟨rfl, h0⟩ | ⟨g, cap, cur, rfl, -⟩
  · subst h0
    exact ⟨none, 0, rfl, fun k hk => by omega⟩
  · exact ⟨_, cap, rfl, fun k hk => ⟨g, rfl, h.cellAt k (by omega)⟩⟩

set_option maxHeartbeats 4000000 in
set_option maxRecDepth 100000 in
theorem Sum_W {w : World} {p : Nat} {M : WM} {F : Nat → Prop} (hW : IsW w p M F) {r h N lo : Int} (hr : (Lit.int .i64 r).wf = true) (ht : M.at r = some (mintT h N lo))
    (hP : ∀ x ∈ M.things, x.2.kind = 9 → ∃ h n m, x.2 = purseT h n m ∧ 0 ≤ n) :
    Calls Try.prog 46 #[.pointer (some ⟨p, 0, none⟩), .int .i64 r] w fun e w' => e = .returned (.tuple #[.int .i64 (sumF (M.things.filter (isP r))), .int .i64 lo, .int .i64 N, .int .i64 0]) ∧ Below w.heap.size w w' := by
  have HW := (show Hid (IsW w p M F) from hW)
  have hps := Purses_W hW hr ht (fun x hx hk => by obtain ⟨a, b, c, d, -⟩ := hP x hx hk; exact ⟨a, b, c, d⟩)
  have HPS := (show Hid _ from hps)
  have HQ : Hid (∀ w1, Below w.heap.size w w1 → Calls Try.prog 22 #[.pointer (some ⟨p, 0, none⟩), .int .i64 r] w1 fun e w' => e = .returned (.tuple #[.agg #[.int .u8 8, .int .i64 h, .int .u8 0, .int .i64 0, .string ⟨#[]⟩, .slice none 0 0, .int .i64 0, .slice none 0 0, .int .i64 N, .int .i64 lo, .int .i64 0, .int .i64 0, .int .u8 0, .bool false, .slice none 0 0, .slice none 0 0], .int .i64 0]) ∧ Below w1.heap.size w1 w') := fun w1 hb => What_lt (hW.below hb) hr ht plain0
  have HP := (show Hid _ from hP)
  clear hps hW ht hP
  refine (callsIn_wide (n := 5)).1 ?_
  refine callsIn_of_wp Try.func46 rfl trivial ?_ rfl
  simp only [Try.ntmps46, List.size_toArray, List.length_cons, List.length_nil, Nat.reduceAdd, Nat.reduceSub, Array.replicate_succ, Array.replicate_zero, List.push_toArray, List.append_toArray, List.nil_append, List.cons_append]
  gi_wp2_with fail
  refine ⟨trivial, (callsIn_wide.2 HPS.out).mono ?_⟩
  rintro e w1 ⟨v, rfl, hrow, hb1⟩
  obtain ⟨a, cap, rfl, hcells⟩ := row_slice hrow
  generalize hL : M.things.filter (isP r) = L at *
  have HL : Hid (∀ x ∈ L, x ∈ M.things ∧ ∃ h n m, x.2 = purseT h n m ∧ 0 ≤ n) := by
    intro x hx
    rw [← hL] at hx
    obtain ⟨h1, h2⟩ := List.mem_filter.1 hx
    have h3 : x.2.kind = 9 := by simp only [isP, Bool.and_eq_true, decide_eq_true_eq] at h2; exact h2.1
    exact ⟨h1, HP.out x h1 h3⟩
  have HN : Hid ((L.length : Int) ≤ 1099511627776) := by
    have h1 := HW.out.ok.len_le
    have h2 := HW.out.ok.last.2
    have h3 := List.length_filter_le (isP r) M.things
    rw [hL] at h3
    show _ ≤ _
    omega
  have HC := (show Hid (∀ k, k < L.length → ∃ g, a = some ⟨g, 0, none⟩ ∧ w1.cell? ⟨g, k, none⟩ = (L.map fun x => Value.int .i64 x.1)[k]?) from hcells)
  have HB1 := (show Hid (Below w.heap.size w w1) from hb1)
  have HLe := (show Hid (M.things.filter (isP r) = L) from hL)
  clear hrow hb1 hcells hL
  gi_wp2_with fail
  gi_loopw [4, 26] (fun v4 vi wr => ∃ k : Nat, vi = .int .i64 k ∧ k ≤ L.length ∧ v4 = .int .i64 (sumF (L.take k)) ∧ Hid (Below w1.heap.size w1 wr)) (fun _ vi _ => L.length - (intOf vi).toNat)
  case atStart => exact ⟨0, rfl, Nat.zero_le _, rfl, Below.refl _ _⟩
  case round =>
    obtain ⟨k, rfl, hk, rfl, HBr⟩ := hrel
    by_cases hkm : k < L.length
    · have hkz : (k : Int) < (L.length : Int) := by omega
      have hwk : wrap64 ((k : Int) + 1) = (k : Int) + 1 := by have := HN.out; unfold wrap64; omega
      obtain ⟨x, hx⟩ : ∃ x, L[k]? = some x := ⟨_, List.getElem?_eq_getElem hkm⟩
      obtain ⟨hxm, h2, n2, m2, hx2, hn2⟩ := HL.out x (List.mem_of_getElem? hx)
      obtain ⟨g, rfl, hcell⟩ := HC.out k hkm
      have hs0 := sumF_le (L.take k) (fun y hy => by obtain ⟨-, h', n', m', e, hn⟩ := HL.out y (List.mem_of_mem_take hy); rw [e]; exact hn)
      have Htk : Hid (sumF (L.take (k + 1)) = sumF (L.take k) + min n2 (9007199254740992 - sumF (L.take k))) := by
        show _ = _
        rw [List.take_add_one, hx]
        show sumF (L.take k ++ [x]) = _
        rw [sumF_snoc, hx2]
      have hcx : wr.cell? ⟨g, k, none⟩ = some (.int .i64 x.1) := by
        rw [List.getElem?_map, hx] at hcell
        exact (HBr.out.cell (p := ⟨g, k, none⟩) (World.block_lt_of_cell? _ _ hcell)).trans hcell
      have hat : M.at x.1 = some (purseT h2 n2 m2) := by rw [HW.out.ok.at_of_mem hxm, hx2]
      have HG : Hid (∀ w2, Below w.heap.size w w2 → Calls Try.prog 42 #[.pointer (some ⟨p, 0, none⟩), .int .i64 x.1] w2 fun e w' => e = .returned (.tuple #[.int .i64 n2, .int .i64 0]) ∧ Below w2.heap.size w2 w') :=
        fun w2 hb => Get_W (HW.out.below hb) (HW.out.ok.at_wf hat) hat
      generalize sumF (L.take k) = S at *
      have hw1 : wrap64 (9007199254740992 - S) = 9007199254740992 - S := by unfold wrap64; omega
      have hw2 : wrap64 (S + min n2 (9007199254740992 - S)) = S + min n2 (9007199254740992 - S) := by unfold wrap64; omega
      clear hx hxm hx2 hcell hat
      gi_wp2_with fail
      refine ⟨trivial, (callsIn_wide.2 (HG.out wr (HB1.out.trans (HBr.out.mono HB1.out.size)))).mono ?_⟩
      rintro e w2 ⟨rfl, hb2⟩
      gi_wp2_with fail
      go_roundw
      case rel => exact ⟨k + 1, by go_num, by omega, by rw [Htk.out], HBr.out.trans (hb2.mono HBr.out.size)⟩
      case measure => rw [hwk]; exact measure_down hkm
    · have hkz : ¬ (k : Int) < (L.length : Int) := by omega
      obtain rfl : k = L.length := by omega
      gi_wp2_with fail
      have hbr : Below w.heap.size w wr := HB1.out.trans (HBr.out.mono HB1.out.size)
      refine ⟨trivial, (callsIn_wide.2 (HQ.out wr hbr)).mono ?_⟩
      rintro e w2 ⟨rfl, hb2⟩
      obtain ⟨w3, hst, hb3, hg3, hs3⟩ := boxed_what' w2 #[.int .u8 8, .int .i64 h, .int .u8 0, .int .i64 0, .string ⟨#[]⟩, .slice none 0 0, .int .i64 0, .slice none 0 0, .int .i64 N, .int .i64 lo, .int .i64 0, .int .i64 0, .int .u8 0, .bool false, .slice none 0 0, .slice none 0 0] rfl (by simp [go_sem])
      have HB3 := (show Hid (Below w.heap.size w w3) from hbr.trans ((hb2.trans (hb3.mono hb2.size)).mono hbr.size))
      have c8 : w3.cell? ⟨w2.heap.size, 8, none⟩ = some (.int .i64 N) := by rw [cell_blk hg3]; rfl
      have c9 : w3.cell? ⟨w2.heap.size, 9, none⟩ = some (.int .i64 lo) := by rw [cell_blk hg3]; rfl
      clear hbr hb2 hb3 hg3 hs3
      gi_wp2_with fail
      gi_quiet (fail)
      gi_wp2_with fail
      refine bodyPost_ret (v := .tuple #[.int .i64 (sumF L), .int .i64 lo, .int .i64 N, .int .i64 0]) (by simp [results, Try.f46, go_sem]) rfl ⟨by rw [HLe.out], HB3.out.trans ⟨rfl, rfl, rfl, Nat.le_refl _, fun _ _ => rfl⟩⟩
end Go.Proofs.Ytmefjkggibbhoaa
