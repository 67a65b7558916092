/- A world of one mint and its purses, as a list of amounts. -/
import Derived.Test.YtmefjkggibbhoaaMove
import Derived.Test.YtmefjkggibbhoaaCheck
namespace Go.Proofs.Ytmefjkggibbhoaa
open Go.RowKit Go.ChangeMaps Go.MapKept

/-- Purses, from the number r on. -/
def pth (h : Int) : Int → List Int → List (Int × Th)
  | _, [] => []
  | r, x :: xs => (r, purseT h x 1) :: pth h (r + 1) xs
theorem pth_append (h : Int) (n : Int) : ∀ (b : List Int) (r : Int), pth h r (b ++ [n]) = pth h r b ++ [(r + b.length, purseT h n 1)]
  | [], r => by simp [pth]
  | x :: b, r => by
    have ih := pth_append h n b (r + 1)
    simp only [List.cons_append, pth, ih, List.length_cons]
    rw [show r + 1 + (b.length : Int) = r + ((b.length + 1 : Nat) : Int) by omega]
theorem pth_lt (h : Int) : ∀ (b : List Int) (r : Int) (x : Int × Th), x ∈ pth h r b → r ≤ x.1
  | [], _, _, hx => by cases hx
  | y :: b, r, x, hx => by
    rcases List.mem_cons.1 hx with rfl | hx
    · exact Int.le_refl _
    · have := pth_lt h b (r + 1) x hx
      omega
theorem pth_lookup (h : Int) : ∀ (b : List Int) (r : Int) (i : Nat), (pth h r b).lookup (r + i) = b[i]?.map fun x => purseT h x 1
  | [], _, _ => by simp [pth]
  | x :: b, r, 0 => by simp [pth]
  | x :: b, r, i + 1 => by
    have ih := pth_lookup h b (r + 1) i
    rw [show r + ((i + 1 : Nat) : Int) = r + 1 + i by omega]
    simp only [pth, List.lookup_cons, List.getElem?_cons_succ]
    rw [show (r + 1 + (i : Int) == r) = false by simp; omega]
    exact ih
theorem pth_keep (h : Int) (t : Th) (q : Int) (b : List Int) (r : Int) (hq : q < r) : (pth h r b).map (fun x => if x.1 = q then (x.1, t) else x) = pth h r b := by
  conv => rhs; rw [← List.map_id (pth h r b)]
  refine List.map_congr_left fun x hx => ?_
  have := pth_lt h b r x hx
  rw [if_neg (by omega)]
  rfl
theorem pth_set (h n : Int) : ∀ (b : List Int) (r : Int) (i : Nat), (pth h r b).map (fun x => if x.1 = r + i then (x.1, purseT h n 1) else x) = pth h r (b.set i n)
  | [], _, _ => by simp [pth]
  | x :: b, r, 0 => by
    have := pth_keep h (purseT h n 1) r b (r + 1) (by omega)
    simp only [pth, List.map_cons, List.set_cons_zero]
    rw [show r + ((0 : Nat) : Int) = r by omega, this, if_pos rfl]
  | x :: b, r, i + 1 => by
    have ih := pth_set h n b (r + 1) i
    simp only [pth, List.map_cons, List.set_cons_succ]
    rw [show r + ((i + 1 : Nat) : Int) = r + 1 + i by omega, ih, if_neg (by omega)]
theorem pth_mem (h : Int) : ∀ (b : List Int) (r : Int) (x : Int × Th), x ∈ pth h r b → ∃ n, n ∈ b ∧ x.2 = purseT h n 1
  | [], _, _, hx => by cases hx
  | y :: b, r, x, hx => by
    rcases List.mem_cons.1 hx with rfl | hx
    · exact ⟨y, by simp, rfl⟩
    · obtain ⟨n, h1, h2⟩ := pth_mem h b (r + 1) x hx
      exact ⟨n, by simp [h1], h2⟩
theorem sum_set : ∀ (b : List Int) (i : Nat) (x v : Int), b[i]? = some x → (b.set i v).sum = b.sum - x + v
  | [], _, _, _, h => by simp at h
  | y :: b, 0, x, v, h => by
    simp only [List.getElem?_cons_zero, Option.some.injEq] at h
    subst h
    simp only [List.set_cons_zero, List.sum_cons]
    omega
  | y :: b, i + 1, x, v, h => by
    have := sum_set b i x v (by simpa using h)
    simp only [List.set_cons_succ, List.sum_cons, this]
    omega
theorem sum_snoc (b : List Int) (x : Int) : (b ++ [x]).sum = b.sum + x := by simp
theorem sum_nn : ∀ (b : List Int), (∀ x ∈ b, 0 ≤ x) → 0 ≤ b.sum
  | [], _ => by simp
  | x :: b, h => by
    have h1 := h x (by simp)
    have h2 := sum_nn b fun y hy => h y (by simp [hy])
    simp only [List.sum_cons]
    omega
theorem le_sum : ∀ (b : List Int), (∀ x ∈ b, 0 ≤ x) → ∀ x ∈ b, x ≤ b.sum
  | [], _, _, h => by cases h
  | y :: b, h, x, hx => by
    have h1 := h y (by simp)
    have h2 := sum_nn b fun z hz => h z (by simp [hz])
    simp only [List.sum_cons]
    rcases List.mem_cons.1 hx with rfl | hx
    · omega
    · have := le_sum b (fun z hz => h z (by simp [hz])) x hx
      omega
theorem two_sum (b : List Int) (hb : ∀ x ∈ b, 0 ≤ x) {i j : Nat} {x y : Int} (hij : i ≠ j) (hi : b[i]? = some x) (hj : b[j]? = some y) : x + y ≤ b.sum := by
  have h1 := sum_set b i x 0 hi
  have h2 : (b.set i 0)[j]? = some y := by rw [List.getElem?_set_ne hij]; exact hj
  have h3 := le_sum (b.set i 0) (fun z hz => by
    rcases List.mem_or_eq_of_mem_set hz with hz | rfl
    · exact hb z hz
    · exact Int.le_refl _) y (List.mem_of_getElem? h2)
  omega

/-- One mint, 1, and its purses, 2 and on: all at home on side h. -/
structure Bk (M : WM) (h S : Int) (b : List Int) : Prop where
  things : M.things = (1, mintT h S 0) :: pth h 2 b
  last : M.last = b.length + 1
  home : 0 ≤ h ∧ h < M.made.length
  made : M.made.getD h.toNat 0 = b.length + 1
  nn : ∀ x ∈ b, 0 ≤ x
  sum : b.sum = S
  le : S ≤ 9007199254740992

section
variable {M : WM} {h S : Int} {b : List Int}
theorem Bk.mint (H : Bk M h S b) : M.at 1 = some (mintT h S 0) := by
  show M.things.lookup 1 = _
  rw [H.things]
  rfl
theorem Bk.purse (H : Bk M h S b) {i : Nat} {x : Int} (hi : b[i]? = some x) : M.at ((i : Int) + 2) = some (purseT h x 1) := by
  show M.things.lookup _ = _
  rw [H.things, List.lookup_cons, show ((i : Int) + 2 == 1) = false by simp; omega, show (i : Int) + 2 = 2 + i by omega]
  show (pth h 2 b).lookup _ = _
  rw [pth_lookup, hi]
  rfl
theorem Bk.nnS (H : Bk M h S b) : 0 ≤ S := by
  have := sum_nn b H.nn
  rw [← H.sum]
  exact this
theorem Bk.val (H : Bk M h S b) {i : Nat} {x : Int} (hi : b[i]? = some x) : 0 ≤ x ∧ x ≤ 9007199254740992 := by
  have h1 := H.nn x (List.mem_of_getElem? hi)
  have h2 := le_sum b H.nn x (List.mem_of_getElem? hi)
  have h3 := H.sum
  have h4 := H.le
  omega
theorem bk_map (h S n : Int) (b : List Int) (i : Nat) : ((1, mintT h S 0) :: pth h 2 b).map (fun x => if x.1 = (i : Int) + 2 then (x.1, purseT h n 1) else x) = (1, mintT h S 0) :: pth h 2 (b.set i n) := by
  rw [List.map_cons, if_neg (by simp only; omega), show (i : Int) + 2 = 2 + i by omega, pth_set]
theorem made_add (H : Bk M h S b) (n : Int) : ((M.add (purseT h n 1)).made).getD h.toNat 0 = b.length + 1 + 1 ∧ ((M.add (purseT h n 1)).made).length = M.made.length := by
  have h1 := H.home
  have e : (M.add (purseT h n 1)).made = M.made.set h.toNat (M.made.getD h.toNat 0 + 1) := if_neg (t := M.made) (show ¬ ((9 : Int) = 14) by decide)
  rw [e]
  refine ⟨?_, by simp⟩
  rw [List.getD_eq_getElem?_getD, List.getElem?_set_self (by omega), ← H.made]
  rfl
theorem Bk.ask (H : Bk M h S b) {n : Int} (hn : 0 ≤ n) (hs : S + n ≤ 9007199254740992) : Bk ((M.add (purseT h n 1)).set 1 (mintT h (S + n) 0)) h (S + n) (b ++ [n]) where
  things := by
    show (M.things ++ [(M.last + 1, purseT h n 1)]).map _ = _
    rw [H.things, H.last, pth_append]
    have hb := Int.natCast_nonneg b.length
    rw [List.map_append, List.map_cons, pth_keep _ _ _ _ _ (by decide)]
    simp only [List.map_cons, List.map_nil]
    rw [if_pos trivial, if_neg (by omega), show (b.length : Int) + 1 + 1 = 2 + b.length by omega]
    rfl
  last := by
    show M.last + 1 = _
    rw [H.last]
    simp
  home := by
    show 0 ≤ h ∧ h < (M.add (purseT h n 1)).made.length
    rw [(made_add H n).2]
    exact H.home
  made := by
    show (M.add (purseT h n 1)).made.getD h.toNat 0 = _
    rw [(made_add H n).1]
    simp
  nn x hx := by
    rcases List.mem_append.1 hx with hx | hx
    · exact H.nn x hx
    · simp only [List.mem_singleton] at hx
      omega
  sum := by rw [sum_snoc, H.sum]
  le := hs
theorem Bk.move (H : Bk M h S b) {i j : Nat} {x y : Int} (hij : i ≠ j) (hi : b[i]? = some x) (hj : b[j]? = some y) :
    Bk ((M.set ((i : Int) + 2) (purseT h (x + y) 1)).set ((j : Int) + 2) (purseT h 0 1)) h S ((b.set i (x + y)).set j 0) where
  things := by
    show (M.things.map _).map _ = _
    rw [H.things, bk_map, bk_map]
  last := by
    show M.last = _
    rw [H.last]
    simp
  home := H.home
  made := by
    show M.made.getD h.toNat 0 = _
    rw [H.made]
    simp
  nn z hz := by
    have h1 := H.val hi
    have h2 := H.val hj
    rcases List.mem_or_eq_of_mem_set hz with hz | rfl
    · rcases List.mem_or_eq_of_mem_set hz with hz | rfl
      · exact H.nn z hz
      · omega
    · exact Int.le_refl _
  sum := by
    rw [sum_set _ j y 0 (by rw [List.getElem?_set_ne hij]; exact hj), sum_set b i x (x + y) hi, H.sum]
    omega
  le := H.le
theorem Bk.take (H : Bk M h S b) {i : Nat} {x n : Int} (hi : b[i]? = some x) (hn : 0 ≤ n ∧ n ≤ x) :
    Bk ((M.add (purseT h n 1)).set ((i : Int) + 2) (purseT h (x - n) 1)) h S ((b.set i (x - n)) ++ [n]) where
  things := by
    show (M.things ++ [(M.last + 1, purseT h n 1)]).map _ = _
    have hlt := (List.getElem?_eq_some_iff.1 hi).1
    rw [H.things, H.last, List.map_append, bk_map, pth_append]
    simp only [List.map_cons, List.map_nil, List.length_set]
    rw [if_neg (by omega), show (b.length : Int) + 1 + 1 = 2 + b.length by omega]
    rfl
  last := by
    show M.last + 1 = _
    rw [H.last]
    simp
  home := by
    show 0 ≤ h ∧ h < (M.add (purseT h n 1)).made.length
    rw [(made_add H n).2]
    exact H.home
  made := by
    show (M.add (purseT h n 1)).made.getD h.toNat 0 = _
    rw [(made_add H n).1]
    simp
  nn z hz := by
    rcases List.mem_append.1 hz with hz | hz
    · rcases List.mem_or_eq_of_mem_set hz with hz | rfl
      · exact H.nn z hz
      · omega
    · simp only [List.mem_singleton] at hz
      omega
  sum := by
    rw [sum_snoc, sum_set b i x _ hi, H.sum]
    omega
  le := H.le

theorem foldl_sum : ∀ (b : List Int) (r s : Int), (∀ x ∈ b, 0 ≤ x) → s + b.sum ≤ 9007199254740992 → (pth h r b).foldl (fun s x => s + min x.2.n (9007199254740992 - s)) s = s + b.sum
  | [], r, s, _, _ => by simp [pth]
  | x :: b, r, s, hn, hs => by
    have h1 := hn x (by simp)
    have h2 := sum_nn b fun z hz => hn z (by simp [hz])
    simp only [List.sum_cons] at hs
    have ih := foldl_sum b (r + 1) (s + x) (fun z hz => hn z (by simp [hz])) (by omega)
    simp only [pth, List.foldl_cons, List.sum_cons]
    rw [show s + min (purseT h x 1).n (9007199254740992 - s) = s + x by show s + min x _ = _; omega, ih]
    omega
theorem pth_filter (h : Int) : ∀ (b : List Int) (r : Int), (pth h r b).filter (isP 1) = pth h r b
  | [], _ => rfl
  | x :: b, r => by
    simp only [pth, List.filter_cons, pth_filter h b (r + 1)]
    rw [if_pos (by simp [isP])]
theorem Bk.pur (H : Bk M h S b) : ∀ x ∈ M.things, x.2.kind = 9 → ∃ h n m, x.2 = purseT h n m ∧ 0 ≤ n := by
  rw [H.things]
  intro x hx hk
  rcases List.mem_cons.1 hx with rfl | hx
  · cases hk
  · obtain ⟨n, h1, h2⟩ := pth_mem _ _ _ _ hx
    exact ⟨h, n, 1, h2, H.nn n h1⟩
theorem Bk.mints (H : Bk M h S b) : ∀ x ∈ M.things, x.2.kind = 8 → ∃ h N lo, x.2 = mintT h N lo ∧ N - lo = sumF (M.things.filter (isP x.1)) := by
  have hall := H.things
  rw [hall]
  intro x hx hk
  rcases List.mem_cons.1 hx with rfl | hx
  · refine ⟨h, S, 0, rfl, ?_⟩
    rw [List.filter_cons, if_neg (by simp [isP]), pth_filter]
    show _ = List.foldl _ _ _
    have h1 := H.sum
    have h2 := H.le
    rw [foldl_sum b 2 0 H.nn (by omega)]
    omega
  · obtain ⟨n, h1, h2⟩ := pth_mem _ _ _ _ hx
    rw [h2] at hk
    cases hk
end
end Go.Proofs.Ytmefjkggibbhoaa
