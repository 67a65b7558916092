/- A part of the proof, several texts in one: ConA, ConN, Free, Lives. -/
import Derived.Test.YtmefjkggibbhoaaGreatmAL
import Derived.Test.YtmefjkggibbhoaaGreatmAO
import Derived.Test.YtmefjkggibbhoaaGreatmAT
import Derived.Test.YtmefjkggibbhoaaGreatmAC
import Derived.Test.YtmefjkggibbhoaaGreatmAG
import Derived.Deep.QuietTactic
import Derived.BigQuiet
import Derived.Test.YtmefjkggibbhoaaGreatmAP
import Derived.Test.YtmefjkggibbhoaaGreatmAI
import Derived.Test.YtmefjkggibbhoaaGreatmAH
import Derived.Test.YtmefjkggibbhoaaGreatmAD
/- PurseConserved: a world of mints and purses: as plain data. -/
namespace Go.Proofs.YtmefjkggibbhoaaGreat
open Go.RowKit

/-- What a thing adds to the purses of r. -/
def mon (r : Int) (x : Int × Th) : Int := if isP r x then x.2.n else 0
def tot (r : Int) : List (Int × Th) → Int
  | [] => 0
  | x :: l => mon r x + tot r l
theorem tot_append (r : Int) : ∀ xs ys, tot r (xs ++ ys) = tot r xs + tot r ys
  | [], ys => by simp [tot]
  | x :: xs, ys => by
    show mon r x + tot r (xs ++ ys) = mon r x + tot r xs + tot r ys
    rw [tot_append r xs ys]
    omega
theorem tot_set (r q : Int) (t u : Th) : ∀ l : List (Int × Th), (l.map (·.1)).Nodup → l.lookup q = some u → tot r (l.map fun x => if x.1 = q then (x.1, t) else x) = tot r l - mon r (q, u) + mon r (q, t)
  | [], _, h => by simp at h
  | (k, v) :: l, hn, h => by
    simp only [List.map_cons, List.nodup_cons] at hn
    by_cases e : k = q
    · subst e
      simp only [List.lookup_cons, beq_self_eq_true] at h
      obtain rfl := Option.some.inj h
      have hid : (l.map fun x => if x.1 = k then (x.1, t) else x) = l := by
        have : ∀ x ∈ l, (if x.1 = k then (x.1, t) else x) = x := fun x hx => if_neg fun e => hn.1 (by rw [← e]; exact List.mem_map_of_mem hx)
        rw [List.map_congr_left this]
        simp
      simp only [List.map_cons, if_true, hid, tot]
      omega
    · have hq : (q == k) = false := by simpa using fun e' : q = k => e e'.symm
      rw [List.lookup_cons, hq] at h
      have := tot_set r q t u l hn.2 h
      simp only [List.map_cons, if_neg e, tot]
      omega
theorem tot_nonneg {r : Int} : ∀ {l : List (Int × Th)}, (∀ x ∈ l, x.2.kind = 9 → 0 ≤ x.2.n) → 0 ≤ tot r l
  | [], _ => Int.le_refl 0
  | x :: l, h => by
    have h1 := tot_nonneg (r := r) (l := l) fun y hy => h y (by simp [hy])
    have h2 : 0 ≤ mon r x := by
      unfold mon isP
      split
      · rename_i h3
        simp only [Bool.and_eq_true, decide_eq_true_eq] at h3
        exact h x (by simp) h3.1
      · exact Int.le_refl 0
    show 0 ≤ mon r x + tot r l
    omega
theorem mon_le {r : Int} : ∀ {l : List (Int × Th)}, (∀ x ∈ l, x.2.kind = 9 → 0 ≤ x.2.n) → ∀ x ∈ l, mon r x ≤ tot r l
  | [], _, x, hx => by simp at hx
  | y :: l, h, x, hx => by
    have h1 := tot_nonneg (r := r) (l := l) fun z hz => h z (by simp [hz])
    have h2 := tot_nonneg (r := r) (l := [y]) fun z hz => h z (by simp at hz; simp [hz])
    have h3 : tot r [y] = mon r y + 0 := rfl
    show mon r x ≤ mon r y + tot r l
    rcases List.mem_cons.1 hx with rfl | hx
    · omega
    · have := mon_le (r := r) (fun z hz => h z (by simp [hz])) x hx
      omega
/-- What the purses of r have together, as Sum reckons it. -/
theorem sumF_tot (r : Int) (l : List (Int × Th)) (h : ∀ x ∈ l, x.2.kind = 9 → 0 ≤ x.2.n) (hle : tot r l ≤ 9007199254740992) : sumF (l.filter (isP r)) = tot r l := by
  have key : ∀ (l : List (Int × Th)) (s : Int), (∀ x ∈ l, x.2.kind = 9 → 0 ≤ x.2.n) → s + tot r l ≤ 9007199254740992 → (l.filter (isP r)).foldl (fun s x => s + min x.2.n (9007199254740992 - s)) s = s + tot r l := by
    intro l
    induction l with
    | nil =>
      intro s _ _
      show s = s + 0
      omega
    | cons x l ih =>
      intro s h hle
      have h0 := tot_nonneg (r := r) (l := l) fun y hy => h y (by simp [hy])
      have hx : tot r (x :: l) = mon r x + tot r l := rfl
      rw [hx] at hle ⊢
      rw [List.filter_cons]
      unfold mon at hle ⊢
      by_cases hp : isP r x = true
      · rw [if_pos hp] at hle ⊢
        rw [if_pos hp, List.foldl_cons]
        have hm : min x.2.n (9007199254740992 - s) = x.2.n := by omega
        rw [hm, ih _ (fun y hy => h y (by simp [hy])) (by omega)]
        omega
      · rw [if_neg hp] at hle ⊢
        rw [if_neg hp, ih _ (fun y hy => h y (by simp [hy])) (by omega)]
        omega
  have := key l 0 h (by omega)
  rw [Int.zero_add] at this
  exact this

structure Pu (M : WM) (m : Nat) : Prop where
  mlen : M.made.length = 2
  last : M.last = m
  all : ∀ r : Int, 1 ≤ r → r ≤ m → ∃ t, M.at r = some t
  kinds : ∀ r t, M.at r = some t → (∃ h N, t = mintT h N 0 ∧ 0 ≤ h ∧ h ≤ 1 ∧ 0 ≤ N ∧ N ≤ 9007199254740992 ∧ N = tot r M.things) ∨ (∃ h n q, t = purseT h n q ∧ 0 ≤ h ∧ h ≤ 1 ∧ 0 ≤ n ∧ ∃ N, M.at q = some (mintT h N 0))
  room : M.made.getD 0 0 ≤ m ∧ M.made.getD 1 0 ≤ m
theorem keys_nodup {M : WM} (h : M.ok) : (M.things.map (·.1)).Nodup := by
  rw [List.Nodup, List.pairwise_map]
  exact h.keys.imp fun h => by omega
theorem keys_nodup_add {M : WM} (h : M.ok) (t : Th) : ((M.add t).things.map (·.1)).Nodup := by
  show ((M.things ++ [(M.last + 1, t)]).map (·.1)).Nodup
  rw [List.map_append, List.nodup_append]
  refine ⟨keys_nodup h, by simp, fun a ha b hb e => ?_⟩
  obtain ⟨x, hx, rfl⟩ := List.mem_map.1 ha
  simp at hb
  have := h.range x hx
  omega
theorem mon_mint (r q h N lo : Int) : mon r (q, mintT h N lo) = 0 := by
  unfold mon isP
  simp
theorem mon_purse (r q h n m : Int) : mon r (q, purseT h n m) = if m = r then n else 0 := by
  unfold mon isP
  simp
section
variable {M : WM} {m : Nat}
theorem Pu.nonneg (h : Pu M m) (hM : M.ok) : ∀ x ∈ M.things, x.2.kind = 9 → 0 ≤ x.2.n := fun x hx hk => by
  rcases h.kinds x.1 x.2 (hM.at_of_mem hx) with ⟨h', N, e, -⟩ | ⟨h', n, q, e, -, -, h0, -⟩
  · rw [e] at hk
    cases hk
  · rw [e]
    exact h0
theorem Pu.lite (h : Pu M m) : ∀ r t, M.at r = some t → Lite t := fun r t ht => by
  rcases h.kinds r t ht with ⟨h', N, rfl, -⟩ | ⟨h', n, q, rfl, -⟩
  · exact ⟨_, _, _, _, _, _, _, _, _, _, rfl, plain0⟩
  · exact ⟨_, _, _, _, _, _, _, _, _, _, rfl, plain0⟩
/-- No purse has more than there is. -/
theorem Pu.purse_le (h : Pu M m) (hM : M.ok) {r hh n q : Int} (ht : M.at r = some (purseT hh n q)) : 0 ≤ n ∧ n ≤ 9007199254740992 := by
  rcases h.kinds r _ ht with ⟨h', N, e, -⟩ | ⟨h', n', q', e, -, -, h0, N, hN⟩
  · cases e
  · cases e
    refine ⟨h0, ?_⟩
    have h1 := mon_le (r := q) (h.nonneg hM) _ (at_mem ht)
    rw [mon_purse, if_pos rfl] at h1
    rcases h.kinds q _ hN with ⟨h2, N2, e2, -, -, -, h3, h4⟩ | ⟨_, _, _, e2, -⟩
    · cases e2
      omega
    · cases e2
theorem room_add (h : M.made.getD 0 0 ≤ m ∧ M.made.getD 1 0 ≤ m) (t : Th) : (M.add t).made.getD 0 0 ≤ (m + 1 : Nat) ∧ (M.add t).made.getD 1 0 ≤ (m + 1 : Nat) := by
  have key : ∀ j : Nat, j = 0 ∨ j = 1 → (M.add t).made.getD j 0 ≤ (m + 1 : Nat) := fun j hj => by
    have hj' : M.made.getD j 0 ≤ m := by rcases hj with rfl | rfl; exact h.1; exact h.2
    show (if t.kind = 14 then M.made else M.made.set t.home.toNat (M.made.getD t.home.toNat 0 + 1)).getD j 0 ≤ _
    split
    · omega
    · rw [List.getD_eq_getElem?_getD, List.getElem?_set]
      split
      · rename_i e
        subst e
        split
        · simp only [Option.getD_some]
          omega
        · simp
          omega
      · rw [← List.getD_eq_getElem?_getD]
        omega
  exact ⟨key 0 (.inl rfl), key 1 (.inr rfl)⟩
/-- A mint more. -/
theorem Pu.mint (h : Pu M m) (hM : M.ok) {s : Int} (hs : 0 ≤ s ∧ s ≤ 1) : Pu (M.add (mintT s 0 0)) (m + 1) where
  mlen := (made_len M _).trans h.mlen
  last := by show M.last + 1 = _; have := h.last; omega
  all r h1 h2 := by
    rw [WM.add_at hM]
    split
    · exact ⟨_, rfl⟩
    · exact h.all r h1 (by have := h.last; omega)
  kinds r t ht := by
    rw [WM.add_at hM] at ht
    have htot : ∀ q, tot q (M.add (mintT s 0 0)).things = tot q M.things := fun q => by
      show tot q (M.things ++ [(M.last + 1, mintT s 0 0)]) = _
      rw [tot_append]
      show _ + (mon q _ + 0) = _
      rw [mon_mint]
      omega
    split at ht
    · rename_i e
      cases ht
      refine .inl ⟨s, 0, rfl, hs.1, hs.2, Int.le_refl _, by decide, ?_⟩
      rw [htot]
      have hz : ∀ l : List (Int × Th), (∀ x ∈ l, isP r x = false) → tot r l = 0 := fun l => by
        induction l with
        | nil => intro _; rfl
        | cons x l ih =>
          intro hl
          show mon r x + tot r l = 0
          rw [ih fun y hy => hl y (by simp [hy])]
          unfold mon
          rw [if_neg (by rw [hl x (by simp)]; simp)]
          rfl
      refine (hz _ fun x hx => ?_).symm
      rcases h.kinds x.1 x.2 (hM.at_of_mem hx) with ⟨h', N, e', -⟩ | ⟨h', n, q, e', -, -, -, N, hN⟩
      · unfold isP
        rw [e']
        simp
      · unfold isP
        rw [e']
        have := hM.at_range hN
        have : q ≠ r := by omega
        simp [this]
    · rcases h.kinds r t ht with ⟨h', N, rfl, h1, h2, h3, h4, h5⟩ | ⟨h', n, q, rfl, h1, h2, h3, N, hN⟩
      · exact .inl ⟨h', N, rfl, h1, h2, h3, h4, by rw [htot]; exact h5⟩
      · exact .inr ⟨h', n, q, rfl, h1, h2, h3, N, WM.add_at_old hM _ hN⟩
  room := room_add h.room _
theorem set_keys (M : WM) (r : Int) (t : Th) : (M.set r t).things.map (·.1) = M.things.map (·.1) := by
  show (M.things.map fun x => if x.1 = r then (x.1, t) else x).map (·.1) = _
  rw [List.map_map]
  apply List.map_congr_left
  intro x _
  show (if x.1 = r then (x.1, t) else x).1 = x.1
  split <;> rfl
/-- Ask. -/
theorem Pu.ask (h : Pu M m) (hM : M.ok) {r hh N n : Int} (ht : M.at r = some (mintT hh N 0)) (h0 : 0 ≤ n) (h1 : n ≤ 9007199254740992 - N) : Pu ((M.add (purseT hh n r)).set r (mintT hh (N + n) 0)) (m + 1) := by
  have hr1 := WM.add_at_old hM (purseT hh n r) ht
  have htot : ∀ q, tot q ((M.add (purseT hh n r)).set r (mintT hh (N + n) 0)).things = tot q M.things + if r = q then n else 0 := fun q => by
    have h2 := tot_set q r (mintT hh (N + n) 0) _ (M.add (purseT hh n r)).things (keys_nodup_add hM _) hr1
    show tot q ((M.add (purseT hh n r)).things.map _) = _
    rw [h2, mon_mint, mon_mint]
    show tot q (M.things ++ [(M.last + 1, purseT hh n r)]) - 0 + 0 = _
    rw [tot_append]
    show _ + (mon q _ + 0) - 0 + 0 = _
    rw [mon_purse]
    omega
  have hmint : ∀ q h' N', M.at q = some (mintT h' N' 0) → ∃ N', ((M.add (purseT hh n r)).set r (mintT hh (N + n) 0)).at q = some (mintT h' N' 0) := fun q h' N' hq => by
    by_cases e : q = r
    · subst e
      rw [ht] at hq
      cases hq
      exact ⟨_, WM.set_at_self _ hr1⟩
    · exact ⟨N', by rw [WM.set_at_ne _ _ e]; exact WM.add_at_old hM _ hq⟩
  have hk := h.kinds r _ ht
  obtain ⟨hh0, hh1, hN0, hN1, hNt⟩ : 0 ≤ hh ∧ hh ≤ 1 ∧ 0 ≤ N ∧ N ≤ 9007199254740992 ∧ N = tot r M.things := by
    rcases hk with ⟨h', N', e, a⟩ | ⟨_, _, _, e, -⟩
    · cases e
      exact a
    · cases e
  refine ⟨show (M.add (purseT hh n r)).made.length = 2 from (made_len M _).trans h.mlen, by show M.last + 1 = _; have := h.last; omega, fun x x1 x2 => ?_, fun x t hx => ?_, room_add h.room (purseT hh n r)⟩
  · rw [WM.set_at, WM.add_at hM]
    by_cases e : x = M.last + 1
    · rw [if_pos e]
      split <;> exact ⟨_, rfl⟩
    · obtain ⟨u, hu⟩ := h.all x x1 (by have := h.last; omega)
      rw [if_neg e, hu]
      split <;> exact ⟨_, rfl⟩
  · rcases WM.set_at_some hx with ⟨rfl, rfl, -⟩ | ⟨hne, hx⟩
    · exact .inl ⟨hh, N + n, rfl, hh0, hh1, by omega, by omega, by rw [htot, if_pos rfl]; omega⟩
    · rw [WM.add_at hM] at hx
      split at hx
      · cases hx
        exact .inr ⟨hh, n, r, rfl, hh0, hh1, h0, hmint r _ _ ht⟩
      · rcases h.kinds x t hx with ⟨h', N', rfl, a1, a2, a3, a4, a5⟩ | ⟨h', n', q, rfl, a1, a2, a3, N4, hN4⟩
        · exact .inl ⟨h', N', rfl, a1, a2, a3, a4, by rw [htot, if_neg (fun e => hne e.symm)]; omega⟩
        · exact .inr ⟨h', n', q, rfl, a1, a2, a3, hmint q _ _ hN4⟩
/-- Take. -/
theorem Pu.take (h : Pu M m) (hM : M.ok) {r hh N n q0 : Int} (ht : M.at r = some (purseT hh N q0)) (h0 : 0 ≤ n) (h1 : n ≤ N) : Pu ((M.add (purseT hh n q0)).set r (purseT hh (N - n) q0)) (m + 1) := by
  have hr1 := WM.add_at_old hM (purseT hh n q0) ht
  have htot : ∀ q, tot q ((M.add (purseT hh n q0)).set r (purseT hh (N - n) q0)).things = tot q M.things := fun q => by
    have h2 := tot_set q r (purseT hh (N - n) q0) _ (M.add (purseT hh n q0)).things (keys_nodup_add hM _) hr1
    show tot q ((M.add (purseT hh n q0)).things.map _) = _
    rw [h2, mon_purse, mon_purse]
    show tot q (M.things ++ [(M.last + 1, purseT hh n q0)]) - _ + _ = _
    rw [tot_append]
    show _ + (mon q _ + 0) - _ + _ = _
    rw [mon_purse]
    split <;> omega
  obtain ⟨hh0, hh1, hq0⟩ : 0 ≤ hh ∧ hh ≤ 1 ∧ ∃ N', M.at q0 = some (mintT hh N' 0) := by
    rcases h.kinds r _ ht with ⟨_, _, e, -⟩ | ⟨_, _, _, e, a1, a2, -, a4⟩
    · cases e
    · cases e
      exact ⟨a1, a2, a4⟩
  have hmint : ∀ q h' N', M.at q = some (mintT h' N' 0) → ∃ N', ((M.add (purseT hh n q0)).set r (purseT hh (N - n) q0)).at q = some (mintT h' N' 0) := fun q h' N' hq => by
    have hne : q ≠ r := fun e => by rw [e, ht] at hq; cases hq
    exact ⟨N', by rw [WM.set_at_ne _ _ hne]; exact WM.add_at_old hM _ hq⟩
  refine ⟨show (M.add (purseT hh n q0)).made.length = 2 from (made_len M _).trans h.mlen, by show M.last + 1 = _; have := h.last; omega, fun x x1 x2 => ?_, fun x t hx => ?_, room_add h.room (purseT hh n q0)⟩
  · rw [WM.set_at, WM.add_at hM]
    by_cases e : x = M.last + 1
    · rw [if_pos e]
      split <;> exact ⟨_, rfl⟩
    · obtain ⟨u, hu⟩ := h.all x x1 (by have := h.last; omega)
      rw [if_neg e, hu]
      split <;> exact ⟨_, rfl⟩
  · obtain ⟨N4, hq4⟩ := hq0
    rcases WM.set_at_some hx with ⟨rfl, rfl, -⟩ | ⟨hne, hx⟩
    · exact .inr ⟨hh, N - n, q0, rfl, hh0, hh1, by omega, hmint _ _ _ hq4⟩
    · rw [WM.add_at hM] at hx
      split at hx
      · cases hx
        exact .inr ⟨hh, n, q0, rfl, hh0, hh1, h0, hmint _ _ _ hq4⟩
      · rcases h.kinds x t hx with ⟨h', N', rfl, a1, a2, a3, a4, a5⟩ | ⟨h', n', q, rfl, a1, a2, a3, N5, hN5⟩
        · exact .inl ⟨h', N', rfl, a1, a2, a3, a4, by rw [htot]; exact a5⟩
        · exact .inr ⟨h', n', q, rfl, a1, a2, a3, hmint q _ _ hN5⟩
/-- Move. -/
theorem Pu.move (h : Pu M m) (hM : M.ok) {a b hh N h' N' q0 : Int} (ha : M.at a = some (purseT hh N q0)) (hb : M.at b = some (purseT h' N' q0)) (hab : a ≠ b) : Pu ((M.set a (purseT hh (N + N') q0)).set b (purseT h' 0 q0)) m := by
  have hb1 : (M.set a (purseT hh (N + N') q0)).at b = some (purseT h' N' q0) := by rw [WM.set_at_ne _ _ (fun e => hab e.symm)]; exact hb
  have htot : ∀ q, tot q ((M.set a (purseT hh (N + N') q0)).set b (purseT h' 0 q0)).things = tot q M.things := fun q => by
    have h2 := tot_set q b (purseT h' 0 q0) _ (M.set a (purseT hh (N + N') q0)).things (by rw [set_keys]; exact keys_nodup hM) hb1
    have h3 := tot_set q a (purseT hh (N + N') q0) _ M.things (keys_nodup hM) ha
    show tot q ((M.set a (purseT hh (N + N') q0)).things.map _) = _
    rw [h2]
    show tot q (M.things.map _) - _ + _ = _
    rw [h3, mon_purse, mon_purse, mon_purse, mon_purse]
    split <;> omega
  obtain ⟨x0, x1, x2, hq0⟩ : 0 ≤ hh ∧ hh ≤ 1 ∧ 0 ≤ N ∧ ∃ N', M.at q0 = some (mintT hh N' 0) := by
    rcases h.kinds a _ ha with ⟨_, _, e, -⟩ | ⟨_, _, _, e, a1, a2, a3, a4⟩
    · cases e
    · cases e
      exact ⟨a1, a2, a3, a4⟩
  obtain ⟨y0, y1, y2, hq1⟩ : 0 ≤ h' ∧ h' ≤ 1 ∧ 0 ≤ N' ∧ ∃ N', M.at q0 = some (mintT h' N' 0) := by
    rcases h.kinds b _ hb with ⟨_, _, e, -⟩ | ⟨_, _, _, e, a1, a2, a3, a4⟩
    · cases e
    · cases e
      exact ⟨a1, a2, a3, a4⟩
  have hmint : ∀ q h2 N2, M.at q = some (mintT h2 N2 0) → ∃ N2, ((M.set a (purseT hh (N + N') q0)).set b (purseT h' 0 q0)).at q = some (mintT h2 N2 0) := fun q h2 N2 hq => by
    have e1 : q ≠ a := fun e => by rw [e, ha] at hq; cases hq
    have e2 : q ≠ b := fun e => by rw [e, hb] at hq; cases hq
    exact ⟨N2, by rw [WM.set_at_ne _ _ e2, WM.set_at_ne _ _ e1]; exact hq⟩
  refine ⟨h.mlen, h.last, fun x x1 x2 => ?_, fun x t hx => ?_, h.room⟩
  · obtain ⟨u, hu⟩ := h.all x x1 x2
    rw [WM.set_at, WM.set_at, hu]
    split <;> split <;> exact ⟨_, rfl⟩
  · obtain ⟨N4, hq4⟩ := hq0
    obtain ⟨N5, hq5⟩ := hq1
    rcases WM.set_at_some hx with ⟨rfl, rfl, -⟩ | ⟨hne, hx⟩
    · exact .inr ⟨h', 0, q0, rfl, y0, y1, Int.le_refl _, hmint _ _ _ hq5⟩
    · rcases WM.set_at_some hx with ⟨rfl, rfl, -⟩ | ⟨hne, hx⟩
      · exact .inr ⟨hh, N + N', q0, rfl, x0, x1, by omega, hmint _ _ _ hq4⟩
      · rcases h.kinds x t hx with ⟨h5, N5, rfl, a1, a2, a3, a4, a5⟩ | ⟨h5, n5, q, rfl, a1, a2, a3, N6, hN6⟩
        · exact .inl ⟨h5, N5, rfl, a1, a2, a3, a4, by rw [htot]; exact a5⟩
        · exact .inr ⟨h5, n5, q, rfl, a1, a2, a3, hmint q _ _ hN6⟩
end
end Go.Proofs.YtmefjkggibbhoaaGreat
/- Ask of a purse, Take of a mint, Move where one is a mint: refused, nothing turned. -/
namespace Go.Proofs.YtmefjkggibbhoaaGreat
open Go.RowKit Go.ChangeMaps Go.MapKept
variable {w : World} {p : Nat} {M : WM} {F : Nat → Prop}

set_option maxHeartbeats 1000000 in
set_option maxRecDepth 8000 in
theorem Ask_not (hW : IsW w p M F) {r h n q x : Int} (hr : (Lit.int .i64 r).wf = true) (ht : M.at r = some (purseT h n q)) :
    Calls Tryz.prog 24 #[.pointer (some ⟨p, 0, none⟩), .int .i64 r, .int .i64 x] w fun e w' => e = .returned (.tuple #[.int .i64 0, .int .i64 100]) ∧ Below w.heap.size w w' := by
  have hf := find_lt hW (q := 8) hr ht plain0 (.inl rfl)
  rw [if_neg (by decide)] at hf
  have HF := (show Hid _ from hf)
  clear hf hW ht
  go_enter Tryz.func24, Tryz.ntmps24
  go_wp2_with fail
  refine Calls.mono HF.out ?_
  rintro e w1 ⟨rfl, hb1⟩
  obtain ⟨hst, hb2, hg2⟩ := boxed_what w1 #[.int .u8 9, .int .i64 h, .int .u8 0, .int .i64 0, .string ⟨#[]⟩, .slice none 0 0, .int .i64 0, .slice none 0 0, .int .i64 n, .int .i64 0, .int .i64 q, .int .i64 0, .int .u8 0, .bool false, .slice none 0 0, .slice none 0 0] rfl (by simp [go_sem])
  have HB2 := (show Hid (Below w.heap.size w _) from hb1.trans (hb2.mono hb1.size))
  clear hb1 hb2 hg2
  go_wp2_with fail
  go_ret2
  exact ⟨rfl, HB2.out⟩
set_option maxHeartbeats 1000000 in
set_option maxRecDepth 8000 in
theorem Take_not (hW : IsW w p M F) {r h N x : Int} (hr : (Lit.int .i64 r).wf = true) (ht : M.at r = some (mintT h N 0)) :
    Calls Tryz.prog 25 #[.pointer (some ⟨p, 0, none⟩), .int .i64 r, .int .i64 x] w fun e w' => e = .returned (.tuple #[.int .i64 0, .int .i64 100]) ∧ Below w.heap.size w w' := by
  have hf := find_lt hW (q := 9) hr ht plain0 (.inr rfl)
  rw [if_neg (by decide)] at hf
  have HF := (show Hid _ from hf)
  clear hf hW ht
  go_enter Tryz.func25, Tryz.ntmps25
  go_wp2_with fail
  refine Calls.mono HF.out ?_
  rintro e w1 ⟨rfl, hb1⟩
  obtain ⟨hst, hb2, hg2⟩ := boxed_what w1 #[.int .u8 8, .int .i64 h, .int .u8 0, .int .i64 0, .string ⟨#[]⟩, .slice none 0 0, .int .i64 0, .slice none 0 0, .int .i64 N, .int .i64 0, .int .i64 0, .int .i64 0, .int .u8 0, .bool false, .slice none 0 0, .slice none 0 0] rfl (by simp [go_sem])
  have HB2 := (show Hid (Below w.heap.size w _) from hb1.trans (hb2.mono hb1.size))
  clear hb1 hb2 hg2
  go_wp2_with fail
  go_ret2
  exact ⟨rfl, HB2.out⟩
set_option maxHeartbeats 4000000 in
set_option maxRecDepth 8000 in
theorem Move_not (hW : IsW w p M F) {a b k1 h1 n1 t1 k2 h2 n2 t2 : Int} (hra : (Lit.int .i64 a).wf = true) (hrb : (Lit.int .i64 b).wf = true) (ha : M.at a = some (lt k1 h1 0 0 n1 0 t1 0 0 false)) (hb : M.at b = some (lt k2 h2 0 0 n2 0 t2 0 0 false)) (hk : (k1 = 8 ∧ (k2 = 8 ∨ k2 = 9)) ∨ (k1 = 9 ∧ k2 = 8)) :
    Calls Tryz.prog 26 #[.pointer (some ⟨p, 0, none⟩), .int .i64 a, .int .i64 b] w fun e w' => e = .returned (.int .i64 100) ∧ Below w.heap.size w w' := by
  have hf := find_lt hW (q := 9) hra ha plain0 (.inr rfl)
  have hf2 := fun w1 (hb1 : Below w.heap.size w w1) => find_lt (hW.below hb1) (q := 9) hrb hb plain0 (.inr rfl)
  have HF := (show Hid _ from hf)
  have HF2 := (show Hid _ from hf2)
  clear hf hf2 hW ha hb
  obtain ⟨rfl, rfl | rfl⟩ | ⟨rfl, rfl⟩ := hk
  · go_enter Tryz.func26, Tryz.ntmps26
    go_wp2_with fail
    refine Calls.mono HF.out ?_
    rintro e w1 ⟨rfl, hb1⟩
    obtain ⟨w2, hst, hb2, -, -⟩ := boxed_what' w1 #[.int .u8 8, .int .i64 h1, .int .u8 0, .int .i64 0, .string ⟨#[]⟩, .slice none 0 0, .int .i64 0, .slice none 0 0, .int .i64 n1, .int .i64 0, .int .i64 t1, .int .i64 0, .int .u8 0, .bool false, .slice none 0 0, .slice none 0 0] rfl (by simp [go_sem])
    have HB2 := (show Hid (Below w.heap.size w w2) from hb1.trans (hb2.mono hb1.size))
    clear hb2
    go_upto_region 2 with fail
    clear hst
    go_wp2_with fail
    refine Calls.mono (HF2.out _ HB2.out) ?_
    rintro e w3 ⟨rfl, hb3⟩
    obtain ⟨w4, hst4, hb4, -, -⟩ := boxed_what' w3 #[.int .u8 8, .int .i64 h2, .int .u8 0, .int .i64 0, .string ⟨#[]⟩, .slice none 0 0, .int .i64 0, .slice none 0 0, .int .i64 n2, .int .i64 0, .int .i64 t2, .int .i64 0, .int .u8 0, .bool false, .slice none 0 0, .slice none 0 0] rfl (by simp [go_sem])
    have HB4 := (show Hid (Below w.heap.size w w4) from HB2.out.trans ((hb3.trans (hb4.mono hb3.size)).mono HB2.out.size))
    clear hb4
    go_wp2_with fail
    go_ret
    exact ⟨rfl, HB4.out⟩
  · go_enter Tryz.func26, Tryz.ntmps26
    go_wp2_with fail
    refine Calls.mono HF.out ?_
    rintro e w1 ⟨rfl, hb1⟩
    obtain ⟨w2, hst, hb2, -, -⟩ := boxed_what' w1 #[.int .u8 8, .int .i64 h1, .int .u8 0, .int .i64 0, .string ⟨#[]⟩, .slice none 0 0, .int .i64 0, .slice none 0 0, .int .i64 n1, .int .i64 0, .int .i64 t1, .int .i64 0, .int .u8 0, .bool false, .slice none 0 0, .slice none 0 0] rfl (by simp [go_sem])
    have HB2 := (show Hid (Below w.heap.size w w2) from hb1.trans (hb2.mono hb1.size))
    clear hb2
    go_upto_region 2 with fail
    clear hst
    go_wp2_with fail
    refine Calls.mono (HF2.out _ HB2.out) ?_
    rintro e w3 ⟨rfl, hb3⟩
    obtain ⟨w4, hst4, hb4, -, -⟩ := boxed_what' w3 #[.int .u8 9, .int .i64 h2, .int .u8 0, .int .i64 0, .string ⟨#[]⟩, .slice none 0 0, .int .i64 0, .slice none 0 0, .int .i64 n2, .int .i64 0, .int .i64 t2, .int .i64 0, .int .u8 0, .bool false, .slice none 0 0, .slice none 0 0] rfl (by simp [go_sem])
    have HB4 := (show Hid (Below w.heap.size w w4) from HB2.out.trans ((hb3.trans (hb4.mono hb3.size)).mono HB2.out.size))
    clear hb4
    go_wp2_with fail
    go_ret
    exact ⟨rfl, HB4.out⟩
  · go_enter Tryz.func26, Tryz.ntmps26
    go_wp2_with fail
    refine Calls.mono HF.out ?_
    rintro e w1 ⟨rfl, hb1⟩
    obtain ⟨w2, hst, hb2, -, -⟩ := boxed_what' w1 #[.int .u8 9, .int .i64 h1, .int .u8 0, .int .i64 0, .string ⟨#[]⟩, .slice none 0 0, .int .i64 0, .slice none 0 0, .int .i64 n1, .int .i64 0, .int .i64 t1, .int .i64 0, .int .u8 0, .bool false, .slice none 0 0, .slice none 0 0] rfl (by simp [go_sem])
    have HB2 := (show Hid (Below w.heap.size w w2) from hb1.trans (hb2.mono hb1.size))
    clear hb2
    go_upto_region 2 with fail
    clear hst
    go_wp2_with fail
    refine Calls.mono (HF2.out _ HB2.out) ?_
    rintro e w3 ⟨rfl, hb3⟩
    obtain ⟨w4, hst4, hb4, -, -⟩ := boxed_what' w3 #[.int .u8 8, .int .i64 h2, .int .u8 0, .int .i64 0, .string ⟨#[]⟩, .slice none 0 0, .int .i64 0, .slice none 0 0, .int .i64 n2, .int .i64 0, .int .i64 t2, .int .i64 0, .int .u8 0, .bool false, .slice none 0 0, .slice none 0 0] rfl (by simp [go_sem])
    have HB4 := (show Hid (Below w.heap.size w w4) from HB2.out.trans ((hb3.trans (hb4.mono hb3.size)).mono HB2.out.size))
    clear hb4
    go_wp2_with fail
    go_ret
    exact ⟨rfl, HB4.out⟩
end Go.Proofs.YtmefjkggibbhoaaGreat
/- Free, where no gate stands on the way. -/
namespace Go.Proofs.YtmefjkggibbhoaaGreat
open Go.RowKit Go.ChangeMaps Go.MapKept
variable {w : World} {p : Nat} {M : WM} {F : Nat → Prop}

theorem cell_below' {w w' : World} (hb : Below w.heap.size w w') {a : Addr} {v : Value} (h : w.cell? a = some v) : w'.cell? a = some v := by
  have : a.block < w.heap.size := by
    unfold World.cell? at h
    cases ho : w.heap[a.block]? with
    | none => simp [ho] at h
    | some o => exact blk_lt ho
  exact (hb.cell this).trans h

theorem meas_step {n k : Nat} (h : k < n) (hw : wrap64 ((k : Int) + 1) = (k : Int) + 1) : n - (intOf (.int .i64 (wrap64 ((k : Int) + 1)))).toNat < n - (intOf (.int .i64 (k : Int))).toNat := by
  rw [hw]
  have e1 : (intOf (.int .i64 ((k : Int) + 1))).toNat = k + 1 := by simp only [intOf]; omega
  have e2 : (intOf (.int .i64 (k : Int))).toNat = k := by simp only [intOf]; omega
  rw [e1, e2]
  omega

def freeL (M : WM) : Int → List Int → Bool
  | _, [] => true
  | a, r :: l => match M.at r with
    | none => false
    | some t => if t.kind = 14 then freeL M a l else if M.openB a t.home = true then freeL M t.home l else false

def freeE (v : Bool) : Int := if v = true then 0 else 7


end Go.Proofs.YtmefjkggibbhoaaGreat
/- lives of posternlaw07: it is true. -/
namespace Go.Proofs.YtmefjkggibbhoaaGreat
open Go.RowKit Go.ChangeMaps Go.MapKept

def LM0 : WM := WM.new [0, 0, 1]
def LM1 : WM := LM0.add (lt 1 1 1 7 0 0 0 0 0 false)
def LM2 : WM := LM1.add (ft 1 1)
def LM3 : WM := LM2.cutE 1

theorem ltree : TreeOk [0, 0, 1] := ⟨by decide, fun i p h => by
  match i, h with
  | 0, h => simp at h; omega
  | 1, h => simp at h; omega
  | 2, h => simp at h; omega⟩
theorem lnotree : ¬ TreeOk [0, 2] := fun h => by
  have := (h.2 1 2 rfl).2
  omega
theorem ladd : AddOk LM0 (lt 1 1 1 7 0 0 0 0 0 false) where
  wf := ⟨by show (1 : Int) ≤ 1 ∧ (1 : Int) ≤ 16; decide, rfl, rfl, by show (0 : Int) ≤ 0 ∧ (0 : Int) ≤ 255; decide⟩
  last := by decide
  home := fun _ => by decide
  made := fun _ => by decide
  wrap := fun h => absurd h (by decide)
  gate := fun h => absurd h (by decide)
  purse := fun h => absurd h (by decide)
  facet := fun h => absurd h (by decide)
theorem lable1 : AbleIs LM1 63 1 3 := AbleIs.mk_base (t := lt 1 1 1 7 0 0 0 0 0 false) rfl (by decide) (by decide)
theorem lable2 : AbleIs LM2 63 1 3 := AbleIs.mk_base (t := lt 1 1 1 7 0 0 0 0 0 false) rfl (by decide) (by decide)
theorem lable3 : AbleIs LM3 63 2 1 := AbleIs.mk_facet (t := ft 1 1) rfl rfl (AbleIs.mk_base (t := lt 1 1 1 7 0 0 0 0 0 false) rfl (by decide) (by decide))
theorem lway : WayIs LM3 2 [2, 1] := WayIs.mk_wrap (t := ft 1 1) rfl rfl (WayIs.mk_base (t := lt 1 1 1 7 0 0 0 0 0 false) rfl rfl)
theorem lfree0 : freeL LM3 0 [2, 1] = false := by decide
theorem lfree3 : freeL LM3 3 [2, 1] = true := by decide
theorem lfind1 : LM1.find 1 1 = none := by decide
theorem lfind2 : LM2.find 1 1 = some 2 := by decide
theorem lall : ∀ x ∈ ([2, 1] : List Int), ∃ t, LM3.at x = some t ∧ t.kind ≠ 15 := by
  intro x hx
  simp only [List.mem_cons, List.not_mem_nil, or_false] at hx
  rcases hx with rfl | rfl
  · exact ⟨ft 1 1, rfl, by decide⟩
  · exact ⟨lt 1 1 1 7 0 0 0 0 0 false, rfl, by decide⟩

/-- A world of the call's own: all of it lies above what was there. -/
def Own (w0 w : World) (p : Nat) (M : WM) : Prop := ∃ F, IsW w p M F ∧ (∀ b, F b → w0.heap.size ≤ b) ∧ Below w0.heap.size w0 w
theorem Own.below {w0 w w' : World} {p : Nat} {M : WM} (h : Own w0 w p M) (hb : Below w.heap.size w w') : Own w0 w' p M := by
  obtain ⟨F, h1, h2, h3⟩ := h
  exact ⟨F, h1.below hb, h2, h3.trans (hb.mono h3.size)⟩
theorem Own.turn {w0 w w' : World} {p : Nat} {M' : WM} {F F' : Nat → Prop} (h2 : ∀ b, F b → w0.heap.size ≤ b) (h3 : Below w0.heap.size w0 w) (hW : IsW w' p M' F') (hg : Grew F w F' w') : Own w0 w' p M' := by
  refine ⟨F', hW, fun b hb => ?_, h3.trans (Keeps.below hg.1 h3.size h2)⟩
  rcases hg.2 b hb with h | h
  · exact h2 b h
  · exact Nat.le_trans h3.size h


end Go.Proofs.YtmefjkggibbhoaaGreat
