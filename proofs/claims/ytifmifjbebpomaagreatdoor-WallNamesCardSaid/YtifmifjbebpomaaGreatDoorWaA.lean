/- Ways between sides, as plain data. -/
import Derived.Test.YtifmifjbebpomaaGreatDoorWalkD
namespace Go.Proofs.YtifmifjbebpomaaGreatDoor
open Go.RowKit Go.ChangeMaps Go.MapKept

/-- The edges that one goes up from x (u), and from y (d), until they meet. -/
inductive PathIs (M : WM) : Nat → Nat → List Int → List Int → Prop
  | eq (x : Nat) : PathIs M x x [] []
  | up {x y q : Nat} {u d : List Int} (h : y < x) (hq : M.par (x - 1) = (q : Int)) (hp : PathIs M q y u d) : PathIs M x y ((x : Int) :: u) d
  | down {x y q : Nat} {u d : List Int} (h : x < y) (hq : M.par (y - 1) = (q : Int)) (hp : PathIs M x q u d) : PathIs M x y u ((y : Int) :: d)

theorem WM.ok.par_nat {M : WM} (h : M.ok) {x : Nat} (h0 : 0 < x) (hx : x < M.made.length) : ∃ q : Nat, M.par (x - 1) = (q : Int) ∧ q < x := by
  have h1 := h.made
  have := h.par_le (n := x - 1) (by omega)
  exact ⟨(M.par (x - 1)).toNat, by omega, by omega⟩
theorem path_ex {M : WM} (hok : M.ok) : ∀ (n x y : Nat), x + y ≤ n → x < M.made.length → y < M.made.length → ∃ u d, PathIs M x y u d ∧ u.length ≤ x ∧ d.length ≤ y := by
  intro n
  induction n with
  | zero =>
    intro x y h _ _
    obtain ⟨rfl, rfl⟩ : x = 0 ∧ y = 0 := by omega
    exact ⟨[], [], .eq 0, by simp, by simp⟩
  | succ n ih =>
    intro x y h hx hy
    rcases Nat.lt_trichotomy x y with hl | rfl | hl
    · obtain ⟨q, h1, h2⟩ := hok.par_nat (by omega) hy
      obtain ⟨u, d, h3, h4, h5⟩ := ih x q (by omega) hx (by omega)
      exact ⟨_, _, .down hl h1 h3, h4, by simp only [List.length_cons]; omega⟩
    · exact ⟨[], [], .eq x, by simp, by simp⟩
    · obtain ⟨q, h1, h2⟩ := hok.par_nat (by omega) hx
      obtain ⟨u, d, h3, h4, h5⟩ := ih q y (by omega) (by omega) hy
      exact ⟨_, _, .up hl h1 h3, by simp only [List.length_cons]; omega, h5⟩
theorem PathIs.len {M : WM} (hok : M.ok) {x y : Nat} {u d : List Int} (h : PathIs M x y u d) (hx : x < M.made.length) (hy : y < M.made.length) : u.length ≤ x ∧ d.length ≤ y := by
  induction h with
  | eq => simp
  | up h hq hp ih =>
    obtain ⟨q', h1, h2⟩ := hok.par_nat (by omega) hx
    have := ih (by omega) hy
    simp only [List.length_cons]
    omega
  | down h hq hp ih =>
    obtain ⟨q', h1, h2⟩ := hok.par_nat (by omega) hy
    have := ih hx (by omega)
    simp only [List.length_cons]
    omega
theorem PathIs.inv_eq {M : WM} {x : Nat} {u d : List Int} (h : PathIs M x x u d) : u = [] ∧ d = [] := by
  generalize hy : x = y at h
  rw [← hy] at h
  cases h with
  | eq => exact ⟨rfl, rfl⟩
  | up h => omega
  | down h => omega
theorem PathIs.inv_up {M : WM} {x y : Nat} {u d : List Int} (h : PathIs M x y u d) (hl : y < x) : ∃ q u', u = (x : Int) :: u' ∧ M.par (x - 1) = ((q : Nat) : Int) ∧ PathIs M q y u' d := by
  cases h with
  | eq => omega
  | up h hq hp => exact ⟨_, _, rfl, hq, hp⟩
  | down h => omega
theorem PathIs.inv_down {M : WM} {x y : Nat} {u d : List Int} (h : PathIs M x y u d) (hl : x < y) : ∃ q d', d = (y : Int) :: d' ∧ M.par (y - 1) = ((q : Nat) : Int) ∧ PathIs M x q u d' := by
  cases h with
  | eq => omega
  | up h => omega
  | down h hq hp => exact ⟨_, _, rfl, hq, hp⟩
/-- The parents, as wall.parents tells them. -/
def WM.parC (M : WM) (s : Nat) : Int := if s = 0 then -1 else if s < M.made.length then M.par (s - 1) else 0
def WM.parsA (M : WM) (k : Nat) : List Int := (List.range 16).map fun s => if s = 0 then -1 else if s < k then M.par (s - 1) else 0

/-- A hop. -/
structure Hop where
  edge : Int
  thing : Int
  free : Bool
def Hop.cs (h : Hop) : List Value := [.int .i64 h.edge, .int .i64 h.thing, .bool h.free]
/-- Is a thing's own hop open? -/
def WM.gateB (M : WM) (t : Th) : Bool := if t.kind = 15 then !((M.at t.bi).elim false (·.full)) else true
def edgeH (M : WM) (n : Int) : Hop := ⟨n, 0, !(edgeB M n && M.cutAt n.toNat)⟩
/-- The hops from a side over the things of a way. -/
inductive HopsIs (M : WM) : Int → List Int → List Hop → Prop
  | nil (a : Int) : HopsIs M a [] []
  | facet {a r : Int} {l : List Int} {ys : List Hop} {t : Th} (h : M.at r = some t) (hk : t.kind = 14) (hl : HopsIs M a l ys) : HopsIs M a (r :: l) (⟨0, r, true⟩ :: ys)
  | thing {a r : Int} {l : List Int} {ys : List Hop} {t : Th} {u d : List Int} (h : M.at r = some t) (hk : t.kind ≠ 14) (hp : PathIs M a.toNat t.home.toNat u d) (hl : HopsIs M t.home l ys) :
      HopsIs M a (r :: l) ((u ++ d.reverse).map (edgeH M) ++ ⟨0, r, M.gateB t⟩ :: ys)
end Go.Proofs.YtifmifjbebpomaaGreatDoor
