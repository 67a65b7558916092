/- Make of a light thing, of any kind; the kinds one by one. -/
import Derived.Test.YtmefjkggibbhoaaGreatMakeG
import Derived.Test.YtmefjkggibbhoaaGreatFitsB
import Derived.Test.YtmefjkggibbhoaaGreatFormA
import Derived.Test.YtmefjkggibbhoaaGreatFormB
import Derived.Test.YtmefjkggibbhoaaGreatFormC
namespace Go.Proofs.YtmefjkggibbhoaaGreat
open Go.RowKit Go.ChangeMaps Go.MapKept
variable {w : World} {p : Nat} {M : WM} {F : Nat → Prop}

theorem MakeIn.light (hW : IsW w p M F) {k h vk vn n l tg bi s : Int} {fu : Bool} (hp : Plain vk vn)
    (hform : ∀ w, IsW w p M F → Calls Tryz.prog 61 #[.pointer (some ⟨p, 0, none⟩), .agg #[.int .u8 k, .int .i64 h, .int .u8 vk, .int .i64 vn, .string ⟨#[]⟩, .slice none 0 0, .int .i64 0, .slice none 0 0, .int .i64 n, .int .i64 l, .int .i64 tg, .int .i64 bi, .int .u8 s, .bool fu, .slice none 0 0, .slice none 0 0]] w fun e w' => e = .returned (.bool true) ∧ Below w.heap.size w w')
    (hfits : ∀ w, IsW w p M F → Calls Tryz.prog 65 #[.pointer (some ⟨p, 0, none⟩), .int .i64 0, .agg #[.int .u8 k, .int .i64 h, .int .u8 vk, .int .i64 vn, .string ⟨#[]⟩, .slice none 0 0, .int .i64 0, .slice none 0 0, .int .i64 n, .int .i64 l, .int .i64 tg, .int .i64 bi, .int .u8 s, .bool fu, .slice none 0 0, .slice none 0 0]] w fun e w' => e = .returned (.bool true) ∧ Below w.heap.size w w')
    (k14 : (k == 14) = false) (k13 : k = 13 → tg = 0) (tgw : (Lit.int .i64 tg).wf = true) (biw : (Lit.int .i64 bi).wf = true) (home : 0 ≤ h ∧ h < M.made.length)
    (hA : asksOfB k = true → (M.at tg).isSome = true) (hB : asksByB k = true → (M.at bi).isSome = true) (add : M.made.getD h.toNat 0 < 512 → AddOk M (lt k h vk vn n l tg bi s fu)) :
    MakeIn w p M F k h n l tg bi s fu (.int .u8 vk) (.int .i64 vn) (.string ⟨#[]⟩) (.slice none 0 0) (.int .i64 0) (.slice none 0 0) (.slice none 0 0) (.slice none 0 0) (fun t => t = lt k h vk vn n l tg bi s fu) where
  form w1 hb := hform w1 (hW.below hb)
  names w1 hb := names_W w1 _ k h vk vn n l tg bi s fu hp
  fits w1 hb := hfits w1 (hW.below hb)
  own w1 hb := (ownWhat_W w1 k h vk vn n l tg bi s fu hp).mono fun e w' h => ⟨_, rfl, h.1, h.2, deep_lt _ _ _ _ _ _ _ _ _ _ _ _⟩
  k14 := k14
  k13 := k13
  tgw := tgw
  biw := biw
  home := home
  hA := hA
  hB := hB
  add hr t ht := by subst ht; exact ⟨rfl, rfl, rfl, add hr⟩

/-- What Make leaves of a light thing. -/
def MadeL (w : World) (p : Nat) (M : WM) (F : Nat → Prop) (h : Int) (t : Th) (e : Ending) (w' : World) : Prop :=
  (M.made.getD h.toNat 0 < 512 ∧ e = .returned (.tuple #[.int .i64 (M.last + 1), .int .i64 0]) ∧ ∃ F', IsW w' p (makeM M t) F' ∧ Grew F w F' w') ∨
  (¬ M.made.getD h.toNat 0 < 512 ∧ e = .returned (.tuple #[.int .i64 0, .int .i64 8]) ∧ Below w.heap.size w w')

theorem MadeG.light {h : Int} {t : Th} {e : Ending} {w' : World} (hm : MadeG w p M F h (fun u => u = t) e w') : MadeL w p M F h t e w' := by
  rcases hm with ⟨h1, h2, u, F', rfl, h4, h5⟩ | h
  · exact .inl ⟨h1, h2, F', h4, h5⟩
  · exact .inr h

theorem plain0 : Plain 0 0 := .inl ⟨rfl, rfl⟩

section
variable (hW : IsW w p M F) (hl : M.last + 1 ≤ 1099511627776) {h : Int} (home : 0 ≤ h ∧ h < M.made.length)
include hW hl home

theorem Make_1 {vk vn : Int} (hp : Plain vk vn) : Calls Tryz.prog 31 #[.pointer (some ⟨p, 0, none⟩), .agg #[.int .u8 1, .int .i64 h, .int .u8 vk, .int .i64 vn, .string ⟨#[]⟩, .slice none 0 0, .int .i64 0, .slice none 0 0, .int .i64 0, .int .i64 0, .int .i64 0, .int .i64 0, .int .u8 0, .bool false, .slice none 0 0, .slice none 0 0]] w (MadeL w p M F h (lt 1 h vk vn 0 0 0 0 0 false)) :=
  (Make_G hW (MakeIn.light hW hp (fun w hW => form_1 hW h vk vn (sideB_iff.2 home) hp) (fun w _ => fits_1 w _ 0 h vk vn 0 0 0 0 0 false) rfl (fun e => absurd e (by decide)) rfl rfl home (fun e => absurd e (by decide)) (fun e => absurd e (by decide)) fun hr => {
    wf := ⟨by show (1 : Int) ≤ 1 ∧ (1 : Int) ≤ 16; decide, rfl, rfl, by show (0 : Int) ≤ 0 ∧ (0 : Int) ≤ 255; decide⟩
    last := hl
    home := fun _ => home
    made := fun _ => hr
    wrap := fun e => absurd (show wrapsB 1 = true from e) (by decide)
    gate := fun e => absurd (show (1 : Int) = 15 from e) (by decide)
    purse := fun e => absurd (show (1 : Int) = 9 from e) (by decide)
    facet := fun e => absurd (show (1 : Int) = 14 from e) (by decide) })).mono fun _ _ h => h.light

theorem Make_2 : Calls Tryz.prog 31 #[.pointer (some ⟨p, 0, none⟩), .agg #[.int .u8 2, .int .i64 h, .int .u8 0, .int .i64 0, .string ⟨#[]⟩, .slice none 0 0, .int .i64 0, .slice none 0 0, .int .i64 0, .int .i64 0, .int .i64 0, .int .i64 0, .int .u8 0, .bool false, .slice none 0 0, .slice none 0 0]] w (MadeL w p M F h (lt 2 h 0 0 0 0 0 0 0 false)) :=
  (Make_G hW (MakeIn.light hW plain0 (fun w hW => form_2 hW h (sideB_iff.2 home)) (fun w _ => fits_2 w _ 0 h 0 0 0 0 0 0 0 false) rfl (fun e => absurd e (by decide)) rfl rfl home (fun e => absurd e (by decide)) (fun e => absurd e (by decide)) fun hr => {
    wf := ⟨by show (1 : Int) ≤ 2 ∧ (2 : Int) ≤ 16; decide, rfl, rfl, by show (0 : Int) ≤ 0 ∧ (0 : Int) ≤ 255; decide⟩
    last := hl
    home := fun _ => home
    made := fun _ => hr
    wrap := fun e => absurd (show wrapsB 2 = true from e) (by decide)
    gate := fun e => absurd (show (2 : Int) = 15 from e) (by decide)
    purse := fun e => absurd (show (2 : Int) = 9 from e) (by decide)
    facet := fun e => absurd (show (2 : Int) = 14 from e) (by decide) })).mono fun _ _ h => h.light

theorem Make_4 : Calls Tryz.prog 31 #[.pointer (some ⟨p, 0, none⟩), .agg #[.int .u8 4, .int .i64 h, .int .u8 0, .int .i64 0, .string ⟨#[]⟩, .slice none 0 0, .int .i64 0, .slice none 0 0, .int .i64 0, .int .i64 0, .int .i64 0, .int .i64 0, .int .u8 0, .bool false, .slice none 0 0, .slice none 0 0]] w (MadeL w p M F h (lt 4 h 0 0 0 0 0 0 0 false)) :=
  (Make_G hW (MakeIn.light hW plain0 (fun w hW => form_4 hW h (sideB_iff.2 home)) (fun w _ => fits_4 w _ 0 h 0 0 0 0 0 0 0 false) rfl (fun e => absurd e (by decide)) rfl rfl home (fun e => absurd e (by decide)) (fun e => absurd e (by decide)) fun hr => {
    wf := ⟨by show (1 : Int) ≤ 4 ∧ (4 : Int) ≤ 16; decide, rfl, rfl, by show (0 : Int) ≤ 0 ∧ (0 : Int) ≤ 255; decide⟩
    last := hl
    home := fun _ => home
    made := fun _ => hr
    wrap := fun e => absurd (show wrapsB 4 = true from e) (by decide)
    gate := fun e => absurd (show (4 : Int) = 15 from e) (by decide)
    purse := fun e => absurd (show (4 : Int) = 9 from e) (by decide)
    facet := fun e => absurd (show (4 : Int) = 14 from e) (by decide) })).mono fun _ _ h => h.light

theorem Make_5 : Calls Tryz.prog 31 #[.pointer (some ⟨p, 0, none⟩), .agg #[.int .u8 5, .int .i64 h, .int .u8 0, .int .i64 0, .string ⟨#[]⟩, .slice none 0 0, .int .i64 0, .slice none 0 0, .int .i64 0, .int .i64 0, .int .i64 0, .int .i64 0, .int .u8 0, .bool false, .slice none 0 0, .slice none 0 0]] w (MadeL w p M F h (lt 5 h 0 0 0 0 0 0 0 false)) :=
  (Make_G hW (MakeIn.light hW plain0 (fun w hW => form_5 hW h (sideB_iff.2 home)) (fun w _ => fits_5 w _ 0 h 0 0 0 0 0 0 0 false) rfl (fun e => absurd e (by decide)) rfl rfl home (fun e => absurd e (by decide)) (fun e => absurd e (by decide)) fun hr => {
    wf := ⟨by show (1 : Int) ≤ 5 ∧ (5 : Int) ≤ 16; decide, rfl, rfl, by show (0 : Int) ≤ 0 ∧ (0 : Int) ≤ 255; decide⟩
    last := hl
    home := fun _ => home
    made := fun _ => hr
    wrap := fun e => absurd (show wrapsB 5 = true from e) (by decide)
    gate := fun e => absurd (show (5 : Int) = 15 from e) (by decide)
    purse := fun e => absurd (show (5 : Int) = 9 from e) (by decide)
    facet := fun e => absurd (show (5 : Int) = 14 from e) (by decide) })).mono fun _ _ h => h.light

theorem Make_12 : Calls Tryz.prog 31 #[.pointer (some ⟨p, 0, none⟩), .agg #[.int .u8 12, .int .i64 h, .int .u8 0, .int .i64 0, .string ⟨#[]⟩, .slice none 0 0, .int .i64 0, .slice none 0 0, .int .i64 0, .int .i64 0, .int .i64 0, .int .i64 0, .int .u8 0, .bool false, .slice none 0 0, .slice none 0 0]] w (MadeL w p M F h (lt 12 h 0 0 0 0 0 0 0 false)) :=
  (Make_G hW (MakeIn.light hW plain0 (fun w hW => form_12 hW h (sideB_iff.2 home)) (fun w _ => fits_12 w _ 0 h 0 0 0 0 0 0 0 false) rfl (fun e => absurd e (by decide)) rfl rfl home (fun e => absurd e (by decide)) (fun e => absurd e (by decide)) fun hr => {
    wf := ⟨by show (1 : Int) ≤ 12 ∧ (12 : Int) ≤ 16; decide, rfl, rfl, by show (0 : Int) ≤ 0 ∧ (0 : Int) ≤ 255; decide⟩
    last := hl
    home := fun _ => home
    made := fun _ => hr
    wrap := fun e => absurd (show wrapsB 12 = true from e) (by decide)
    gate := fun e => absurd (show (12 : Int) = 15 from e) (by decide)
    purse := fun e => absurd (show (12 : Int) = 9 from e) (by decide)
    facet := fun e => absurd (show (12 : Int) = 14 from e) (by decide) })).mono fun _ _ h => h.light

theorem Make_3 {n : Int} (hn : 0 ≤ n ∧ n ≤ 9007199254740992) : Calls Tryz.prog 31 #[.pointer (some ⟨p, 0, none⟩), .agg #[.int .u8 3, .int .i64 h, .int .u8 0, .int .i64 0, .string ⟨#[]⟩, .slice none 0 0, .int .i64 0, .slice none 0 0, .int .i64 n, .int .i64 0, .int .i64 0, .int .i64 0, .int .u8 0, .bool false, .slice none 0 0, .slice none 0 0]] w (MadeL w p M F h (lt 3 h 0 0 n 0 0 0 0 false)) :=
  (Make_G hW (MakeIn.light hW plain0 (fun w hW => form_3 hW h n (sideB_iff.2 home) hn) (fun w _ => fits_3 w _ 0 h 0 0 n 0 0 0 0 false) rfl (fun e => absurd e (by decide)) rfl rfl home (fun e => absurd e (by decide)) (fun e => absurd e (by decide)) fun hr => {
    wf := ⟨by show (1 : Int) ≤ 3 ∧ (3 : Int) ≤ 16; decide, rfl, rfl, by show (0 : Int) ≤ 0 ∧ (0 : Int) ≤ 255; decide⟩
    last := hl
    home := fun _ => home
    made := fun _ => hr
    wrap := fun e => absurd (show wrapsB 3 = true from e) (by decide)
    gate := fun e => absurd (show (3 : Int) = 15 from e) (by decide)
    purse := fun e => absurd (show (3 : Int) = 9 from e) (by decide)
    facet := fun e => absurd (show (3 : Int) = 14 from e) (by decide) })).mono fun _ _ h => h.light

theorem Make_8 {n l : Int} (hn : 0 ≤ n ∧ n ≤ 9007199254740992) (hl2 : 0 ≤ l ∧ l ≤ n) : Calls Tryz.prog 31 #[.pointer (some ⟨p, 0, none⟩), .agg #[.int .u8 8, .int .i64 h, .int .u8 0, .int .i64 0, .string ⟨#[]⟩, .slice none 0 0, .int .i64 0, .slice none 0 0, .int .i64 n, .int .i64 l, .int .i64 0, .int .i64 0, .int .u8 0, .bool false, .slice none 0 0, .slice none 0 0]] w (MadeL w p M F h (lt 8 h 0 0 n l 0 0 0 false)) :=
  (Make_G hW (MakeIn.light hW plain0 (fun w hW => form_8 hW h n l (sideB_iff.2 home) hn hl2) (fun w _ => fits_8 w _ 0 h 0 0 n l 0 0 0 false) rfl (fun e => absurd e (by decide)) rfl rfl home (fun e => absurd e (by decide)) (fun e => absurd e (by decide)) fun hr => {
    wf := ⟨by show (1 : Int) ≤ 8 ∧ (8 : Int) ≤ 16; decide, rfl, rfl, by show (0 : Int) ≤ 0 ∧ (0 : Int) ≤ 255; decide⟩
    last := hl
    home := fun _ => home
    made := fun _ => hr
    wrap := fun e => absurd (show wrapsB 8 = true from e) (by decide)
    gate := fun e => absurd (show (8 : Int) = 15 from e) (by decide)
    purse := fun e => absurd (show (8 : Int) = 9 from e) (by decide)
    facet := fun e => absurd (show (8 : Int) = 14 from e) (by decide) })).mono fun _ _ h => h.light

theorem Make_10 : Calls Tryz.prog 31 #[.pointer (some ⟨p, 0, none⟩), .agg #[.int .u8 10, .int .i64 h, .int .u8 0, .int .i64 0, .string ⟨#[]⟩, .slice none 0 0, .int .i64 0, .slice none 0 0, .int .i64 0, .int .i64 0, .int .i64 0, .int .i64 0, .int .u8 0, .bool false, .slice none 0 0, .slice none 0 0]] w (MadeL w p M F h (lt 10 h 0 0 0 0 0 0 0 false)) :=
  (Make_G hW (MakeIn.light hW plain0 (fun w hW => form_10a hW h (sideB_iff.2 home)) (fun w _ => fits_10 w _ 0 h 0 0 0 0 0 0 0 false) rfl (fun e => absurd e (by decide)) rfl rfl home (fun e => absurd e (by decide)) (fun e => absurd e (by decide)) fun hr => {
    wf := ⟨by show (1 : Int) ≤ 10 ∧ (10 : Int) ≤ 16; decide, rfl, rfl, by show (0 : Int) ≤ 0 ∧ (0 : Int) ≤ 255; decide⟩
    last := hl
    home := fun _ => home
    made := fun _ => hr
    wrap := fun e => absurd (show wrapsB 10 = true from e) (by decide)
    gate := fun e => absurd (show (10 : Int) = 15 from e) (by decide)
    purse := fun e => absurd (show (10 : Int) = 9 from e) (by decide)
    facet := fun e => absurd (show (10 : Int) = 14 from e) (by decide) })).mono fun _ _ h => h.light

theorem Make_13 {fu : Bool} : Calls Tryz.prog 31 #[.pointer (some ⟨p, 0, none⟩), .agg #[.int .u8 13, .int .i64 h, .int .u8 0, .int .i64 0, .string ⟨#[]⟩, .slice none 0 0, .int .i64 0, .slice none 0 0, .int .i64 0, .int .i64 0, .int .i64 0, .int .i64 0, .int .u8 0, .bool fu, .slice none 0 0, .slice none 0 0]] w (MadeL w p M F h (lt 13 h 0 0 0 0 0 0 0 fu)) :=
  (Make_G hW (MakeIn.light hW plain0 (fun w hW => form_13 hW h 0 fu (sideB_iff.2 home)) (fun w _ => fits_13 w _ 0 h fu) rfl (fun _ => rfl) rfl rfl home (fun e => absurd e (by decide)) (fun e => absurd e (by decide)) fun hr => {
    wf := ⟨by show (1 : Int) ≤ 13 ∧ (13 : Int) ≤ 16; decide, rfl, rfl, by show (0 : Int) ≤ 0 ∧ (0 : Int) ≤ 255; decide⟩
    last := hl
    home := fun _ => home
    made := fun _ => hr
    wrap := fun e => absurd (show wrapsB 13 = true from e) (by decide)
    gate := fun e => absurd (show (13 : Int) = 15 from e) (by decide)
    purse := fun e => absurd (show (13 : Int) = 9 from e) (by decide)
    facet := fun e => absurd (show (13 : Int) = 14 from e) (by decide) })).mono fun _ _ h => h.light

theorem Make_9 {n tg : Int} {u : Th} (hn : 0 ≤ n ∧ n ≤ 9007199254740992) (tgw : (Lit.int .i64 tg).wf = true) (hu : M.at tg = some u) (hu8 : u.kind = 8) (huh : u.home = h) : Calls Tryz.prog 31 #[.pointer (some ⟨p, 0, none⟩), .agg #[.int .u8 9, .int .i64 h, .int .u8 0, .int .i64 0, .string ⟨#[]⟩, .slice none 0 0, .int .i64 0, .slice none 0 0, .int .i64 n, .int .i64 0, .int .i64 tg, .int .i64 0, .int .u8 0, .bool false, .slice none 0 0, .slice none 0 0]] w (MadeL w p M F h (lt 9 h 0 0 n 0 tg 0 0 false)) :=
  (Make_G hW (MakeIn.light hW plain0 (fun w hW => form_9 hW h n tg (sideB_iff.2 home) hn) (fun w hW => fits_9 hW tgw hu hu8 huh) rfl (fun e => absurd e (by decide)) tgw rfl home (fun _ => by rw [hu]; rfl) (fun e => absurd e (by decide)) fun hr => {
    wf := ⟨by show (1 : Int) ≤ 9 ∧ (9 : Int) ≤ 16; decide, tgw, rfl, by show (0 : Int) ≤ 0 ∧ (0 : Int) ≤ 255; decide⟩
    last := hl
    home := fun _ => home
    made := fun _ => hr
    wrap := fun e => absurd (show wrapsB 9 = true from e) (by decide)
    gate := fun e => absurd (show (9 : Int) = 15 from e) (by decide)
    purse := fun _ => ⟨u, hu, hu8⟩
    facet := fun e => absurd (show (9 : Int) = 14 from e) (by decide) })).mono fun _ _ h => h.light

theorem Make_16 {tg bi : Int} {u v : Th} (tgw : (Lit.int .i64 tg).wf = true) (biw : (Lit.int .i64 bi).wf = true) (hu : M.at bi = some u) (hu3 : u.kind = 3) (huh : u.home = h) (hv : M.at tg = some v) : Calls Tryz.prog 31 #[.pointer (some ⟨p, 0, none⟩), .agg #[.int .u8 16, .int .i64 h, .int .u8 0, .int .i64 0, .string ⟨#[]⟩, .slice none 0 0, .int .i64 0, .slice none 0 0, .int .i64 0, .int .i64 0, .int .i64 tg, .int .i64 bi, .int .u8 0, .bool false, .slice none 0 0, .slice none 0 0]] w (MadeL w p M F h (lt 16 h 0 0 0 0 tg bi 0 false)) :=
  (Make_G hW (MakeIn.light hW plain0 (fun w hW => form_16 hW h tg bi (sideB_iff.2 home)) (fun w hW => fits_16 hW tgw biw hu hu3 huh hv) rfl (fun e => absurd e (by decide)) tgw biw home (fun _ => by rw [hv]; rfl) (fun _ => by rw [hu]; rfl) fun hr => {
    wf := ⟨by show (1 : Int) ≤ 16 ∧ (16 : Int) ≤ 16; decide, tgw, biw, by show (0 : Int) ≤ 0 ∧ (0 : Int) ≤ 255; decide⟩
    last := hl
    home := fun _ => home
    made := fun _ => hr
    wrap := fun _ => ⟨v, hv⟩
    gate := fun e => absurd (show (16 : Int) = 15 from e) (by decide)
    purse := fun e => absurd (show (16 : Int) = 9 from e) (by decide)
    facet := fun e => absurd (show (16 : Int) = 14 from e) (by decide) })).mono fun _ _ h => h.light

theorem Make_15 {tg bi : Int} {u v : Th} (tgw : (Lit.int .i64 tg).wf = true) (biw : (Lit.int .i64 bi).wf = true) (hu : M.at bi = some u) (hu13 : u.kind = 13) (huh : u.home = h) (hu0 : u.tgt = 0) (hv : M.at tg = some v) : Calls Tryz.prog 31 #[.pointer (some ⟨p, 0, none⟩), .agg #[.int .u8 15, .int .i64 h, .int .u8 0, .int .i64 0, .string ⟨#[]⟩, .slice none 0 0, .int .i64 0, .slice none 0 0, .int .i64 0, .int .i64 0, .int .i64 tg, .int .i64 bi, .int .u8 0, .bool false, .slice none 0 0, .slice none 0 0]] w (MadeL w p M F h (lt 15 h 0 0 0 0 tg bi 0 false)) :=
  (Make_G hW (MakeIn.light hW plain0 (fun w hW => form_15 hW h tg bi (sideB_iff.2 home)) (fun w hW => fits_15 hW tgw biw hu hu13 huh hu0 hv) rfl (fun e => absurd e (by decide)) tgw biw home (fun _ => by rw [hv]; rfl) (fun _ => by rw [hu]; rfl) fun hr => {
    wf := ⟨by show (1 : Int) ≤ 15 ∧ (15 : Int) ≤ 16; decide, tgw, biw, by show (0 : Int) ≤ 0 ∧ (0 : Int) ≤ 255; decide⟩
    last := hl
    home := fun _ => home
    made := fun _ => hr
    wrap := fun _ => ⟨v, hv⟩
    gate := fun _ => ⟨u, hu, hu13⟩
    purse := fun e => absurd (show (15 : Int) = 9 from e) (by decide)
    facet := fun e => absurd (show (15 : Int) = 14 from e) (by decide) })).mono fun _ _ h => h.light

end
end Go.Proofs.YtmefjkggibbhoaaGreat
