/- A part of the proof, several texts in one: KpW, Open, OpenV. -/
import Derived.Test.YtcoiccbmcjdheaaGreatmBO
import Derived.Test.YtcoiccbmcjdheaaGreatmBG
import Derived.Test.YtcoiccbmcjdheaaGreatmAJ
import Derived.Deep.DeepCutAuto
import Derived.Deep.CutBlock
import Derived.Test.YtcoiccbmcjdheaaGreatmAF
import Derived.WalkKit
import Derived.ProofKit
import Derived.OpenShut
import Derived.ChangeSame
import Derived.ChangeSlices
import Derived.Carry
import Derived.RowKit
import Derived.Test.YtcoiccbmcjdheaaGreatmAC
/- PlainKeeps: the walk. -/
namespace Go.Proofs.YtcoiccbmcjdheaaGreat
open Go.RowKit Go.ChangeMaps Go.MapKept

theorem ofE_iffK {l : List Val} (h : ∀ x ∈ l, mayV x = true) : ofE l = 0 ↔ mayV (listV l) = true := by
  unfold ofE
  rw [List.all_eq_true.2 h, if_pos rfl]
  cases mayV (listV l) <;> simp
theorem slice_frontK {ps : Option Addr} {n cs k : Nat} (h : k + 1 ≤ cs) (w : World) : (Instr.sliceAt 22 (.slice ps n cs) none (some (.int .i64 ((k : Int) + 1))) none).run Tryz.prog w = .ok (.slice ps (k + 1) cs) w := by
  have e : (k : Int) + 1 = ((k + 1 : Nat) : Int) := by omega
  rw [e]
  exact slice_front w ps n cs (k + 1) h
theorem ld_onK {w w' : World} {b o : Nat} {x : Val} {raw : Value} (h : w.rangeAt b o (vcs x raw).toList) (hb : Below w.heap.size w w') (hlt : b < w.heap.size) : (ldV (.pointer (some ⟨b, o, none⟩))).run Tryz.prog w' = .ok (.value (.agg (vcs x raw))) w' := by
  have := loadV_mid (show w'.rangeAt b o (vcs x raw).toList from fun j v hv => (hb.cell (p := ⟨b, o + j, none⟩) hlt).trans (h j v hv)) (by simp [vcs])
  rwa [Array.toArray_toList] at this
set_option maxRecDepth 8000 in
theorem measK {k n : Nat} (h : k < n) : n - (intOf (.int .i64 ((k : Int) + 1))).toNat < n - (intOf (.int .i64 (k : Int))).toNat := by
  simp [intOf]
  omega
/-- A box that holds a value, its lists in blocks of B. -/
structure Bx (B : Nat → Prop) (b : Nat) (x : Val) (raw : Value) (w : World) : Prop where
  hb : w.heap[b]? = some (.cells (vcs x raw) 34 (0, 0))
  inB : B b
  lies : ∃ FS : Nat → Prop, SlAt w FS raw x.l ∧ ∀ y, FS y → B y
theorem Bx.step {B B' : Nat → Prop} {b : Nat} {x : Val} {raw : Value} {w w' : World} (h : Bx B b x raw w) (hS : Same B w w') (hB : ∀ y, B y → B' y) : Bx B' b x raw w' := by
  obtain ⟨FS, h1, h2⟩ := h.lies
  exact ⟨(hS b h.inB).trans h.hb, hB b h.inB, FS, h1.same hS h2, fun y hy => hB y (h2 y hy)⟩
theorem Bx.make {B' FS : Nat → Prop} {x : Val} {raw : Value} {w : World} (h : SlAt w FS raw x.l) (hB : ∀ y, FS y → B' y) (hn : B' w.heap.size) : Bx B' w.heap.size x raw (w.alloc (.cells (vcs x raw) 34)) :=
  ⟨blk_new _ _, hn, FS, h.on ((Below.refl _ _).alloc (Nat.le_refl _) _), hB⟩
theorem Bx.got {B FS : Nat → Prop} {b : Nat} {x : Val} {raw : Value} {w w' : World} (h : Bx B b x raw w) (hS : Same B w w') : Bx (fun y => B y ∨ FS y) b x raw w' := h.step hS (fun _ h => .inl h)
theorem KAt.box {w wr : World} {p : Nat} {B FS : Nat → Prop} {c f x : Val} {vs : List Val} {fu : Bool} {raw : Value} (h : KAt w p B c vs fu f wr) (hs : SlAt wr FS raw x.l) (hB : ∀ y, FS y → B y) :
    ∃ B', KAt w p B' c vs fu f (wr.alloc (.cells (vcs x raw) 34)) ∧ Bx B' wr.heap.size x raw (wr.alloc (.cells (vcs x raw) 34)) ∧ ∀ b y r, Bx B b y r wr → Bx B' b y r (wr.alloc (.cells (vcs x raw) 34)) := by
  have hb : Below wr.heap.size wr (wr.alloc (.cells (vcs x raw) 34)) := (Below.refl _ _).alloc (Nat.le_refl _) _
  exact ⟨_, h.news hb, Bx.make hs (fun y hy => .inl (hB y hy)) (.inr ⟨Nat.le_refl _, by simp⟩), fun b y r hX => hX.step (h.same hb) (fun _ h => .inl h)⟩
theorem execOp_ldVk45 (ρ : Operand → Value) (ty : TypeId) (pos : String) (af : Array Edge) (g : Option (Nat × Bool)) :
    execOp ρ { dst := some 45, op := .load 34 (.tmp 44), type := ty, pos := pos, after := af, guard := g } = ldV (ρ (.tmp 44)) := rfl
theorem execOp_ldVk89 (ρ : Operand → Value) (ty : TypeId) (pos : String) (af : Array Edge) (g : Option (Nat × Bool)) :
    execOp ρ { dst := some 89, op := .load 34 (.tmp 88), type := ty, pos := pos, after := af, guard := g } = ldV (ρ (.tmp 88)) := rfl
theorem execOp_ldVk111 (ρ : Operand → Value) (ty : TypeId) (pos : String) (af : Array Edge) (g : Option (Nat × Bool)) :
    execOp ρ { dst := some 111, op := .load 34 (.tmp 110), type := ty, pos := pos, after := af, guard := g } = ldV (ρ (.tmp 110)) := rfl
theorem execOp_ldVk128 (ρ : Operand → Value) (ty : TypeId) (pos : String) (af : Array Edge) (g : Option (Nat × Bool)) :
    execOp ρ { dst := some 128, op := .load 34 (.tmp 127), type := ty, pos := pos, after := af, guard := g } = ldV (ρ (.tmp 127)) := rfl
abbrev NoBk : Nat → Prop := fun _ => False
/-- What is true ahead of round k. -/
def KpI (w : World) (p : Nat) (l : List Val) (x0 : Val) (k : Nat) (wr : World) : Prop := ∃ c fu f, KAt w p NoBk c (l.take k) fu f wr ∧ (0 < k → fu = true ∧ f = x0) ∧ (k = 0 → fu = false)
theorem execOp_ldKpR27171 (ρ : Operand → Value) (ty : TypeId) (pos : String) (af : Array Edge) (g : Option (Nat × Bool)) :
    execOp ρ { dst := some 171, op := .load 34 (.tmp 18), type := ty, pos := pos, after := af, guard := g } = ldV (ρ (.tmp 18)) := rfl
theorem execOp_ldKpR27175 (ρ : Operand → Value) (ty : TypeId) (pos : String) (af : Array Edge) (g : Option (Nat × Bool)) :
    execOp ρ { dst := some 175, op := .load 34 (.tmp 174), type := ty, pos := pos, after := af, guard := g } = ldV (ρ (.tmp 174)) := rfl
theorem execOp_ldKpR27180 (ρ : Operand → Value) (ty : TypeId) (pos : String) (af : Array Edge) (g : Option (Nat × Bool)) :
    execOp ρ { dst := some 180, op := .load 34 (.tmp 19), type := ty, pos := pos, after := af, guard := g } = ldV (ρ (.tmp 19)) := rfl
theorem execOp_ldKpR27181 (ρ : Operand → Value) (ty : TypeId) (pos : String) (af : Array Edge) (g : Option (Nat × Bool)) :
    execOp ρ { dst := some 181, op := .load 34 (.tmp 15), type := ty, pos := pos, after := af, guard := g } = ldV (ρ (.tmp 15)) := rfl
theorem execOp_ldKpR27186 (ρ : Operand → Value) (ty : TypeId) (pos : String) (af : Array Edge) (g : Option (Nat × Bool)) :
    execOp ρ { dst := some 186, op := .load 34 (.tmp 21), type := ty, pos := pos, after := af, guard := g } = ldV (ρ (.tmp 21)) := rfl
theorem execOp_ldKpR27189 (ρ : Operand → Value) (ty : TypeId) (pos : String) (af : Array Edge) (g : Option (Nat × Bool)) :
    execOp ρ { dst := some 189, op := .load 34 (.tmp 188), type := ty, pos := pos, after := af, guard := g } = ldV (ρ (.tmp 188)) := rfl
def KpR27 (k bl ol ln cl : Nat) (x lv f' : Val) (rc rl rg r7 rp r0 : Value) (j : Nat) (v : Value) (_ : World) : Prop :=
  match j with
  | 0 => v = .int .i64 0
  | 1 => v = .bool false
  | 2 => v = .bool false
  | 3 => v = .int .i64 0
  | 4 => v = .bool false
  | 5 => v = .bool false
  | 6 => v = .bool false
  | 7 => v = .int .i64 0
  | 8 => v = .bool false
  | 9 => v = .bool false
  | 10 => v = .bool false
  | 11 => v = .agg (vcs x rc)
  | 12 => v = .slice (some ⟨bl, ol, none⟩) ln cl
  | 13 => v = .int .i64 k
  | 14 => v = .pointer (some ⟨bl, ol + k * 5, none⟩)
  | 15 => v = .agg (vcs x rl)
  | 16 => v = .bool true
  | 17 => v = .bool false
  | 18 => v = .bool false
  | 19 => v = .bool false
  | 20 => v = .agg (vcs lv rg)
  | 21 => v = .agg (vcs lv r7)
  | 22 => v = .bool true
  | 23 => v = .bool false
  | 24 => v = .bool false
  | 25 => v = .bool false
  | 26 => v = .agg (vcs f' rp)
  | 27 => v = .slice (some ⟨bl, ol, none⟩) ln cl
  | 28 => v = .pointer (some ⟨bl, ol, none⟩)
  | 29 => v = .agg (vcs f' r0)
  | 30 => v = .bool true
  | 31 => v = .bool false
  | _ => True
attribute [local go_sem ↓] execOp_ldVk45 execOp_ldVk89 execOp_ldVk111 execOp_ldVk128 in
set_option maxHeartbeats 8000000 in
set_option maxRecDepth 20000 in
theorem keeps_walk (w : World) {F0 : Nat → Prop} (pa : Option Addr) (cl : Nat) (l : List Val) (hS : SlAt w F0 (.slice pa l.length cl) l) (hcap : l.length ≤ cl) :
    Calls Tryz.prog 5 #[.slice pa l.length cl] w fun e w' => e = .returned (.bool true) ∧ Below w.heap.size w w' := by
  have HS : Hid (SlAt w F0 (.slice pa l.length cl) l ∧ l.length ≤ cl) := ⟨hS, hcap⟩
  clear hS hcap
  go_enter Tryz.func5, Tryz.ntmps5
  go_wp2_with fail
  refine (fresh08_W w).mono ?_
  rintro e w1 ⟨p, rfl, hO⟩
  have HO : Hid (Own w w1 p AM0) := hO
  clear hO
  go_wp2_with fail
  refine (all08_W l _ (HS.out.1.on HO.out.below0)).mono ?_
  rintro e w2 ⟨B, rfl, hb2, hall⟩
  have HO2 : Hid (Own w w2 p AM0) := HO.out.below hb2
  clear HO hb2
  cases B with
  | false =>
    clear hall
    go_wp2_with fail
    refine (awake08_W _).mono ?_
    rintro e w4 ⟨rfl, hb4⟩
    have HB : Hid (Below w.heap.size w w4) := (HO2.out.below hb4).below0
    clear hb4 HO2
    go_wp2_with fail
    go_ret
    exact ⟨rfl, HB.out⟩
  | true =>
    have HL := (show Hid (AllOk l) from hall rfl)
    clear hall
    by_cases h0 : l.length = 0
    · have h0z : (l.length : Int) = 0 := by omega
      go_wp2_with fail
      refine (awake08_W _).mono ?_
      rintro e w4 ⟨rfl, hb4⟩
      have HB : Hid (Below w.heap.size w w4) := (HO2.out.below hb4).below0
      clear hb4 HO2
      go_wp2_with fail
      go_ret
      exact ⟨rfl, HB.out⟩
    · have hp0 : 0 < l.length := by omega
      have hp0z : (0 : Int) < (l.length : Int) := by omega
      have hne0 : ¬ (l.length : Int) = 0 := by omega
      obtain ⟨x0, hx0⟩ : ∃ x, l[0]? = some x := ⟨_, List.getElem?_eq_getElem hp0⟩
      obtain ⟨bl, ol, cl', raw0, hpl, hrl0, hlt0, -, hSl0⟩ := HS.out.1.range hx0
      cases hpl
      obtain ⟨pv0, cv0, hrw⟩ := hSl0.form
      subst hrw
      have hm0 := HL.out.1 x0 (List.mem_of_getElem? hx0)
      have HR0 : Hid ((∀ w', Below w.heap.size w w' → (ldV (.pointer (some ⟨bl, ol, none⟩))).run Tryz.prog w' = .ok (.value (.agg (vcs x0 (.slice pv0 x0.l.length cv0)))) w') ∧ (∃ FB, ∀ w', Below w.heap.size w w' → SlAt w' FB (.slice pv0 x0.l.length cv0) x0.l) ∧ mayV x0 = true ∧ refsV x0 = []) :=
        ⟨fun w' hb => by have := ld_onK hrl0 hb hlt0; simpa using this, ⟨_, fun w' hb => hSl0.on hb⟩, hm0.1, hm0.2⟩
      have Hx0 := (show Hid _ from hx0)
      clear hx0 hrl0 hlt0 hSl0 hm0 h0
      have hld := HR0.out.1 w2 HO2.out.below0
      simp only [vcs] at hld
      go_wp2_with fail
      obtain ⟨FB0, hF0⟩ := HR0.out.2.1
      refine (cell_K HO2.out (x := x0) (raw := .slice pv0 x0.l.length cv0) (hF0 w2 HO2.out.below0) HR0.out.2.2.1 HR0.out.2.2.2).mono ?_
      rintro e w3 ⟨rfl, a3, hO3⟩
      have HO3 := (show Hid (Own w w3 p (KM1 x0 a3)) from hO3)
      clear hO3 HO2 hld
      go_wp2_with fail
      refine (logn_K HO3.out).mono ?_
      rintro e w4 ⟨rfl, hO4⟩
      have HO4 := (show Hid (Own w w4 p (KM2 x0 a3)) from hO4)
      clear hO4 HO3
      go_wp2_with fail
      refine (prom_K HO4.out HR0.out.2.2.1).mono ?_
      rintro e w5 ⟨rfl, hK5⟩
      have HK5 : Hid (KAt w p NoBk x0 [] false nilV w5) := hK5
      clear hK5 HO4 hF0
      go_wp2_with fail
      refine (geto_K HK5.out).mono ?_
      rintro e w6 ⟨pv6, cv6, FS6, rfl, hK6, -, -⟩
      have HI : Hid (KpI w p l x0 0 (w6.alloc (.cells #[.int .u8 0, .int .i64 0, .string ⟨#[]⟩, .slice pv6 0 cv6, .int .i64 0] 34))) := ⟨x0, false, nilV, (hK6.below ((Below.refl _ _).alloc (Nat.le_refl _) _)).fewer (fun b hb => hb.elim), fun h => absurd h (by decide), fun _ => rfl⟩
      clear hK6 HK5
      simp only [vcs, List.length_nil]
      go_wp2_with fail
      revert HI
      generalize w6.alloc _ = w7
      intro HI
      clear hne0
      go_loopw [13] (fun vi wr => ∃ k : Nat, vi = .int .i64 k ∧ k ≤ l.length ∧ Hid (KpI w p l x0 k wr)) (fun vi _ => l.length - (intOf vi).toNat)
      case atStart => exact ⟨0, rfl, Nat.zero_le _, HI.out⟩
      case round =>
        clear HI
        obtain ⟨k, rfl, hk, HI⟩ := hrel
        by_cases hkl : k < l.length
        · have hkz : (k : Int) < (l.length : Int) := by omega
          have hl100 := HL.out.2.1
          have hwk : wrap64 ((k : Int) + 1) = (k : Int) + 1 := by unfold wrap64; omega
          obtain ⟨x, hx⟩ : ∃ x, l[k]? = some x := ⟨_, List.getElem?_eq_getElem hkl⟩
          obtain ⟨bl', ol', cl'', rawl, hpl, hrl, hlt, -, hSl⟩ := HS.out.1.range hx
          cases hpl
          obtain ⟨pv, cv, hrw⟩ := hSl.form
          subst hrw
          have hmx := HL.out.1 x (List.mem_of_getElem? hx)
          have HR : Hid ((∀ w', Below w.heap.size w w' → (ldV (.pointer (some ⟨bl, ol + k * 5, none⟩))).run Tryz.prog w' = .ok (.value (.agg (vcs x (.slice pv x.l.length cv)))) w') ∧ (∃ FB, ∀ w', Below w.heap.size w w' → SlAt w' FB (.slice pv x.l.length cv) x.l) ∧ mayV x = true ∧ refsV x = []) :=
            ⟨fun w' hb => ld_onK hrl hb hlt, ⟨_, fun w' hb => hSl.on hb⟩, hmx.1, hmx.2⟩
          have Hx := (show Hid _ from hx)
          have HF := (show Hid _ from HR.out.2.1)
          clear hx hrl hlt hSl hmx
          obtain ⟨c, fu, f, hK, hf1, hf2⟩ := HI.out
          have hld := HR.out.1 wr hK.base
          obtain ⟨FB, hFB⟩ := HF.out
          have HKG := (show Hid _ from keep_K hK (hFB wr hK.base) HR.out.2.2.1 HR.out.2.2.2)
          have Hf := (show Hid _ from And.intro hf1 hf2)
          clear hK hf1 hf2 HI hFB
          simp only [vcs] at hld HKG
          go_wp2_with fail
          refine Calls.mono HKG.out ?_
          rintro e w3 ⟨c8, f', rfl, hK3, -, hc⟩
          have hf' : f' = x0 ∧ ((k = 0 ∧ c8 = 0) ∨ (0 < k ∧ c8 = 83)) := by
            have hx := Hx.out
            have hx0 := Hx0.out
            rcases hc with ⟨h1, h2, h3⟩ | ⟨h1, h2, h3⟩
            · rcases Nat.eq_zero_or_pos k with e | e
              · have := Hf.out.2 e
                rw [this] at h1
                cases h1
              · exact ⟨h3.trans (Hf.out.1 e).2, .inr ⟨e, h2⟩⟩
            · rcases Nat.eq_zero_or_pos k with e | e
              · subst e
                rw [hx] at hx0
                cases hx0
                exact ⟨h3, .inl ⟨rfl, h2⟩⟩
              · have := (Hf.out.1 e).1
                rw [this] at h1
                cases h1
          obtain ⟨rfl, hc8⟩ := hf'
          have HK3 := (show Hid (KAt w p NoBk c (l.take k) true f' w3) from hK3)
          have Hc8 := (show Hid _ from hc8)
          clear hK3 hc hc8 HKG hld Hf
          go_upto_region 16 with fail
          go_cut [114] from 78 to 192 (fun v wx => v = .bool false ∧ Hid (KAt w p NoBk x (l.take k) true f' wx))
          case first =>
            obtain ⟨FB, hFB⟩ := HF.out
            have hld := HR.out.1 w3 HK3.out.base
            have HPT := (show Hid _ from put_K HK3.out (hFB w3 HK3.out.base) HR.out.2.2.1 HR.out.2.2.2)
            simp only [vcs] at hld HPT
            clear hFB
            rcases Hc8.out with ⟨hk0, hc8⟩ | ⟨hk0, hc8⟩
            · subst hk0
              simp only [Nat.zero_mul, Nat.add_zero] at hld
              subst hc8
              go_wp2_with fail
              refine Calls.mono HPT.out ?_
              rintro e w4 ⟨rfl, hK4, -⟩
              have HK4 : Hid (KAt w p NoBk x (l.take 0) true f' w4) := hK4
              clear hK4 HPT hld
              go_wp2_with fail
              go_meet
              exact ⟨rfl, HK4⟩
            · have e1 : ((k : Int) == 0) = false := by rw [beq_eq_false_iff_ne]; omega
              have e2 : (k : Int) > 0 := by omega
              subst hc8
              go_wp2_with fail
              refine Calls.mono HPT.out ?_
              rintro e w4 ⟨rfl, hK4, -⟩
              have HK4 : Hid (KAt w p NoBk x (l.take k) true f' w4) := hK4
              clear hK4 HPT hld
              go_wp2_with fail
              go_meet
              exact ⟨rfl, HK4⟩
          case rest =>
            obtain ⟨rfl, HK6⟩ := hcut
            clear HK3 Hc8
            have hsl := slice_frontK (n := l.length) (ps := some ⟨bl, ol, none⟩) (cs := cl) (k := k) (by have := HS.out.2; omega)
            have htk : l.take k ++ [x] = l.take (k + 1) := by rw [List.take_add_one, Hx.out]; rfl
            have hltk : (l.take (k + 1)).length = k + 1 := by rw [List.length_take]; omega
            have HOF := (show Hid _ from Of_G (l.take (k + 1)) _ ((HS.out.1.on HK6.out.base).front (k := k + 1) (by omega) cl) (by rw [hltk]; omega))
            have hall1 : ∀ y ∈ l.take (k + 1), mayV y = true := fun y hy => (HL.out.1 y (List.mem_of_mem_take hy)).1
            have HT := (show Hid _ from And.intro htk (And.intro hltk hall1))
            clear htk hltk hall1
            go_wp2_with fail
            refine Calls.mono HOF.out ?_
            rintro e w7 ⟨hb7, hof⟩
            rcases hof with ⟨h0, raw7, rfl, hs7⟩ | ⟨h0, rfl⟩
            · -- Of says yes
              obtain ⟨pv7, cv7, hraw7⟩ := hs7.form
              rw [HT.out.2.1] at hraw7
              subst hraw7
              obtain ⟨lv, hlv⟩ : ∃ lv, lv = listV (l.take (k + 1)) := ⟨_, rfl⟩
              have hmlv : mayV lv = true := by rw [hlv]; exact (ofE_iffK HT.out.2.2).1 h0
              have Hlv := (show Hid (lv = listV (l.take (k + 1)) ∧ mayV lv = true) from ⟨hlv, hmlv⟩)
              have hs7' : SlAt w7 (fun b => TyB w7 (fun b => wc.heap.size ≤ b) b ∧ b < w7.heap.size) (.slice pv7 (k + 1) cv7) lv.l := by rw [hlv]; exact SlAt.lt hs7
              obtain ⟨B8, hK8, hX15, -⟩ := (HK6.out.news hb7).box (x := lv) hs7' (fun y hy => .inr ⟨hy.1.1, hy.2⟩)
              have HK8 : Hid (KAt w p B8 x (l.take k) true f' (w7.alloc (.cells (vcs lv (.slice pv7 (k + 1) cv7)) 34)) ∧ Bx B8 w7.heap.size lv (.slice pv7 (k + 1) cv7) (w7.alloc (.cells (vcs lv (.slice pv7 (k + 1) cv7)) 34))) := ⟨hK8, hX15⟩
              clear hK8 hX15 hs7' hs7 hmlv HOF hb7 HK6
              rw [← hlv]
              have ek : lv.kind = 3 ∧ lv.n = 0 ∧ lv.s = ⟨#[]⟩ ∧ lv.r = 0 := by rw [hlv]; exact ⟨rfl, rfl, rfl, rfl⟩
              have hld := HR.out.1 _ HK8.out.1.base
              obtain ⟨FB, hFB⟩ := HF.out
              have HLG := (show Hid _ from log_K HK8.out.1 (hFB _ HK8.out.1.base) HR.out.2.2.1 HR.out.2.2.2)
              obtain ⟨ek1, ek2, ek3, ek4⟩ := ek
              simp only [vcs, ek1, ek2, ek3, ek4] at hld HLG HK8 ⊢
              clear hFB hlv h0
              go_wp2_with fail
              refine Calls.mono HLG.out ?_
              rintro e w9 ⟨c9, vs', rfl, hK9, hS9, hc⟩
              rcases hc with ⟨-, rfl, rfl⟩ | ⟨h1, -⟩
              rotate_left
              · rw [HT.out.1, ← Hlv.out.1, Hlv.out.2] at h1
                cases h1
              rw [HT.out.1] at hK9
              have HK9 : Hid (KAt w p B8 x (l.take (k + 1)) true f' w9 ∧ Bx B8 w7.heap.size lv (.slice pv7 (k + 1) cv7) w9) := ⟨hK9, HK8.out.2.step hS9 (fun _ h => h)⟩
              clear hK9 hS9 HLG hld HK8
              revert HK9
              generalize w7.heap.size = b15
              intro HK9
              go_wp2_with fail
              refine (getc_K HK9.out.1).mono ?_
              rintro e w10 ⟨pvc, cvc, FSc, rfl, hK10, hS10, hsc⟩
              obtain ⟨B11, hK11, hX18, hst⟩ := hK10.box hsc (fun y h => .inr h)
              have HK11 : Hid (KAt w p B11 x (l.take (k + 1)) true f' _ ∧ Bx B11 b15 lv (.slice pv7 (k + 1) cv7) _ ∧ Bx B11 w10.heap.size x (.slice pvc x.l.length cvc) _) := ⟨hK11, hst _ _ _ (HK9.out.2.got hS10), hX18⟩
              clear hK10 hS10 hsc hK11 hX18 hst HK9
              simp only [vcs] at HK11 ⊢
              go_upto_region 25 with fail
              revert HK11
              generalize w10.alloc _ = w11
              generalize w10.heap.size = b18
              intro HK11
              go_wp2_with fail
              refine (getg_K HK11.out.1).mono ?_
              rintro e w12 ⟨pvg, cvg, FSg, rfl, hK12, hS12, hsg⟩
              rw [← Hlv.out.1] at hsg ⊢
              have hll : lv.l.length = k + 1 := by rw [Hlv.out.1]; exact HT.out.2.1
              rw [hll] at hsg ⊢
              obtain ⟨B13, hK13, hX19, hst⟩ := hK12.box hsg (fun y h => .inr h)
              have HK13 : Hid (KAt w p B13 x (l.take (k + 1)) true f' _ ∧ Bx B13 b15 lv (.slice pv7 (k + 1) cv7) _ ∧ Bx B13 b18 x (.slice pvc x.l.length cvc) _ ∧ Bx B13 w12.heap.size lv (.slice pvg (k + 1) cvg) _) := ⟨hK13, hst _ _ _ (HK11.out.2.1.got hS12), hst _ _ _ (HK11.out.2.2.got hS12), hX19⟩
              clear hK12 hS12 hsg hK13 hX19 hst HK11 hll
              simp only [vcs, ek1, ek2, ek3, ek4] at HK13 ⊢
              go_upto_region 26 with fail
              revert HK13
              generalize w12.alloc _ = w13
              generalize w12.heap.size = b19
              intro HK13
              go_wp2_with fail
              refine (getp_K HK13.out.1).mono ?_
              rintro e w14 ⟨pvp, cvp, FSp, rfl, hK14, hS14, hsp⟩
              obtain ⟨B15, hK15, hX21, hst⟩ := hK14.box hsp (fun y h => .inr h)
              have HK15 : Hid (KAt w p B15 x (l.take (k + 1)) true f' _ ∧ Bx B15 b15 lv (.slice pv7 (k + 1) cv7) _ ∧ Bx B15 b18 x (.slice pvc x.l.length cvc) _ ∧ Bx B15 b19 lv (.slice pvg (k + 1) cvg) _ ∧ Bx B15 w14.heap.size f' (.slice pvp f'.l.length cvp) _) := ⟨hK15, hst _ _ _ (HK13.out.2.1.got hS14), hst _ _ _ (HK13.out.2.2.1.got hS14), hst _ _ _ (HK13.out.2.2.2.got hS14), hX21⟩
              clear hK14 hS14 hsp hK15 hX21 hst HK13
              simp only [vcs] at HK15 ⊢
              go_upto_region 27 with fail
              revert HK15
              generalize w14.alloc _ = wq
              generalize w14.heap.size = b21
              intro HK15
              have HSA : Hid ((∀ w', Below wq.heap.size wq w' → Calls Tryz.prog 20 #[.agg (vcs x (.slice pvc x.l.length cvc)), .agg (vcs x (.slice pv x.l.length cv))] w' fun e w'' => e = .returned (.bool true) ∧ Below w'.heap.size w' w'') ∧
                  (∀ w', Below wq.heap.size wq w' → Calls Tryz.prog 20 #[.agg (vcs lv (.slice pvg (k + 1) cvg)), .agg (vcs lv (.slice pv7 (k + 1) cv7))] w' fun e w'' => e = .returned (.bool true) ∧ Below w'.heap.size w' w'') ∧
                  (∀ w', Below wq.heap.size wq w' → Calls Tryz.prog 20 #[.agg (vcs f' (.slice pvp f'.l.length cvp)), .agg (vcs f' (.slice pv0 f'.l.length cv0))] w' fun e w'' => e = .returned (.bool true) ∧ Below w'.heap.size w' w'')) := by
                obtain ⟨FS1, g1, -⟩ := HK15.out.2.2.1.lies
                obtain ⟨FS2, g2, -⟩ := HK15.out.2.2.2.1.lies
                obtain ⟨FS3, g3, -⟩ := HK15.out.2.1.lies
                obtain ⟨FS4, g4, -⟩ := HK15.out.2.2.2.2.lies
                obtain ⟨FS5, g5⟩ := HR.out.2.1
                obtain ⟨FS6, g6⟩ := HR0.out.2.1
                have g5 := g5 wq HK15.out.1.base
                have g6 := g6 wq HK15.out.1.base
                exact ⟨fun w' hb => vSame_G _ _ _ (g1.on hb) (g5.on hb) HR.out.2.2.1, fun w' hb => vSame_G _ _ _ (g2.on hb) (g3.on hb) Hlv.out.2, fun w' hb => vSame_G _ _ _ (g4.on hb) (g6.on hb) HR0.out.2.2.1⟩
              have HB15 : Hid (Below w.heap.size w wq) := HK15.out.1.base
              refine wp_region_growK 32 (by kernel_rfl) rfl (by kernel_rfl) (by kernel_rfl) (fun a b => Below a.heap.size a b) (KpR27 k bl ol l.length cl x lv f' (.slice pvc x.l.length cvc) (.slice pv x.l.length cv) (.slice pvg (k + 1) cvg) (.slice pv7 (k + 1) cv7) (.slice pvp f'.l.length cvp) (.slice pv0 f'.l.length cv0)) (fun w' => Below wq.heap.size wq w') (fun j v w w' _ h => h) below_drew (fun a b h hR => h.trans (hR.mono h.size)) ?_ ?_ ?_
              · intro j q g b hq hgd
                have hj : j < 32 := (List.getElem?_eq_some_iff.1 hq).1
                match j, hj with
                | 0, _ => cases hq; cases hgd
                | 1, _ => cases hq; cases hgd
                | 2, _ => cases hq; cases hgd
                | 3, _ => cases hq; cases hgd; exact fun v w h => h
                | 4, _ => cases hq; cases hgd; exact fun v w h => h
                | 5, _ => cases hq; cases hgd
                | 6, _ => cases hq; cases hgd
                | 7, _ => cases hq; cases hgd; exact fun v w h => h
                | 8, _ => cases hq; cases hgd; exact fun v w h => h
                | 9, _ => cases hq; cases hgd
                | 10, _ => cases hq; cases hgd
                | 11, _ => cases hq; cases hgd; exact fun v w h => h
                | 12, _ => cases hq; cases hgd; exact fun v w h => h
                | 13, _ => cases hq; cases hgd; exact fun v w h => h
                | 14, _ => cases hq; cases hgd; exact fun v w h => h
                | 15, _ => cases hq; cases hgd; exact fun v w h => h
                | 16, _ => cases hq; cases hgd; exact fun v w h => h
                | 17, _ => cases hq; cases hgd; exact fun v w h => h
                | 18, _ => cases hq; cases hgd
                | 19, _ => cases hq; cases hgd
                | 20, _ => cases hq; cases hgd; exact fun v w h => h
                | 21, _ => cases hq; cases hgd; exact fun v w h => h
                | 22, _ => cases hq; cases hgd; exact fun v w h => h
                | 23, _ => cases hq; cases hgd; exact fun v w h => h
                | 24, _ => cases hq; cases hgd
                | 25, _ => cases hq; cases hgd
                | 26, _ => cases hq; cases hgd; exact fun v w h => h
                | 27, _ => cases hq; cases hgd; exact fun v w h => h
                | 28, _ => cases hq; cases hgd; exact fun v w h => h
                | 29, _ => cases hq; cases hgd; exact fun v w h => h
                | 30, _ => cases hq; cases hgd; exact fun v w h => h
                | 31, _ => cases hq; cases hgd; exact fun v w h => h
              · intro j q a w7 hq hC hG
                have hj : j < 32 := (List.getElem?_eq_some_iff.1 hq).1
                match j, hj with
                | 0, _ =>
                  cases hq
                  have h17 : a.tmps.getD 17 undef = .int .i64 0 := hG.fr 17 (by simp)
                  have h17' : a.tmps[17]?.getD undef = .int .i64 0 := by rw [← h17]; simp [Array.getD_eq_getD_getElem?]
                  unfold Oper.wp
                  simp [go_sem, Act.eval, h17']
                  exact ⟨_, rfl, Below.refl _ _, rfl⟩
                | 1, _ =>
                  cases hq
                  have h160 : a.tmps.getD 160 undef = .int .i64 0 := hG.dep ⟨0, .data⟩ (by simp) rfl _ rfl
                  have h160' : a.tmps[160]?.getD undef = .int .i64 0 := by rw [← h160]; simp [Array.getD_eq_getD_getElem?]
                  unfold Oper.wp
                  simp [go_sem, Act.eval, h160']
                  exact ⟨_, rfl, Below.refl _ _, rfl⟩
                | 2, _ =>
                  cases hq
                  have h161 : a.tmps.getD 161 undef = .bool false := hG.dep ⟨1, .data⟩ (by simp) rfl _ rfl
                  have h161' : a.tmps[161]?.getD undef = .bool false := by rw [← h161]; simp [Array.getD_eq_getD_getElem?]
                  unfold Oper.wp
                  simp [go_sem, Act.eval, h161']
                  exact ⟨_, rfl, Below.refl _ _, rfl⟩
                | 3, _ =>
                  cases hq
                  have h20 : a.tmps.getD 20 undef = .int .i64 0 := hG.fr 20 (by simp)
                  have h20' : a.tmps[20]?.getD undef = .int .i64 0 := by rw [← h20]; simp [Array.getD_eq_getD_getElem?]
                  unfold Oper.wp
                  simp [go_sem, Act.eval, h20']
                  exact ⟨_, rfl, Below.refl _ _, rfl⟩
                | 4, _ =>
                  cases hq
                  have h163 : a.tmps.getD 163 undef = .int .i64 0 := hG.dep ⟨3, .data⟩ (by simp) rfl _ rfl
                  have h163' : a.tmps[163]?.getD undef = .int .i64 0 := by rw [← h163]; simp [Array.getD_eq_getD_getElem?]
                  unfold Oper.wp
                  simp [go_sem, Act.eval, h163']
                  exact ⟨_, rfl, Below.refl _ _, rfl⟩
                | 5, _ =>
                  cases hq
                  have h162 : a.tmps.getD 162 undef = .bool false := hG.dep ⟨2, .data⟩ (by simp) rfl _ rfl
                  have h162' : a.tmps[162]?.getD undef = .bool false := by rw [← h162]; simp [Array.getD_eq_getD_getElem?]
                  have h164 : a.tmps.getD 164 undef = .bool false := hG.dep ⟨4, .data⟩ (by simp) rfl _ rfl
                  have h164' : a.tmps[164]?.getD undef = .bool false := by rw [← h164]; simp [Array.getD_eq_getD_getElem?]
                  unfold Oper.wp
                  simp [go_sem, Act.eval, h162', h164']
                  exact ⟨_, rfl, Below.refl _ _, rfl⟩
                | 6, _ =>
                  cases hq
                  have h165 : a.tmps.getD 165 undef = .bool false := hG.dep ⟨5, .data⟩ (by simp) rfl _ rfl
                  have h165' : a.tmps[165]?.getD undef = .bool false := by rw [← h165]; simp [Array.getD_eq_getD_getElem?]
                  unfold Oper.wp
                  simp [go_sem, Act.eval, h165']
                  exact ⟨_, rfl, Below.refl _ _, rfl⟩
                | 7, _ =>
                  cases hq
                  have h22 : a.tmps.getD 22 undef = .int .i64 0 := hG.fr 22 (by simp)
                  have h22' : a.tmps[22]?.getD undef = .int .i64 0 := by rw [← h22]; simp [Array.getD_eq_getD_getElem?]
                  unfold Oper.wp
                  simp [go_sem, Act.eval, h22']
                  exact ⟨_, rfl, Below.refl _ _, rfl⟩
                | 8, _ =>
                  cases hq
                  have h167 : a.tmps.getD 167 undef = .int .i64 0 := hG.dep ⟨7, .data⟩ (by simp) rfl _ rfl
                  have h167' : a.tmps[167]?.getD undef = .int .i64 0 := by rw [← h167]; simp [Array.getD_eq_getD_getElem?]
                  unfold Oper.wp
                  simp [go_sem, Act.eval, h167']
                  exact ⟨_, rfl, Below.refl _ _, rfl⟩
                | 9, _ =>
                  cases hq
                  have h166 : a.tmps.getD 166 undef = .bool false := hG.dep ⟨6, .data⟩ (by simp) rfl _ rfl
                  have h166' : a.tmps[166]?.getD undef = .bool false := by rw [← h166]; simp [Array.getD_eq_getD_getElem?]
                  have h168 : a.tmps.getD 168 undef = .bool false := hG.dep ⟨8, .data⟩ (by simp) rfl _ rfl
                  have h168' : a.tmps[168]?.getD undef = .bool false := by rw [← h168]; simp [Array.getD_eq_getD_getElem?]
                  unfold Oper.wp
                  simp [go_sem, Act.eval, h166', h168']
                  exact ⟨_, rfl, Below.refl _ _, rfl⟩
                | 10, _ =>
                  cases hq
                  have h169 : a.tmps.getD 169 undef = .bool false := hG.dep ⟨9, .data⟩ (by simp) rfl _ rfl
                  have h169' : a.tmps[169]?.getD undef = .bool false := by rw [← h169]; simp [Array.getD_eq_getD_getElem?]
                  unfold Oper.wp
                  simp [go_sem, Act.eval, h169']
                  exact ⟨_, rfl, Below.refl _ _, rfl⟩
                | 11, _ =>
                  cases hq
                  have h18 : a.tmps.getD 18 undef = .pointer (some ⟨b18, 0, none⟩) := hG.fr 18 (by simp)
                  refine step_g (.agg (vcs x (.slice pvc x.l.length cvc))) ?_ (Below.refl _ _) rfl
                  rw [execOp_ldKpR27171]
                  show (ldV (a.tmps.getD 18 undef)).run _ _ = _
                  rw [h18]
                  exact loadV_blk (below_blk hC HK15.out.2.2.1.hb) rfl
                | 12, _ =>
                  cases hq
                  have h0 : a.tmps.getD 0 undef = .slice (some ⟨bl, ol, none⟩) l.length cl := hG.fr 0 (by simp)
                  have h0' : a.tmps[0]?.getD undef = .slice (some ⟨bl, ol, none⟩) l.length cl := by rw [← h0]; simp [Array.getD_eq_getD_getElem?]
                  unfold Oper.wp
                  simp [go_sem, Act.eval, h0']
                  exact ⟨_, rfl, Below.refl _ _, rfl⟩
                | 13, _ =>
                  cases hq
                  have h13 : a.tmps.getD 13 undef = .int .i64 k := hG.fr 13 (by simp)
                  have h13' : a.tmps[13]?.getD undef = .int .i64 k := by rw [← h13]; simp [Array.getD_eq_getD_getElem?]
                  unfold Oper.wp
                  simp [go_sem, Act.eval, h13']
                  exact ⟨_, rfl, Below.refl _ _, rfl⟩
                | 14, _ =>
                  cases hq
                  have h172 : a.tmps.getD 172 undef = .slice (some ⟨bl, ol, none⟩) l.length cl := hG.dep ⟨12, .data⟩ (by simp) rfl _ rfl
                  have h172' : a.tmps[172]?.getD undef = .slice (some ⟨bl, ol, none⟩) l.length cl := by rw [← h172]; simp [Array.getD_eq_getD_getElem?]
                  have h173 : a.tmps.getD 173 undef = .int .i64 k := hG.dep ⟨13, .data⟩ (by simp) rfl _ rfl
                  have h173' : a.tmps[173]?.getD undef = .int .i64 k := by rw [← h173]; simp [Array.getD_eq_getD_getElem?]
                  unfold Oper.wp
                  simp [go_sem, Act.eval, h172', h173', hkz]
                  exact ⟨_, rfl, Below.refl _ _, rfl⟩
                | 15, _ =>
                  cases hq
                  have h174 : a.tmps.getD 174 undef = .pointer (some ⟨bl, ol + k * 5, none⟩) := hG.dep ⟨14, .data⟩ (by simp) rfl _ rfl
                  refine step_g (.agg (vcs x (.slice pv x.l.length cv))) ?_ (Below.refl _ _) rfl
                  rw [execOp_ldKpR27175]
                  show (ldV (a.tmps.getD 174 undef)).run _ _ = _
                  rw [h174]
                  exact HR.out.1 _ (HB15.out.trans (hC.mono HB15.out.size))
                | 16, _ =>
                  cases hq
                  have h171 : a.tmps.getD 171 undef = .agg (vcs x (.slice pvc x.l.length cvc)) := hG.dep ⟨11, .data⟩ (by simp) rfl _ rfl
                  have h171' : a.tmps[171]?.getD undef = .agg (vcs x (.slice pvc x.l.length cvc)) := by rw [← h171]; simp [Array.getD_eq_getD_getElem?]
                  have h175 : a.tmps.getD 175 undef = .agg (vcs x (.slice pv x.l.length cv)) := hG.dep ⟨15, .data⟩ (by simp) rfl _ rfl
                  have h175' : a.tmps[175]?.getD undef = .agg (vcs x (.slice pv x.l.length cv)) := by rw [← h175]; simp [Array.getD_eq_getD_getElem?]
                  unfold Oper.wp
                  simp [go_sem, callFunc, Act.eval, Tryz.func20, h171', h175']
                  refine Calls.mono (HSA.out.1 _ hC) ?_
                  rintro e w8 ⟨rfl, hb8⟩
                  exact ⟨_, rfl, hb8, rfl⟩
                | 17, _ =>
                  cases hq
                  have h176 : a.tmps.getD 176 undef = .bool true := hG.dep ⟨16, .data⟩ (by simp) rfl _ rfl
                  have h176' : a.tmps[176]?.getD undef = .bool true := by rw [← h176]; simp [Array.getD_eq_getD_getElem?]
                  unfold Oper.wp
                  simp [go_sem, Act.eval, h176']
                  exact ⟨_, rfl, Below.refl _ _, rfl⟩
                | 18, _ =>
                  cases hq
                  have h170 : a.tmps.getD 170 undef = .bool false := hG.dep ⟨10, .data⟩ (by simp) rfl _ rfl
                  have h170' : a.tmps[170]?.getD undef = .bool false := by rw [← h170]; simp [Array.getD_eq_getD_getElem?]
                  have h177 : a.tmps.getD 177 undef = .bool false := hG.dep ⟨17, .data⟩ (by simp) rfl _ rfl
                  have h177' : a.tmps[177]?.getD undef = .bool false := by rw [← h177]; simp [Array.getD_eq_getD_getElem?]
                  unfold Oper.wp
                  simp [go_sem, Act.eval, h170', h177']
                  exact ⟨_, rfl, Below.refl _ _, rfl⟩
                | 19, _ =>
                  cases hq
                  have h178 : a.tmps.getD 178 undef = .bool false := hG.dep ⟨18, .data⟩ (by simp) rfl _ rfl
                  have h178' : a.tmps[178]?.getD undef = .bool false := by rw [← h178]; simp [Array.getD_eq_getD_getElem?]
                  unfold Oper.wp
                  simp [go_sem, Act.eval, h178']
                  exact ⟨_, rfl, Below.refl _ _, rfl⟩
                | 20, _ =>
                  cases hq
                  have h19 : a.tmps.getD 19 undef = .pointer (some ⟨b19, 0, none⟩) := hG.fr 19 (by simp)
                  refine step_g (.agg (vcs lv (.slice pvg (k + 1) cvg))) ?_ (Below.refl _ _) rfl
                  rw [execOp_ldKpR27180]
                  show (ldV (a.tmps.getD 19 undef)).run _ _ = _
                  rw [h19]
                  exact loadV_blk (below_blk hC HK15.out.2.2.2.1.hb) rfl
                | 21, _ =>
                  cases hq
                  have h15 : a.tmps.getD 15 undef = .pointer (some ⟨b15, 0, none⟩) := hG.fr 15 (by simp)
                  refine step_g (.agg (vcs lv (.slice pv7 (k + 1) cv7))) ?_ (Below.refl _ _) rfl
                  rw [execOp_ldKpR27181]
                  show (ldV (a.tmps.getD 15 undef)).run _ _ = _
                  rw [h15]
                  exact loadV_blk (below_blk hC HK15.out.2.1.hb) rfl
                | 22, _ =>
                  cases hq
                  have h180 : a.tmps.getD 180 undef = .agg (vcs lv (.slice pvg (k + 1) cvg)) := hG.dep ⟨20, .data⟩ (by simp) rfl _ rfl
                  have h180' : a.tmps[180]?.getD undef = .agg (vcs lv (.slice pvg (k + 1) cvg)) := by rw [← h180]; simp [Array.getD_eq_getD_getElem?]
                  have h181 : a.tmps.getD 181 undef = .agg (vcs lv (.slice pv7 (k + 1) cv7)) := hG.dep ⟨21, .data⟩ (by simp) rfl _ rfl
                  have h181' : a.tmps[181]?.getD undef = .agg (vcs lv (.slice pv7 (k + 1) cv7)) := by rw [← h181]; simp [Array.getD_eq_getD_getElem?]
                  unfold Oper.wp
                  simp [go_sem, callFunc, Act.eval, Tryz.func20, h180', h181']
                  refine Calls.mono (HSA.out.2.1 _ hC) ?_
                  rintro e w8 ⟨rfl, hb8⟩
                  exact ⟨_, rfl, hb8, rfl⟩
                | 23, _ =>
                  cases hq
                  have h182 : a.tmps.getD 182 undef = .bool true := hG.dep ⟨22, .data⟩ (by simp) rfl _ rfl
                  have h182' : a.tmps[182]?.getD undef = .bool true := by rw [← h182]; simp [Array.getD_eq_getD_getElem?]
                  unfold Oper.wp
                  simp [go_sem, Act.eval, h182']
                  exact ⟨_, rfl, Below.refl _ _, rfl⟩
                | 24, _ =>
                  cases hq
                  have h179 : a.tmps.getD 179 undef = .bool false := hG.dep ⟨19, .data⟩ (by simp) rfl _ rfl
                  have h179' : a.tmps[179]?.getD undef = .bool false := by rw [← h179]; simp [Array.getD_eq_getD_getElem?]
                  have h183 : a.tmps.getD 183 undef = .bool false := hG.dep ⟨23, .data⟩ (by simp) rfl _ rfl
                  have h183' : a.tmps[183]?.getD undef = .bool false := by rw [← h183]; simp [Array.getD_eq_getD_getElem?]
                  unfold Oper.wp
                  simp [go_sem, Act.eval, h179', h183']
                  exact ⟨_, rfl, Below.refl _ _, rfl⟩
                | 25, _ =>
                  cases hq
                  have h184 : a.tmps.getD 184 undef = .bool false := hG.dep ⟨24, .data⟩ (by simp) rfl _ rfl
                  have h184' : a.tmps[184]?.getD undef = .bool false := by rw [← h184]; simp [Array.getD_eq_getD_getElem?]
                  unfold Oper.wp
                  simp [go_sem, Act.eval, h184']
                  exact ⟨_, rfl, Below.refl _ _, rfl⟩
                | 26, _ =>
                  cases hq
                  have h21 : a.tmps.getD 21 undef = .pointer (some ⟨b21, 0, none⟩) := hG.fr 21 (by simp)
                  refine step_g (.agg (vcs f' (.slice pvp f'.l.length cvp))) ?_ (Below.refl _ _) rfl
                  rw [execOp_ldKpR27186]
                  show (ldV (a.tmps.getD 21 undef)).run _ _ = _
                  rw [h21]
                  exact loadV_blk (below_blk hC HK15.out.2.2.2.2.hb) rfl
                | 27, _ =>
                  cases hq
                  have h0 : a.tmps.getD 0 undef = .slice (some ⟨bl, ol, none⟩) l.length cl := hG.fr 0 (by simp)
                  have h0' : a.tmps[0]?.getD undef = .slice (some ⟨bl, ol, none⟩) l.length cl := by rw [← h0]; simp [Array.getD_eq_getD_getElem?]
                  unfold Oper.wp
                  simp [go_sem, Act.eval, h0']
                  exact ⟨_, rfl, Below.refl _ _, rfl⟩
                | 28, _ =>
                  cases hq
                  have h187 : a.tmps.getD 187 undef = .slice (some ⟨bl, ol, none⟩) l.length cl := hG.dep ⟨27, .data⟩ (by simp) rfl _ rfl
                  have h187' : a.tmps[187]?.getD undef = .slice (some ⟨bl, ol, none⟩) l.length cl := by rw [← h187]; simp [Array.getD_eq_getD_getElem?]
                  unfold Oper.wp
                  simp [go_sem, Act.eval, h187', hp0, hp0z]
                  exact ⟨_, rfl, Below.refl _ _, rfl⟩
                | 29, _ =>
                  cases hq
                  have h188 : a.tmps.getD 188 undef = .pointer (some ⟨bl, ol, none⟩) := hG.dep ⟨28, .data⟩ (by simp) rfl _ rfl
                  refine step_g (.agg (vcs f' (.slice pv0 f'.l.length cv0))) ?_ (Below.refl _ _) rfl
                  rw [execOp_ldKpR27189]
                  show (ldV (a.tmps.getD 188 undef)).run _ _ = _
                  rw [h188]
                  exact HR0.out.1 _ (HB15.out.trans (hC.mono HB15.out.size))
                | 30, _ =>
                  cases hq
                  have h186 : a.tmps.getD 186 undef = .agg (vcs f' (.slice pvp f'.l.length cvp)) := hG.dep ⟨26, .data⟩ (by simp) rfl _ rfl
                  have h186' : a.tmps[186]?.getD undef = .agg (vcs f' (.slice pvp f'.l.length cvp)) := by rw [← h186]; simp [Array.getD_eq_getD_getElem?]
                  have h189 : a.tmps.getD 189 undef = .agg (vcs f' (.slice pv0 f'.l.length cv0)) := hG.dep ⟨29, .data⟩ (by simp) rfl _ rfl
                  have h189' : a.tmps[189]?.getD undef = .agg (vcs f' (.slice pv0 f'.l.length cv0)) := by rw [← h189]; simp [Array.getD_eq_getD_getElem?]
                  unfold Oper.wp
                  simp [go_sem, callFunc, Act.eval, Tryz.func20, h186', h189']
                  refine Calls.mono (HSA.out.2.2 _ hC) ?_
                  rintro e w8 ⟨rfl, hb8⟩
                  exact ⟨_, rfl, hb8, rfl⟩
                | 31, _ =>
                  cases hq
                  have h190 : a.tmps.getD 190 undef = .bool true := hG.dep ⟨30, .data⟩ (by simp) rfl _ rfl
                  have h190' : a.tmps[190]?.getD undef = .bool true := by rw [← h190]; simp [Array.getD_eq_getD_getElem?]
                  unfold Oper.wp
                  simp [go_sem, Act.eval, h190']
                  exact ⟨_, rfl, Below.refl _ _, rfl⟩
              intro a w7 hC hdf hsz hfr hphi
              have e0 : a.tmps.getD 160 undef = .int .i64 0 := hphi 0 _ rfl
              have e1 : a.tmps.getD 161 undef = .bool false := hphi 1 _ rfl
              have e2 : a.tmps.getD 162 undef = .bool false := hphi 2 _ rfl
              have e3 : a.tmps.getD 163 undef = .int .i64 0 := hphi 3 _ rfl
              have e4 : a.tmps.getD 164 undef = .bool false := hphi 4 _ rfl
              have e5 : a.tmps.getD 165 undef = .bool false := hphi 5 _ rfl
              have e6 : a.tmps.getD 166 undef = .bool false := hphi 6 _ rfl
              have e7 : a.tmps.getD 167 undef = .int .i64 0 := hphi 7 _ rfl
              have e8 : a.tmps.getD 168 undef = .bool false := hphi 8 _ rfl
              have e9 : a.tmps.getD 169 undef = .bool false := hphi 9 _ rfl
              have e10 : a.tmps.getD 170 undef = .bool false := hphi 10 _ rfl
              have e11 : a.tmps.getD 171 undef = .agg (vcs x (.slice pvc x.l.length cvc)) := hphi 11 _ rfl
              have e12 : a.tmps.getD 172 undef = .slice (some ⟨bl, ol, none⟩) l.length cl := hphi 12 _ rfl
              have e13 : a.tmps.getD 173 undef = .int .i64 k := hphi 13 _ rfl
              have e14 : a.tmps.getD 174 undef = .pointer (some ⟨bl, ol + k * 5, none⟩) := hphi 14 _ rfl
              have e15 : a.tmps.getD 175 undef = .agg (vcs x (.slice pv x.l.length cv)) := hphi 15 _ rfl
              have e16 : a.tmps.getD 176 undef = .bool true := hphi 16 _ rfl
              have e17 : a.tmps.getD 177 undef = .bool false := hphi 17 _ rfl
              have e18 : a.tmps.getD 178 undef = .bool false := hphi 18 _ rfl
              have e19 : a.tmps.getD 179 undef = .bool false := hphi 19 _ rfl
              have e20 : a.tmps.getD 180 undef = .agg (vcs lv (.slice pvg (k + 1) cvg)) := hphi 20 _ rfl
              have e21 : a.tmps.getD 181 undef = .agg (vcs lv (.slice pv7 (k + 1) cv7)) := hphi 21 _ rfl
              have e22 : a.tmps.getD 182 undef = .bool true := hphi 22 _ rfl
              have e23 : a.tmps.getD 183 undef = .bool false := hphi 23 _ rfl
              have e24 : a.tmps.getD 184 undef = .bool false := hphi 24 _ rfl
              have e25 : a.tmps.getD 185 undef = .bool false := hphi 25 _ rfl
              have e26 : a.tmps.getD 186 undef = .agg (vcs f' (.slice pvp f'.l.length cvp)) := hphi 26 _ rfl
              have e27 : a.tmps.getD 187 undef = .slice (some ⟨bl, ol, none⟩) l.length cl := hphi 27 _ rfl
              have e28 : a.tmps.getD 188 undef = .pointer (some ⟨bl, ol, none⟩) := hphi 28 _ rfl
              have e29 : a.tmps.getD 189 undef = .agg (vcs f' (.slice pv0 f'.l.length cv0)) := hphi 29 _ rfl
              have e30 : a.tmps.getD 190 undef = .bool true := hphi 30 _ rfl
              have e31 : a.tmps.getD 191 undef = .bool false := hphi 31 _ rfl
              have ha := act_of hdf hsz hfr
              simp only [List.take_succ_cons, List.take_zero, List.filterMap_cons, List.filterMap_nil, List.foldl_cons, List.foldl_nil, List.setIfInBounds_toArray, List.set_cons_zero, List.set_cons_succ, e0, e1, e2, e3, e4, e5, e6, e7, e8, e9, e10, e11, e12, e13, e14, e15, e16, e17, e18, e19, e20, e21, e22, e23, e24, e25, e26, e27, e28, e29, e30, e31] at ha
              clear hdf hsz hfr hphi e0 e1 e2 e3 e4 e5 e6 e7 e8 e9 e10 e11 e12 e13 e14 e15 e16 e17 e18 e19 e20 e21 e22 e23 e24 e25 e26 e27 e28 e29 e30 e31
              subst ha
              have HI : Hid (KpI w p l f' (k + 1) w7) := by
                refine ⟨x, true, f', ((HK15.out.1.below hC).fewer (fun b hb => hb.elim)), fun _ => ⟨rfl, rfl⟩, fun e => by omega⟩
              clear hC HSA HB15 HK15
              refine ⟨rfl, ?_⟩
              unfold Oper.wp
              simp [execOp, go_sem, Act.eval, wpTailG]
              refine ‹∀ (a : Act) (w : World), Code.wp Tryz.prog _ _ a w → _› _ _ ?_
              go_wp2_with fail
              go_roundw
              case rel => exact ⟨k + 1, by go_num, by omega, HI⟩
              case measure => exact measK hkl
            · -- Of says no
              have hno : mayV (listV (l.take k ++ [x])) = false := by
                rw [HT.out.1]
                cases hm : mayV (listV (l.take (k + 1))) with
                | false => rfl
                | true => exact absurd ((ofE_iffK HT.out.2.2).2 hm) h0
              have HK7 : Hid (KAt w p NoBk x (l.take k) true f' (w7.alloc (.cells zV 34))) := HK6.out.below (hb7.trans (((Below.refl _ _).alloc (Nat.le_refl _) _).mono hb7.size))
              have hld := HR.out.1 _ HK7.out.base
              obtain ⟨FB, hFB⟩ := HF.out
              have HLG := (show Hid _ from log_K HK7.out (hFB _ HK7.out.base) HR.out.2.2.1 HR.out.2.2.2)
              have Hno := (show Hid _ from hno)
              clear hno hFB HK6 HOF hb7
              simp only [vcs, zV] at hld HLG ⊢
              have hne : ¬ ofE (l.take (k + 1)) = 0 := h0
              generalize ofE _ = E7 at *
              go_wp2_with fail
              refine Calls.mono HLG.out ?_
              rintro e w9 ⟨c9, vs', rfl, hK9, -, hc⟩
              rcases hc with ⟨h1, -⟩ | ⟨-, rfl, rfl⟩
              · rw [Hno.out] at h1
                cases h1
              have HB9 : Hid (Below w.heap.size w w9) := hK9.base
              clear hK9 HLG hld
              have hne2 : (E7 == 0) = false := by simpa using hne
              go_wp2_with fail
              refine (awake08_W _).mono ?_
              rintro e w10 ⟨rfl, hb10⟩
              have HB10 : Hid (Below w.heap.size w w10) := HB9.out.trans (hb10.mono HB9.out.size)
              clear hb10 HB9
              go_wp2_with fail
              go_ret
              exact ⟨rfl, HB10.out⟩
        · have hkz : ¬ (k : Int) < (l.length : Int) := by omega
          obtain ⟨c, fu, f, hK, -, -⟩ := HI.out
          have HB5 : Hid (Below w.heap.size w wr) := hK.base
          clear hK HI
          go_wp2_with fail
          refine (awake08_W _).mono ?_
          rintro e w10 ⟨rfl, hb10⟩
          have HB10 : Hid (Below w.heap.size w w10) := HB5.out.trans (hb10.mono HB5.out.size)
          clear hb10 HB5
          go_wp2_with fail
          go_ret
          exact ⟨rfl, HB10.out⟩
end Go.Proofs.YtcoiccbmcjdheaaGreat
/- Arguments of a law that are slices or arrays of whole numbers: what the walk is given. -/
namespace Go.Proofs.YtcoiccbmcjdheaaGreat
open Go.ChangeShapes Go.WideShapes Go.ChangeAt Go.RowKit

/-- The whole numbers that a slice holds. -/
def IntArg (k : IntKind) (w : World) (pa : Option Addr) (xs : List Int) : Prop :=
  xs = [] ∨ ∃ b o, pa = some ⟨b, o, none⟩ ∧ b < w.heap.size ∧ ∀ (j : Nat) (x : Int), xs[j]? = some x → w.cell? ⟨b, o + j, none⟩ = some (.int k x)
theorem IntArg.side {w : World} {pa : Option Addr} {xs : List Int} (h : IntArg .i64 w pa xs) : SideArg w pa xs := by
  rcases h with h | ⟨b, o, h1, -, h3⟩
  · exact .inl h
  · exact .inr ⟨b, o, h1, h3⟩

theorem open_arr3 {H : Type} {enc : TypeId × Value → H} {P : Program} {k e : TypeId} {q : IntKind} {W : World} {base : Nat} {sp : Nat → Bool} {held : Bool} (hu : P.underlying k = some (.array 3 e)) (he : P.underlying e = some (.int q)) (hc : P.cellsOf e = 1)
    {r : Reach} {b0 : Nat} {v : Value} (hk : P.cellsOf k = 3) (hval : Value.okWide P W r b0 k v) {d : DataW H} {ps : List MemPlace} (hd : DataW.Trod enc P W base sp held k v d ps) :
    ∃ a b c : Int, v = .agg #[.int q a, .int q b, .int q c] := by
  simp only [Value.okWide, hu] at hval
  obtain ⟨xs, rfl, hn, _⟩ := hval
  rw [hk] at hn
  obtain ⟨fuel, hf⟩ := hd
  cases fuel with
  | zero => simp [DataW.trod] at hf
  | succ m =>
    rw [DataW.trod_step] at hf
    unfold DataW.trodStep at hf
    simp only [hu, Value.cells] at hf
    rw [if_pos (by rw [hk]; simpa using hn)] at hf
    simp only [Option.map_eq_some_iff] at hf
    obtain ⟨ys, hy, -⟩ := hf
    rw [hc, show List.range 3 = [0, 1, 2] from rfl] at hy
    obtain ⟨l⟩ := xs
    match l, hn with
    | [x, y, z], _ =>
      simp only [List.mapM_cons, bind, Option.bind_eq_some_iff] at hy
      obtain ⟨u0, h0, _, ⟨u1, h1, _, ⟨u2, h2, _⟩, _⟩, _⟩ := hy
      obtain ⟨a, ha, -, -⟩ := DataW.trod_int he h0
      obtain ⟨b, hb, -, -⟩ := DataW.trod_int he h1
      obtain ⟨c, hc', -, -⟩ := DataW.trod_int he h2
      simp at ha hb hc'
      exact ⟨a, b, c, by rw [ha, hb, hc']⟩

/-- A slice of whole numbers, as the walks want it. -/
theorem open_nums {H : Type} {enc : TypeId × Value → H} {P : Program} {t e : TypeId} {k : IntKind} {W : World} {base : Nat} {held : Bool} (ht : P.underlying t = some (.slice e)) (he : P.underlying e = some (.int k)) (hc : P.cellsOf e = 1)
    {r : Reach} {b0 : Nat} {v : Value} (hval : Value.okWide P W r b0 t v) {d : DataW H} {ps : List MemPlace} (hd : DataW.Trod enc P W base (fun _ => true) held t v d ps) :
    ∃ (pa : Option Addr) (c : Nat) (xs : List Int), v = .slice pa xs.length c ∧ (xs.length : Int) ≤ maxLen ∧ (∀ x ∈ xs, (Lit.int k x).wf = true) ∧
      IntArg k W pa xs := by
  obtain ⟨fuel, hf⟩ := hd
  obtain ⟨a0, len, cap, rfl⟩ := okWide_slice ht hval
  rcases open_ints ht he hc hf with ⟨hcs, hx⟩ | ⟨a, len', cap', zs, hcs, _, hl, hm, hz, hx, hcell, hwz⟩
  · simp [Value.cells] at hcs
    obtain ⟨rfl, rfl, rfl⟩ := hcs
    exact ⟨none, 0, [], rfl, by unfold maxLen; simp, by simp, .inl rfl⟩
  · simp [Value.cells] at hcs
    obtain ⟨rfl, rfl, rfl⟩ := hcs
    simp only [if_true] at hz
    have hlen : (zs.take len).length = len := by simp; omega
    refine ⟨some a, cap, zs.take len, by rw [hlen], ?_, fun x hx => hwz x (List.mem_of_mem_take hx), ?_⟩
    · rw [hlen]
      omega
    by_cases h0 : len = 0
    · subst h0
      exact .inl rfl
    · right
      obtain ⟨b, off, spot⟩ := a
      have c0 := hcell 0 (by omega)
      have hspot : spot = none := by simpa [Addr.add] using World.cell?_spot c0
      subst hspot
      refine ⟨b, off, rfl, ?_, fun j x hj => ?_⟩
      · have := World.block_lt_of_cell? _ _ c0
        simpa [Addr.add] using this
      · have hj' := (List.getElem?_eq_some_iff.1 hj).1
        rw [hlen] at hj'
        rw [List.getElem?_take, if_pos hj'] at hj
        have hadd : (⟨b, off, none⟩ : Addr).add j = ⟨b, off + j, none⟩ := by unfold Addr.add; split <;> simp_all
        have := hcell j (by omega)
        rw [hadd] at this
        rw [this, List.getD_eq_getElem?_getD, hj]
        rfl
end Go.Proofs.YtcoiccbmcjdheaaGreat
/- Arguments of a law that are values or slices of values: what the walk is given. -/
namespace Go.Proofs.YtcoiccbmcjdheaaGreat
open Go.ChangeShapes Go.WideShapes Go.ChangeAt Go.RowKit

theorem cellsV : Tryz.prog.cellsOf 34 = 5 := by kernel_rfl
theorem cellsVKind : Tryz.prog.cellsOf 32 = 1 := by kernel_rfl
theorem cellsI64 : Tryz.prog.cellsOf 2 = 1 := by kernel_rfl
theorem cellsStr : Tryz.prog.cellsOf 9 = 1 := by kernel_rfl
theorem cellsLV : Tryz.prog.cellsOf 22 = 1 := by kernel_rfl
theorem cellsRef : Tryz.prog.cellsOf 28 = 1 := by kernel_rfl
theorem addr_add (b o i : Nat) : (⟨b, o, none⟩ : Addr).add i = ⟨b, o + i, none⟩ := by unfold Addr.add; split <;> simp_all

set_option maxRecDepth 100000 in
theorem trod_vals {H : Type} {enc : TypeId × Value → H} {W : World} {base : Nat} {held : Bool} {spare : Nat → Bool} : ∀ fuel : Nat,
    (∀ cs x, DataW.trod enc Tryz.prog W base spare held fuel 22 cs = some x → ∃ s l, cs = [s] ∧ SlAt W (fun b => b < W.heap.size) s l ∧ (l.length : Int) ≤ maxLen ∧ ∃ pa c, s = .slice pa l.length c ∧ l.length ≤ c) ∧
    (∀ cs x, DataW.trod enc Tryz.prog W base spare held fuel 34 cs = some x → ∃ v raw, cs = (vcs v raw).toList ∧ SlAt W (fun b => b < W.heap.size) raw v.l) := by
  intro fuel
  induction fuel with
  | zero => exact ⟨fun cs x h => by simp [DataW.trod] at h, fun cs x h => by simp [DataW.trod] at h⟩
  | succ n ih =>
    refine ⟨fun cs x h => ?_, fun cs x h => ?_⟩
    · rcases DataW.trod_slice Tryz.underlying22 h with ⟨rfl, -⟩ | ⟨a, len, cap, elems, rest, m, hm, rfl, rfl, hb, hl, hc, hlen, hel, -, -⟩
      · exact ⟨_, [], rfl, SlAt.nil _ _ _ _, by simp [maxLen], _, _, rfl, Nat.le_refl _⟩
      · cases hm
        have each : ∀ i, i < len → ∃ v raw, SlAt W (fun b => b < W.heap.size) raw v.l ∧ ∀ k, k < 5 → W.cell? ((a.add (i * 5)).add k) = (vcs v raw)[k]? := fun i hi => by
          have h1 := hel i hi
          rw [List.getElem?_eq_getElem (by omega), Option.bind_eq_some_iff] at h1
          obtain ⟨cs', h2, h3⟩ := h1
          obtain ⟨v, raw, rfl, hS⟩ := ih.2 _ _ h3
          rw [cellsV] at h2
          obtain ⟨-, -, h4⟩ := World.cells?_some h2
          exact ⟨v, raw, hS, fun k hk => (h4 k hk).trans (by simp)⟩
        by_cases h0 : len = 0
        · subst h0
          exact ⟨_, [], rfl, SlAt.nil _ _ _ _, by simp, _, _, rfl, Nat.zero_le _⟩
        obtain ⟨b, o, rfl⟩ : ∃ b o, a = ⟨b, o, none⟩ := by
          obtain ⟨v, raw, -, h1⟩ := each 0 (by omega)
          have c0 : W.cell? ((a.add (0 * 5)).add 0) = some (.int .u8 v.kind) := h1 0 (by omega)
          obtain ⟨b, o, sp⟩ := a
          have hs : sp = none := by simpa [Addr.add] using World.cell?_spot c0
          exact ⟨b, o, by rw [hs]⟩
        have key : ∀ i, ∃ p : Val × Value, i < len → SlAt W (fun b => b < W.heap.size) p.2 p.1.l ∧ ∀ k, k < 5 → W.cell? ⟨b, o + 5 * i + k, none⟩ = (vcs p.1 p.2)[k]? := fun i => by
          by_cases hi : i < len
          · obtain ⟨v, raw, h1, h2⟩ := each i hi
            refine ⟨(v, raw), fun _ => ⟨h1, fun k hk => ?_⟩⟩
            have := h2 k hk
            rw [addr_add, addr_add, Nat.mul_comm i 5] at this
            exact this
          · exact ⟨(⟨0, 0, ⟨#[]⟩, [], 0⟩, undef), fun h => absurd h hi⟩
        obtain ⟨f, hf⟩ := Classical.axiomOfChoice key
        have hS : SlAt W (fun b => b < W.heap.size) (.slice (some ⟨b, o, none⟩) ((List.range len).map fun i => (f i).1).length cap) ((List.range len).map fun i => (f i).1) := by
          refine SlAt.mk _ _ _ (fun i => (f i).2) (fun i v hv => ?_) (fun i v hv => ?_)
          · have hi := (List.getElem?_eq_some_iff.1 hv).1
            simp only [List.length_map, List.length_range] at hi
            have hv' : v = (f i).1 := by
              simp [List.getElem?_map, List.getElem?_range hi] at hv
              exact hv.symm
            subst hv'
            obtain ⟨h1, h2⟩ := hf i hi
            have c0 := h2 0 (by omega)
            exact ⟨b, o, rfl, World.block_lt_of_cell? _ ⟨b, o + 5 * i + 0, none⟩ c0, c0, h2 1 (by omega), h2 2 (by omega), h2 3 (by omega), h2 4 (by omega)⟩
          · have hi := (List.getElem?_eq_some_iff.1 hv).1
            simp only [List.length_map, List.length_range] at hi
            have hv' : v = (f i).1 := by
              simp [List.getElem?_map, List.getElem?_range hi] at hv
              exact hv.symm
            subst hv'
            exact (hf i hi).1
        have e : ((List.range len).map fun i => (f i).1).length = len := by simp
        rw [e] at hS
        exact ⟨.slice (some ⟨b, o, none⟩) len cap, _, rfl, hS, by rw [e]; omega, _, _, by rw [e], by rw [e]; exact hl⟩
    · obtain ⟨xs, m, hm, rfl, hlen, hxs, hfs⟩ := DataW.trod_struct Tryz.underlying34 h
      cases hm
      rw [cellsV] at hlen
      match cs, hlen with
      | [c0, c1, c2, c3, c4], _ =>
        have hx : xs.length = 5 := hxs
        have g0 : DataW.trod enc Tryz.prog W base spare held n 32 [c0] = some (xs[0]'(by omega)) := by
          have g := hfs 0 _ rfl
          rw [List.getElem?_eq_getElem (by omega)] at g
          rw [← g]
          show _ = DataW.trod enc Tryz.prog W base spare held n 32 ([c0, c1, c2, c3, c4].take (Tryz.prog.cellsOf 32))
          rw [cellsVKind]
          rfl
        have g1 : DataW.trod enc Tryz.prog W base spare held n 2 [c1] = some (xs[1]'(by omega)) := by
          have g := hfs 1 _ rfl
          rw [List.getElem?_eq_getElem (by omega)] at g
          rw [← g]
          show _ = DataW.trod enc Tryz.prog W base spare held n 2 ([c1, c2, c3, c4].take (Tryz.prog.cellsOf 2))
          rw [cellsI64]
          rfl
        have g2 : DataW.trod enc Tryz.prog W base spare held n 9 [c2] = some (xs[2]'(by omega)) := by
          have g := hfs 2 _ rfl
          rw [List.getElem?_eq_getElem (by omega)] at g
          rw [← g]
          show _ = DataW.trod enc Tryz.prog W base spare held n 9 ([c2, c3, c4].take (Tryz.prog.cellsOf 9))
          rw [cellsStr]
          rfl
        have g3 : DataW.trod enc Tryz.prog W base spare held n 22 [c3] = some (xs[3]'(by omega)) := by
          have g := hfs 3 _ rfl
          rw [List.getElem?_eq_getElem (by omega)] at g
          rw [← g]
          show _ = DataW.trod enc Tryz.prog W base spare held n 22 ([c3, c4].take (Tryz.prog.cellsOf 22))
          rw [cellsLV]
          rfl
        have g4 : DataW.trod enc Tryz.prog W base spare held n 28 [c4] = some (xs[4]'(by omega)) := by
          have g := hfs 4 _ rfl
          rw [List.getElem?_eq_getElem (by omega)] at g
          rw [← g]
          show _ = DataW.trod enc Tryz.prog W base spare held n 28 ([c4].take (Tryz.prog.cellsOf 28))
          rw [cellsRef]
          rfl
        obtain ⟨k, e0, -, -⟩ := DataW.trod_int Tryz.underlying32 g0
        obtain ⟨m, e1, -, -⟩ := DataW.trod_int Tryz.underlying2 g1
        obtain ⟨s, e2, -, -⟩ := DataW.trod_string Tryz.underlying9 g2
        obtain ⟨raw, l, e3, hS, -, -⟩ := ih.1 _ _ g3
        obtain ⟨r, e4, -, -⟩ := DataW.trod_int Tryz.underlying28 g4
        cases e0; cases e1; cases e2; cases e3; cases e4
        exact ⟨⟨k, m, s, l, r⟩, _, rfl, hS⟩

set_option maxRecDepth 100000 in
/-- An argument that is a slice of values. -/
theorem open_vals {H : Type} {enc : TypeId × Value → H} {W : World} {base : Nat} {r : Reach} {b0 : Nat} {v : Value} (hval : Value.okWide Tryz.prog W r b0 22 v) {d : DataW H} {ps : List MemPlace} (hd : DataW.Trod enc Tryz.prog W base (fun _ => true) true 22 v d ps) :
    ∃ l pa c, v = .slice pa l.length c ∧ l.length ≤ c ∧ SlAt W (fun b => b < W.heap.size) (.slice pa l.length c) l ∧ (l.length : Int) ≤ maxLen := by
  obtain ⟨fuel, hf⟩ := hd
  obtain ⟨a0, len, cap, rfl⟩ := okWide_slice Tryz.underlying22 hval
  obtain ⟨s, l, h1, h2, h3, pa, c, e, h4⟩ := (trod_vals fuel).1 _ _ hf
  have h5 : Value.slice a0 len cap = s := by simpa [Value.cells] using h1
  subst h5
  rw [e] at h2
  exact ⟨l, pa, c, e, h4, h2, h3⟩
set_option maxRecDepth 100000 in
/-- An argument that is a value. -/
theorem open_val {H : Type} {enc : TypeId × Value → H} {W : World} {base : Nat} {r : Reach} {b0 : Nat} {v : Value} (hval : Value.okWide Tryz.prog W r b0 34 v) {d : DataW H} {ps : List MemPlace} (hd : DataW.Trod enc Tryz.prog W base (fun _ => true) true 34 v d ps) :
    ∃ x raw, v = .agg (vcs x raw) ∧ SlAt W (fun b => b < W.heap.size) raw x.l := by
  obtain ⟨fuel, hf⟩ := hd
  simp only [Value.okWide, Tryz.underlying34] at hval
  obtain ⟨xs, rfl, hn, _⟩ := hval
  obtain ⟨x, raw, h1, h2⟩ := (trod_vals fuel).2 _ _ hf
  exact ⟨x, raw, congrArg Value.agg (Array.toList_inj.1 h1), h2⟩
end Go.Proofs.YtcoiccbmcjdheaaGreat
