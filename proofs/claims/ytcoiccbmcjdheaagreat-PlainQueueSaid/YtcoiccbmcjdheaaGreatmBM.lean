/- A part of the proof, several texts in one: QuW, OpenV. -/
import Derived.Test.YtcoiccbmcjdheaaGreatmBL
import Derived.Test.YtcoiccbmcjdheaaGreatmAC
/- PlainQueue: the walk. UNDER WAY. -/
namespace Go.Proofs.YtcoiccbmcjdheaaGreat
open Go.RowKit Go.ChangeMaps Go.MapKept

theorem QSt.below {w0 w w' : World} {b2 b5 b6 b8 b9 p i o : Nat} {s : Value} {l : List Val} (h : QSt w0 b2 b5 b6 b8 b9 p s l i o w) (hb : Below w.heap.size w w') : QSt w0 b2 b5 b6 b8 b9 p s l i o w' := ⟨h.qq.below hb, h.qb.below hb, h.io, h.il⟩
theorem ofE_iff {l : List Val} (h : ∀ x ∈ l, mayV x = true) : ofE l = 0 ↔ mayV (listV l) = true := by
  unfold ofE
  rw [List.all_eq_true.2 h, if_pos rfl]
  cases mayV (listV l) <;> simp
theorem slice_mid {ps : Option Addr} {n cs o k : Nat} (h : k + 1 ≤ cs) (ho : o ≤ k) {w : World} : (Instr.sliceAt 22 (.slice ps n cs) (some (.int .i64 o)) (some (.int .i64 ((k : Int) + 1))) none).run Tryz.prog w = .ok (.slice (ps.map (fun x => x.add (o * 5))) (k + 1 - o) (cs - o)) w := by
  have h1 : (k : Int) + 1 = ((k + 1 : Nat) : Int) := by omega
  have h2 : o ≤ k + 1 := by omega
  rw [h1]
  have h3 : ¬ cs = o := by omega
  generalize k + 1 = K at *
  simp [go_sem, h, h2, h3]
theorem of_sub {wr : World} {F0 : Nat → Prop} {pa : Option Addr} {cl k o : Nat} {l : List Val} {x : Val} (hS : SlAt wr F0 (.slice pa l.length cl) l) (hcap : l.length ≤ cl) (hk : k < l.length) (hok : o ≤ k) (hx : l[k]? = some x) (hl : l.length ≤ 100) :
    Calls Tryz.prog 21 #[.slice (pa.map (fun x => x.add (o * 5))) (k + 1 - o) (cl - o)] wr (OfPost wr ((l.take k).drop o ++ [x])) := by
  have hS2 := hS.front (k := k + 1) (by omega) cl
  have e1 : (l.take (k + 1)).length = k + 1 := by rw [List.length_take]; omega
  have hS3 := hS2.back (k := o) (by omega) (by omega)
  rw [e1] at hS3
  have e2 : (l.take (k + 1)).drop o = (l.take k).drop o ++ [x] := by
    rw [List.take_add_one, hx, List.drop_append_of_le_length (by rw [List.length_take]; omega)]
    rfl
  rw [e2, if_neg (by omega)] at hS3
  exact Of_G _ _ hS3 (by rw [List.length_append, List.length_drop, List.length_take, List.length_singleton]; omega)
theorem QBx.inn {b2 b5 b6 b8 b9 p i o : Nat} {s : Value} {w : World} (h : QBx b2 b5 b6 b8 b9 p s i o w) (h2 : b2 ≠ b8) (h5 : b5 ≠ b8) (h6 : b6 ≠ b8) (h9 : b9 ≠ b8) (i' : Nat) : QBx b2 b5 b6 b8 b9 p s i' o (w.setCell ⟨b8, 0, none⟩ (.int .i64 i')) :=
  ⟨(Below.heap_setCell w ⟨b8, 0, none⟩ _ _ h2).trans h.hl, (Below.heap_setCell w ⟨b8, 0, none⟩ _ _ h5).trans h.hw, (Below.heap_setCell w ⟨b8, 0, none⟩ _ _ h6).trans h.hq, by rw [blk_setCell h.hi]; rfl, (Below.heap_setCell w ⟨b8, 0, none⟩ _ _ h9).trans h.ho⟩
theorem take_more {l : List Val} {k o : Nat} {x : Val} (hx : l[k]? = some x) (hk : k < l.length) (ho : o ≤ k) : (l.take (k + 1)).drop o = (l.take k).drop o ++ [x] := by
  rw [List.take_add_one, hx, List.drop_append_of_le_length (by rw [List.length_take]; omega)]
  rfl
theorem QSt.more {w0 w : World} {b2 b5 b6 b8 b9 p k o : Nat} {s : Value} {l : List Val} {x : Val} (hq : QAt w0 p (QBs b2 b5 b6 b8 b9) ((l.take k).drop o ++ [x]) w) (hb : QBx b2 b5 b6 b8 b9 p s k o w) (hx : l[k]? = some x) (hk : k < l.length) (ho : o ≤ k) (h2 : b2 ≠ b8) (h5 : b5 ≠ b8) (h6 : b6 ≠ b8) (h9 : b9 ≠ b8) (h0 : w0.heap.size ≤ b8) :
    QSt w0 b2 b5 b6 b8 b9 p s l (min (k + 1) l.length) o (w.setCell ⟨b8, 0, none⟩ (.int .i64 ((k : Int) + 1))) := by
  rw [Nat.min_eq_left (by omega)]
  exact ⟨by rw [take_more hx hk ho]; exact hq.cell (.inr (.inr (.inr (.inl rfl)))) h0 _, hb.inn h2 h5 h6 h9 (k + 1), by omega, by omega⟩
theorem ofE_yes {l : List Val} {k o : Nat} {x : Val} (h : AllOk l) (hx : l[k]? = some x) (h0 : ofE ((l.take k).drop o ++ [x]) = 0) : mayV (listV ((l.take k).drop o ++ [x])) = true :=
  (ofE_iff fun y hy => by
    rcases List.mem_append.1 hy with hy | hy
    · exact (h.1 y (List.mem_of_mem_take (List.mem_of_mem_drop hy))).1
    · rw [List.mem_singleton.1 hy]
      exact (h.1 x (List.mem_of_getElem? hx)).1).1 h0
theorem ofE_no {l : List Val} {k o : Nat} {x : Val} (h : AllOk l) (hx : l[k]? = some x) (h0 : ofE ((l.take k).drop o ++ [x]) ≠ 0) : mayV (listV ((l.take k).drop o ++ [x])) = false := by
  cases hm : mayV (listV ((l.take k).drop o ++ [x])) with
  | false => rfl
  | true =>
    exact absurd ((ofE_iff fun y hy => by
      rcases List.mem_append.1 hy with hy | hy
      · exact (h.1 y (List.mem_of_mem_take (List.mem_of_mem_drop hy))).1
      · rw [List.mem_singleton.1 hy]
        exact (h.1 x (List.mem_of_getElem? hx)).1).2 hm) h0
theorem measQ {k n : Nat} (h : k < n) : n - (intOf (.int .i64 ((k : Int) + 1))).toNat < n - (intOf (.int .i64 (k : Int))).toNat := by
  simp [intOf]
  omega
theorem execOp_ldQuR1878 (ρ : Operand → Value) (ty : TypeId) (pos : String) (af : Array Edge) (g : Option (Nat × Bool)) :
    execOp ρ { dst := some 78, op := .load 34 (.tmp 77), type := ty, pos := pos, after := af, guard := g } = ldV (ρ (.tmp 77)) := rfl
def QuR18 (p k cl bl ol ln : Nat) (pa : Option Addr) (xk xn xr : Int) (xs : ByteArray) (rawl : Value) (j : Nat) (v : Value) (_ : World) : Prop :=
  match j with
  | 0 => v = .pointer (some ⟨p, 0, none⟩)
  | 1 => v = .int .i64 1
  | 2 => v = .slice pa ln cl
  | 3 => v = .int .i64 k
  | 4 => v = .pointer (some ⟨bl, ol + k * 5, none⟩)
  | 5 => v = .agg #[.int .u8 xk, .int .i64 xn, .string xs, rawl, .int .i64 xr]
  | _ => True
theorem execOp_ldQuR1767 (ρ : Operand → Value) (ty : TypeId) (pos : String) (af : Array Edge) (g : Option (Nat × Bool)) :
    execOp ρ { dst := some 67, op := .load 34 (.tmp 66), type := ty, pos := pos, after := af, guard := g } = ldV (ρ (.tmp 66)) := rfl
def QuR17 (p k cl bl ol ln : Nat) (pa : Option Addr) (xk xn xr : Int) (xs : ByteArray) (rawl : Value) (j : Nat) (v : Value) (_ : World) : Prop :=
  match j with
  | 0 => v = .pointer (some ⟨p, 0, none⟩)
  | 1 => v = .int .i64 1
  | 2 => v = .slice pa ln cl
  | 3 => v = .int .i64 k
  | 4 => v = .pointer (some ⟨bl, ol + k * 5, none⟩)
  | 5 => v = .agg #[.int .u8 xk, .int .i64 xn, .string xs, rawl, .int .i64 xr]
  | _ => True
set_option maxHeartbeats 4000000 in
set_option maxRecDepth 20000 in
theorem queue_walk (w : World) {F0 : Nat → Prop} (pa : Option Addr) (cl : Nat) (l : List Val) (hS : SlAt w F0 (.slice pa l.length cl) l) (hcap : l.length ≤ cl) (qa : Option Addr) (c' : Nat) (ns : List Int) (hns : IntArg .i64 w qa ns) :
    Calls Tryz.prog 4 #[.slice pa l.length cl, .slice qa ns.length c'] w fun e w' => e = .returned (.bool true) ∧ Below w.heap.size w w' := by
  have Hcap : Hid (l.length ≤ cl) := hcap
  obtain ⟨wA, hA⟩ : ∃ wA, wA = w.alloc (.cells #[.slice pa l.length cl] 22) := ⟨_, rfl⟩
  have hbA : Below w.heap.size w wA := by rw [hA]; exact (Below.refl _ _).alloc (Nat.le_refl _) _
  have HA := (show Hid (Below w.heap.size w wA ∧ wA.heap[w.heap.size]? = some (.cells #[.slice pa l.length cl] 22 (0, 0)) ∧ SlAt wA F0 (.slice pa l.length cl) l ∧ IntArg .i64 w qa ns) from ⟨hbA, by rw [hA]; exact blk_new _ _, hS.on hbA, hns⟩)
  obtain ⟨n, hn⟩ : ∃ n, n = ns.length := ⟨_, rfl⟩
  have Hn : Hid (n = ns.length) := hn
  rw [← hn]
  clear hbA hS hns hn hcap
  go_enter Tryz.func4, Tryz.ntmps4
  go_wp2_with fail
  rw [← hA]
  refine (fresh08_W wA).mono ?_
  rintro e w1 ⟨p, rfl, hO⟩
  have hb1 := hO.below0
  have HO : Hid (OwnB wA p (fun b => b = w.heap.size ∨ b = w1.heap.size) (w1.alloc (.cells #[.pointer (some ⟨p, 0, none⟩)] 23))) := OwnB.of hO (fun b hb => by rw [hb]; exact blk_lt HA.out.2.1) _
  have g2 : (w1.alloc (.cells #[.pointer (some ⟨p, 0, none⟩)] 23)).heap[w.heap.size]? = some (.cells #[.slice pa l.length cl] 22 (0, 0)) := blk_old _ _ ((hb1.block _ (blk_lt HA.out.2.1)).trans HA.out.2.1)
  have H2 := (show Hid _ from g2)
  have H5 : Hid ((w1.alloc (.cells #[.pointer (some ⟨p, 0, none⟩)] 23)).heap[w1.heap.size]? = some (.cells #[.pointer (some ⟨p, 0, none⟩)] 23 (0, 0))) := blk_new _ _
  have c2 := cell_blk g2 0
  have hb1s := hb1.size
  clear hO hb1 g2
  go_wp2_with fail
  clear c2
  have Hb2 : Hid (w.heap.size < wA.heap.size) := by rw [hA]; show _ < _; simp
  have Hb5 : Hid (wA.heap.size ≤ w1.heap.size) := by
    have h1 := blk_lt H5.out
    have h2 := HO.out.below0.size
    have h3 : (w1.alloc (.cells #[.pointer (some ⟨p, 0, none⟩)] 23)).heap.size = w1.heap.size + 1 := by simp
    show _ ≤ _
    have := hb1s
    omega
  clear hA
  revert HO H2 H5 Hb2 Hb5 HA
  generalize w1.alloc _ = w2
  generalize w1.heap.size = b5
  generalize hb2 : w.heap.size = b2
  intro HA HO H2 H5 Hb2 Hb5
  have HW := (show Hid _ from hb2)
  clear hb2 hb1s w1
  refine (all08_W l _ (HA.out.2.2.1.on HO.out.below0)).mono ?_
  rintro e w3 ⟨B, rfl, hb3, hall⟩
  have HO3 : Hid (OwnB wA p (fun b => b = b2 ∨ b = b5) w3) := HO.out.below hb3
  have H23 := (show Hid _ from below_blk hb3 H2.out)
  have H53 := (show Hid _ from below_blk hb3 H5.out)
  clear hb3 HO H2 H5
  cases B with
  | false =>
    go_wp2_with fail
    refine (awake08_W _).mono ?_
    rintro e w4 ⟨rfl, hb4⟩
    have HB : Hid (Below w.heap.size w w4) := by rw [HW.out]; exact (HA.out.1.trans ((HO3.out.below hb4).below0.mono (Nat.le_of_lt Hb2.out)))
    clear hb4 HO3 hall
    go_wp2_with fail
    go_ret
    exact ⟨rfl, HB.out⟩
  | true =>
    have HL := (show Hid (AllOk l) from hall rfl)
    clear hall
    by_cases h80 : (n : Int) > 80
    · go_wp2_with fail
      refine (awake08_W _).mono ?_
      rintro e w4 ⟨rfl, hb4⟩
      have HB : Hid (Below w.heap.size w w4) := by rw [HW.out]; exact (HA.out.1.trans ((HO3.out.below hb4).below0.mono (Nat.le_of_lt Hb2.out)))
      clear hb4 HO3
      go_wp2_with fail
      go_ret
      exact ⟨rfl, HB.out⟩
    · have c5 := cell_blk H53.out 0
      go_wp2_with fail
      refine (start_Q HO3.out).mono ?_
      rintro e w4 ⟨rfl, hq4, hs4⟩
      have g24 := (hs4 _ (.inl rfl)).trans H23.out
      have g54 := (hs4 _ (.inr rfl)).trans H53.out
      have HQ4 := (show Hid _ from And.intro hq4 (And.intro g24 g54))
      have hmf : ∀ (fn : Fn) (first cap : Array Value) (w : World), (Instr.makeFunc fn first cap).run Tryz.prog w = .ok (.func fn first cap) w := fun _ _ _ _ => rfl
      clear hq4 hs4 g24 g54 HO3 H23 H53 c5
      go_wp2_with fail
      have HQ : Hid (QSt wA b2 b5 w4.heap.size (w4.heap.size + 1) (w4.heap.size + 1 + 1) p (.slice pa l.length cl) l 0 0 (((w4.alloc (.cells #[.int .i64 1] 28)).alloc (.cells #[.int .i64 0] 3)).alloc (.cells #[.int .i64 0] 3)) ∧ b2 < w4.heap.size ∧ b5 < w4.heap.size ∧ wA.heap.size ≤ w4.heap.size) := by
        obtain ⟨h1, h2, h3⟩ := HQ4.out
        refine ⟨⟨(((h1.alloc (.cells #[.int .i64 1] 28)).alloc (.cells #[.int .i64 0] 3)).alloc (.cells #[.int .i64 0] 3)).fewer fun b hb => ?_, ⟨blk_old _ _ (blk_old _ _ (blk_old _ _ h2)), blk_old _ _ (blk_old _ _ (blk_old _ _ h3)), ?_, ?_, ?_⟩, Nat.le_refl _, Nat.zero_le _⟩, blk_lt h2, blk_lt h3, h1.base.size⟩
        · rcases hb with rfl | rfl | rfl | rfl | rfl
          · exact .inl (.inl (.inl (.inl rfl)))
          · exact .inl (.inl (.inl (.inr rfl)))
          · exact .inl (.inl (.inr rfl))
          · exact .inl (.inr (by simp))
          · exact .inr (by simp)
        · exact blk_old _ _ (blk_old _ _ (blk_new _ _))
        · have := blk_old _ (.cells #[.int .i64 0] 3) (blk_new (w4.alloc (.cells #[.int .i64 1] 28)) (.cells #[.int .i64 0] 3))
          simpa using this
        · have := blk_new ((w4.alloc (.cells #[.int .i64 1] 28)).alloc (.cells #[.int .i64 0] 3)) (.cells #[.int .i64 0] 3)
          simpa using this
      clear HQ4
      revert HQ
      generalize ((w4.alloc _).alloc _).alloc _ = w5
      intro HQ
      have HN : Hid (b2 ≠ w4.heap.size + 1 + 1 ∧ b5 ≠ w4.heap.size + 1 + 1 ∧ w4.heap.size ≠ w4.heap.size + 1 + 1 ∧ w4.heap.size + 1 ≠ w4.heap.size + 1 + 1 ∧ wA.heap.size ≤ w4.heap.size + 1 + 1 ∧ wA.heap.size ≤ w4.heap.size + 1 ∧ b2 ≠ w4.heap.size + 1 ∧ b5 ≠ w4.heap.size + 1 ∧ w4.heap.size ≠ w4.heap.size + 1) := by
        obtain ⟨-, h1, h2, h3⟩ := HQ.out
        exact ⟨by omega, by omega, by omega, by omega, by omega, by omega, by omega, by omega, by omega⟩
      have HQ5 := (show Hid _ from HQ.out.1)
      clear HQ
      revert HN HQ5
      generalize w4.heap.size + 1 + 1 = b9
      generalize w4.heap.size + 1 = b8
      generalize w4.heap.size = b6
      intro HN HQ5
      clear hmf w4 h80
      go_loopw [11] (fun vi wr => ∃ k o : Nat, vi = .int .i64 k ∧ (k ≤ l.length ∨ k ≤ n) ∧ Hid (QSt wA b2 b5 b6 b8 b9 p (.slice pa l.length cl) l (min k l.length) o wr)) (fun vi _ => l.length + n - (intOf vi).toNat)
      case atStart => exact ⟨0, 0, rfl, .inl (Nat.zero_le _), by rw [Nat.zero_min]; exact HQ5.out⟩
      case round =>
        clear HQ5
        obtain ⟨k, o, rfl, hk, HQ⟩ := hrel
        have c2 := cell_blk HQ.out.qb.hl 0
        have c9 := cell_blk HQ.out.qb.ho 0
        by_cases hkl : k < l.length
        focus
          have hkz : (k : Int) < (l.length : Int) := by omega
          rw [Nat.min_eq_left (Nat.le_of_lt hkl)] at HQ
          have hok : o ≤ k := HQ.out.io
          have hl100 := HL.out.2.1
          have hwk : wrap64 ((k : Int) + 1) = (k : Int) + 1 := by unfold wrap64; omega
          have hsl : ∀ w : World, (Instr.sliceAt 22 (.slice pa l.length cl) (some (.int .i64 o)) (some (.int .i64 ((k : Int) + 1))) none).run Tryz.prog w = .ok (.slice (pa.map (fun x => x.add (o * 5))) (k + 1 - o) (cl - o)) w   := fun w => slice_mid (by have := Hcap.out; omega) (by omega)
          obtain ⟨x, hx⟩ : ∃ x, l[k]? = some x := ⟨_, List.getElem?_eq_getElem hkl⟩
          have Hx := (show Hid (l[k]? = some x) from hx)
          have hof := of_sub (HA.out.2.2.1.on HQ.out.qq.base) Hcap.out hkl hok hx hl100
          have HOF := (show Hid _ from hof)
          obtain ⟨bl, ol, cl', rawl, hpl, hrl, hlt2, -, hSl⟩ := HA.out.2.2.1.range hx
          have HPA : Hid (pa = some ⟨bl, ol, none⟩) := by show _ = _; cases hpl; rfl
          obtain ⟨pv, cv, hrw⟩ := hSl.form
          subst hrw
          have hmx := HL.out.1 x (List.mem_of_getElem? hx)
          have HR : Hid ((∀ w', Below wA.heap.size wA w' → (ldV (.pointer (some ⟨bl, ol + k * 5, none⟩))).run Tryz.prog w' = .ok (.value (.agg (vcs x (.slice pv x.l.length cv)))) w') ∧ (∃ FB, ∀ w', Below wA.heap.size wA w' → SlAt w' FB (.slice pv x.l.length cv) x.l) ∧ mayV x = true ∧ refsV x = [] ∧ Light ((l.take k).drop o)) :=
            ⟨fun w' hb => ld_on hrl hb hlt2, ⟨_, fun w' hb => hSl.on hb⟩, hmx.1, hmx.2, fun y hy => HL.out.1 y (List.mem_of_mem_take (List.mem_of_mem_drop hy))⟩
          clear hof hx hpl hrl hlt2 hSl hmx
          go_wp2_with fail
          refine Calls.mono HOF.out ?_
          rintro e w6 ⟨hb6, hof⟩
          rcases hof with ⟨h0, raw7, rfl, hs7⟩ | ⟨h0, rfl⟩
          rotate_left
          focus
            -- Of says no
            have Hm := (show Hid _ from ofE_no HL.out Hx.out h0)
            have HQ6 : Hid (QSt wA b2 b5 b6 b8 b9 p (.slice pa l.length cl) l k o (w6.alloc (.cells zV 34))) := (HQ.out.below hb6).below ((Below.refl _ _).alloc (Nat.le_refl _) _)
            clear HOF hb6 c2 c9
            simp only [zV]
            generalize ofE _ = E7 at *
            go_upto_region 17 with fail
            revert HQ6
            simp only [zV]
            generalize w6.alloc _ = wq
            intro HQ6
            obtain ⟨xk, xn, xs, xl, xr⟩ := x
            obtain ⟨rawl, hraw⟩ : ∃ r, r = Value.slice pv xl.length cv := ⟨_, rfl⟩
            simp only [vcs] at HR
            rw [← hraw] at HR
            have HB6 : Hid (Below wA.heap.size wA wq) := HQ6.out.qq.base
            have hpa := HPA.out
            obtain ⟨FB, hSF⟩ : ∃ FB : Nat → Prop, ∀ w', Below wA.heap.size wA w' → SlAt w' FB rawl xl := HR.out.2.1
            have HSF := (show Hid _ from hSF)
            clear hSF
            refine wp_region_growK 6 (by kernel_rfl) rfl (by kernel_rfl) (by kernel_rfl) (fun a b => Below a.heap.size a b) (QuR17 p k cl bl ol l.length pa xk xn xr xs rawl) (fun w' => Below wq.heap.size wq w') (fun j v w w' _ h => h) below_drew (fun a b h hR => h.trans (hR.mono h.size)) ?_ ?_ ?_
            · intro j q g b hq hgd
              have hj : j < 6 := (List.getElem?_eq_some_iff.1 hq).1
              match j, hj with
              | 0, _ => cases hq; cases hgd
              | 1, _ => cases hq; cases hgd
              | 2, _ => cases hq; cases hgd
              | 3, _ => cases hq; cases hgd
              | 4, _ => cases hq; cases hgd
              | 5, _ => cases hq; cases hgd
            · intro j q a w7 hq hC hG
              have hj : j < 6 := (List.getElem?_eq_some_iff.1 hq).1
              match j, hj with
              | 0, _ =>
                cases hq
                have h5 : a.tmps.getD 5 undef = .pointer (some ⟨b5, 0, none⟩) := hG.fr 5 (by simp)
                have h5' : a.tmps[5]?.getD undef = .pointer (some ⟨b5, 0, none⟩) := by rw [← h5]; simp [Array.getD_eq_getD_getElem?]
                have c3 : w7.cell? ⟨b5, 0, none⟩ = some (.pointer (some ⟨p, 0, none⟩)) := by rw [cell_blk (below_blk hC HQ6.out.qb.hw)]; rfl
                unfold Oper.wp
                simp [go_sem, Act.eval, h5', c3]
                exact ⟨_, rfl, Below.refl _ _, rfl⟩
              | 1, _ =>
                cases hq
                have h6 : a.tmps.getD 6 undef = .pointer (some ⟨b6, 0, none⟩) := hG.fr 6 (by simp)
                have h6' : a.tmps[6]?.getD undef = .pointer (some ⟨b6, 0, none⟩) := by rw [← h6]; simp [Array.getD_eq_getD_getElem?]
                have c3 : w7.cell? ⟨b6, 0, none⟩ = some (.int .i64 1) := by rw [cell_blk (below_blk hC HQ6.out.qb.hq)]; rfl
                unfold Oper.wp
                simp [go_sem, Act.eval, h6', c3]
                exact ⟨_, rfl, Below.refl _ _, rfl⟩
              | 2, _ =>
                cases hq
                have h2 : a.tmps.getD 2 undef = .pointer (some ⟨b2, 0, none⟩) := hG.fr 2 (by simp)
                have h2' : a.tmps[2]?.getD undef = .pointer (some ⟨b2, 0, none⟩) := by rw [← h2]; simp [Array.getD_eq_getD_getElem?]
                have c3 : w7.cell? ⟨b2, 0, none⟩ = some (.slice pa l.length cl) := by rw [cell_blk (below_blk hC HQ6.out.qb.hl)]; rfl
                unfold Oper.wp
                simp [go_sem, Act.eval, h2', c3]
                exact ⟨_, rfl, Below.refl _ _, rfl⟩
              | 3, _ =>
                cases hq
                have h11 : a.tmps.getD 11 undef = .int .i64 k := hG.fr 11 (by simp)
                have h11' : a.tmps[11]?.getD undef = .int .i64 k := by rw [← h11]; simp [Array.getD_eq_getD_getElem?]
                unfold Oper.wp
                simp [go_sem, Act.eval, h11']
                exact ⟨_, rfl, Below.refl _ _, rfl⟩
              | 4, _ =>
                cases hq
                have h64 : a.tmps.getD 64 undef = .slice pa l.length cl := hG.dep ⟨2, .data⟩ (by simp) rfl _ rfl
                have h64' : a.tmps[64]?.getD undef = .slice pa l.length cl := by rw [← h64]; simp [Array.getD_eq_getD_getElem?]
                have h65 : a.tmps.getD 65 undef = .int .i64 k := hG.dep ⟨3, .data⟩ (by simp) rfl _ rfl
                have h65' : a.tmps[65]?.getD undef = .int .i64 k := by rw [← h65]; simp [Array.getD_eq_getD_getElem?]
                unfold Oper.wp
                simp [go_sem, Act.eval, h64', h65', hkz, hpa]
                exact ⟨_, rfl, Below.refl _ _, rfl⟩
              | 5, _ =>
                cases hq
                have h66 : a.tmps.getD 66 undef = .pointer (some ⟨bl, ol + k * 5, none⟩) := hG.dep ⟨4, .data⟩ (by simp) rfl _ rfl
                refine step_g (.agg #[.int .u8 xk, .int .i64 xn, .string xs, rawl, .int .i64 xr]) ?_ (Below.refl _ _) rfl
                rw [execOp_ldQuR1767]
                show (ldV (a.tmps.getD 66 undef)).run _ _ = _
                rw [h66]
                exact HR.out.1 _ (HB6.out.trans (hC.mono HB6.out.size))
            · intro a w7 hC hdf hsz hfr hphi
              have e0 : a.tmps.getD 62 undef = .pointer (some ⟨p, 0, none⟩) := hphi 0 _ rfl
              have e1 : a.tmps.getD 63 undef = .int .i64 1 := hphi 1 _ rfl
              have e2 : a.tmps.getD 64 undef = .slice pa l.length cl := hphi 2 _ rfl
              have e3 : a.tmps.getD 65 undef = .int .i64 k := hphi 3 _ rfl
              have e4 : a.tmps.getD 66 undef = .pointer (some ⟨bl, ol + k * 5, none⟩) := hphi 4 _ rfl
              have e5 : a.tmps.getD 67 undef = .agg #[.int .u8 xk, .int .i64 xn, .string xs, rawl, .int .i64 xr] := hphi 5 _ rfl
              have ha := act_of hdf hsz hfr
              simp only [List.take_succ_cons, List.take_zero, List.filterMap_cons, List.filterMap_nil, List.foldl_cons, List.foldl_nil, List.setIfInBounds_toArray, List.set_cons_zero, List.set_cons_succ, e0, e1, e2, e3, e4, e5] at ha
              clear hdf hsz hfr hphi e0 e1 e2 e3 e4 e5
              subst ha
              have HQ7 : Hid (QSt wA b2 b5 b6 b8 b9 p (.slice pa l.length cl) l k o w7) := HQ6.out.below hC
              have HG := (show Hid _ from give_Q HQ7.out.qq HR.out.2.2.2.2 (x := ⟨xk, xn, xs, xl, xr⟩) (pv := pv) (n := xl.length) (c := cv) (by rw [← hraw]; exact HSF.out w7 HQ7.out.qq.base) HR.out.2.2.1 HR.out.2.2.2.1)
              simp only [vcs] at HG
              rw [← hraw] at HG
              clear hC HQ6 HB6 hpa
              refine ⟨rfl, ?_⟩
              unfold Oper.wp
              simp [go_sem, callFunc, Act.eval, Tryz.func14]
              refine Calls.mono HG.out ?_
              rintro e w8 ⟨c8, vs', rfl, hq8, hsame8, hcase⟩
              rcases hcase with ⟨hm, -⟩ | ⟨-, rfl, rfl⟩
              · rw [Hm.out] at hm
                cases hm
              have HB8 : Hid (Below w.heap.size w w8) := by rw [HW.out]; exact HA.out.1.trans (hq8.base.mono (Nat.le_of_lt Hb2.out))
              clear hq8 hsame8 HG HQ7 HR HQ
              refine ⟨rfl, ?_⟩
              unfold Oper.wp
              simp [execOp, go_sem, Act.eval]
              refine ⟨rfl, ?_⟩
              unfold Oper.wp
              simp [execOp, go_sem, Act.eval]
              refine ⟨rfl, ?_⟩
              unfold Oper.wp
              simp [go_sem, callFunc, Tryz.func8]
              refine (awake08_W w8).mono ?_
              rintro e w9 ⟨rfl, hb9⟩
              have HB9 : Hid (Below w.heap.size w w9) := HB8.out.trans (hb9.mono HB8.out.size)
              clear hb9 HB8
              refine ⟨rfl, ?_⟩
              unfold Oper.wp
              simp [execOp, go_sem, Act.eval]
              refine ⟨rfl, ?_⟩
              unfold Oper.wp
              simp [execOp, go_sem, Act.eval, wpTailG]
              refine ‹∀ (a : Act) (w : World), Code.wp Tryz.prog _ _ a w → _› _ _ ?_
              go_wp2_with fail
              go_ret
              exact ⟨rfl, HB9.out⟩
          focus
            -- Of says yes
            obtain ⟨pv7, cv7, rfl⟩ := hs7.form
            have Hm := (show Hid _ from ofE_yes HL.out Hx.out h0)
            have HQ6 : Hid (QSt wA b2 b5 b6 b8 b9 p (.slice pa l.length cl) l k o (w6.alloc (.cells #[.int .u8 3, .int .i64 0, .string ⟨#[]⟩, .slice pv7 ((l.take k).drop o ++ [x]).length cv7, .int .i64 0] 34))) := (HQ.out.below hb6).below ((Below.refl _ _).alloc (Nat.le_refl _) _)
            clear HOF hb6 hs7 c2 c9
            simp only [vcs, listV]
            obtain ⟨m7, hm7⟩ : ∃ m, m = ((l.take k).drop o ++ [x]).length := ⟨_, rfl⟩
            rw [← hm7] at HQ6 ⊢
            clear hm7
            go_upto_region 18 with fail
            revert HQ6
            generalize w6.alloc _ = wq
            intro HQ6
            obtain ⟨xk, xn, xs, xl, xr⟩ := x
            obtain ⟨rawl, hraw⟩ : ∃ r, r = Value.slice pv xl.length cv := ⟨_, rfl⟩
            simp only [vcs] at HR
            rw [← hraw] at HR
            have HB6 : Hid (Below wA.heap.size wA wq) := HQ6.out.qq.base
            have hpa := HPA.out
            obtain ⟨FB, hSF⟩ : ∃ FB : Nat → Prop, ∀ w', Below wA.heap.size wA w' → SlAt w' FB rawl xl := HR.out.2.1
            have HSF := (show Hid _ from hSF)
            clear hSF
            refine wp_region_growK 6 (by kernel_rfl) rfl (by kernel_rfl) (by kernel_rfl) (fun a b => Below a.heap.size a b) (QuR18 p k cl bl ol l.length pa xk xn xr xs rawl) (fun w' => Below wq.heap.size wq w') (fun j v w w' _ h => h) below_drew (fun a b h hR => h.trans (hR.mono h.size)) ?_ ?_ ?_
            · intro j q g b hq hgd
              have hj : j < 6 := (List.getElem?_eq_some_iff.1 hq).1
              match j, hj with
              | 0, _ => cases hq; cases hgd
              | 1, _ => cases hq; cases hgd
              | 2, _ => cases hq; cases hgd
              | 3, _ => cases hq; cases hgd
              | 4, _ => cases hq; cases hgd
              | 5, _ => cases hq; cases hgd
            · intro j q a w7 hq hC hG
              have hj : j < 6 := (List.getElem?_eq_some_iff.1 hq).1
              match j, hj with
              | 0, _ =>
                cases hq
                have h5 : a.tmps.getD 5 undef = .pointer (some ⟨b5, 0, none⟩) := hG.fr 5 (by simp)
                have h5' : a.tmps[5]?.getD undef = .pointer (some ⟨b5, 0, none⟩) := by rw [← h5]; simp [Array.getD_eq_getD_getElem?]
                have c3 : w7.cell? ⟨b5, 0, none⟩ = some (.pointer (some ⟨p, 0, none⟩)) := by rw [cell_blk (below_blk hC HQ6.out.qb.hw)]; rfl
                unfold Oper.wp
                simp [go_sem, Act.eval, h5', c3]
                exact ⟨_, rfl, Below.refl _ _, rfl⟩
              | 1, _ =>
                cases hq
                have h6 : a.tmps.getD 6 undef = .pointer (some ⟨b6, 0, none⟩) := hG.fr 6 (by simp)
                have h6' : a.tmps[6]?.getD undef = .pointer (some ⟨b6, 0, none⟩) := by rw [← h6]; simp [Array.getD_eq_getD_getElem?]
                have c3 : w7.cell? ⟨b6, 0, none⟩ = some (.int .i64 1) := by rw [cell_blk (below_blk hC HQ6.out.qb.hq)]; rfl
                unfold Oper.wp
                simp [go_sem, Act.eval, h6', c3]
                exact ⟨_, rfl, Below.refl _ _, rfl⟩
              | 2, _ =>
                cases hq
                have h2 : a.tmps.getD 2 undef = .pointer (some ⟨b2, 0, none⟩) := hG.fr 2 (by simp)
                have h2' : a.tmps[2]?.getD undef = .pointer (some ⟨b2, 0, none⟩) := by rw [← h2]; simp [Array.getD_eq_getD_getElem?]
                have c3 : w7.cell? ⟨b2, 0, none⟩ = some (.slice pa l.length cl) := by rw [cell_blk (below_blk hC HQ6.out.qb.hl)]; rfl
                unfold Oper.wp
                simp [go_sem, Act.eval, h2', c3]
                exact ⟨_, rfl, Below.refl _ _, rfl⟩
              | 3, _ =>
                cases hq
                have h11 : a.tmps.getD 11 undef = .int .i64 k := hG.fr 11 (by simp)
                have h11' : a.tmps[11]?.getD undef = .int .i64 k := by rw [← h11]; simp [Array.getD_eq_getD_getElem?]
                unfold Oper.wp
                simp [go_sem, Act.eval, h11']
                exact ⟨_, rfl, Below.refl _ _, rfl⟩
              | 4, _ =>
                cases hq
                have h75 : a.tmps.getD 75 undef = .slice pa l.length cl := hG.dep ⟨2, .data⟩ (by simp) rfl _ rfl
                have h75' : a.tmps[75]?.getD undef = .slice pa l.length cl := by rw [← h75]; simp [Array.getD_eq_getD_getElem?]
                have h76 : a.tmps.getD 76 undef = .int .i64 k := hG.dep ⟨3, .data⟩ (by simp) rfl _ rfl
                have h76' : a.tmps[76]?.getD undef = .int .i64 k := by rw [← h76]; simp [Array.getD_eq_getD_getElem?]
                unfold Oper.wp
                simp [go_sem, Act.eval, h75', h76', hkz, hpa]
                exact ⟨_, rfl, Below.refl _ _, rfl⟩
              | 5, _ =>
                cases hq
                have h77 : a.tmps.getD 77 undef = .pointer (some ⟨bl, ol + k * 5, none⟩) := hG.dep ⟨4, .data⟩ (by simp) rfl _ rfl
                refine step_g (.agg #[.int .u8 xk, .int .i64 xn, .string xs, rawl, .int .i64 xr]) ?_ (Below.refl _ _) rfl
                rw [execOp_ldQuR1878]
                show (ldV (a.tmps.getD 77 undef)).run _ _ = _
                rw [h77]
                exact HR.out.1 _ (HB6.out.trans (hC.mono HB6.out.size))
            intro a w7 hC hdf hsz hfr hphi
            have e0 : a.tmps.getD 73 undef = .pointer (some ⟨p, 0, none⟩) := hphi 0 _ rfl
            have e1 : a.tmps.getD 74 undef = .int .i64 1 := hphi 1 _ rfl
            have e2 : a.tmps.getD 75 undef = .slice pa l.length cl := hphi 2 _ rfl
            have e3 : a.tmps.getD 76 undef = .int .i64 k := hphi 3 _ rfl
            have e4 : a.tmps.getD 77 undef = .pointer (some ⟨bl, ol + k * 5, none⟩) := hphi 4 _ rfl
            have e5 : a.tmps.getD 78 undef = .agg #[.int .u8 xk, .int .i64 xn, .string xs, rawl, .int .i64 xr] := hphi 5 _ rfl
            have ha := act_of hdf hsz hfr
            simp only [List.take_succ_cons, List.take_zero, List.filterMap_cons, List.filterMap_nil, List.foldl_cons, List.foldl_nil, List.setIfInBounds_toArray, List.set_cons_zero, List.set_cons_succ, e0, e1, e2, e3, e4, e5] at ha
            clear hdf hsz hfr hphi e0 e1 e2 e3 e4 e5
            subst ha
            have HQ7 : Hid (QSt wA b2 b5 b6 b8 b9 p (.slice pa l.length cl) l k o w7) := HQ6.out.below hC
            have HG := (show Hid _ from give_Q HQ7.out.qq HR.out.2.2.2.2 (x := ⟨xk, xn, xs, xl, xr⟩) (pv := pv) (n := xl.length) (c := cv) (by rw [← hraw]; exact HSF.out w7 HQ7.out.qq.base) HR.out.2.2.1 HR.out.2.2.2.1)
            simp only [vcs] at HG
            rw [← hraw] at HG
            clear hC HQ6 HB6 hpa
            refine ⟨rfl, ?_⟩
            unfold Oper.wp
            simp [go_sem, callFunc, Act.eval, Tryz.func14]
            refine Calls.mono HG.out ?_
            rintro e w8 ⟨c8, vs', rfl, hq8, hsame8, hcase⟩
            rcases hcase with ⟨-, rfl, rfl⟩ | ⟨hm, -⟩
            rotate_left
            · rw [Hm.out] at hm
              cases hm
            have HQ8 : Hid (QAt wA p (QBs b2 b5 b6 b8 b9) ((l.take k).drop o ++ [⟨xk, xn, xs, xl, xr⟩]) w8 ∧ QBx b2 b5 b6 b8 b9 p (.slice pa l.length cl) k o w8) := ⟨hq8, HQ7.out.qb.same hsame8⟩
            clear hq8 hsame8 HG HQ7 HR HQ
            have c8 := cell_blk HQ8.out.2.hi 0
            have f8 := frozen_blk HQ8.out.2.hi 0
            refine ⟨rfl, ?_⟩
            unfold Oper.wp
            simp [execOp, go_sem, Act.eval, wpTailG]
            refine ‹∀ (a : Act) (w : World), Code.wp Tryz.prog _ _ a w → _› _ _ ?_
            go_upto_region 21 with fail
            have HQ9 : Hid (QSt wA b2 b5 b6 b8 b9 p (.slice pa l.length cl) l (min (k + 1) l.length) o (w8.setCell ⟨b8, 0, none⟩ (.int .i64 ((k : Int) + 1)))) := QSt.more HQ8.out.1 HQ8.out.2 Hx.out hkl hok HN.out.2.2.2.2.2.2.1 HN.out.2.2.2.2.2.2.2.1 HN.out.2.2.2.2.2.2.2.2 (Ne.symm HN.out.2.2.2.1) HN.out.2.2.2.2.2.1
            have Hor : Hid (k < l.length ∨ k < n) := .inl hkl
            clear HQ8 c8 f8 hraw HSF Hm h0 Hx hsl
            revert HQ9
            generalize World.setCell _ _ _ = w9
            intro HQ9
        rotate_left
        by_cases hkn : k < n
        focus
          have hkz : ¬ (k : Int) < (l.length : Int) := by omega
          have hkn2 : (k : Int) < (n : Int) := by omega
          have hwk : wrap64 ((k : Int) + 1) = (k : Int) + 1 := by unfold wrap64; omega
          have HQ9 : Hid (QSt wA b2 b5 b6 b8 b9 p (.slice pa l.length cl) l (min (k + 1) l.length) o wr) := by
            rw [show min (k + 1) l.length = min k l.length by omega]
            exact HQ.out
          have Hor : Hid (k < l.length ∨ k < n) := .inr hkn
          clear HQ
          go_upto_region 21 with fail
          clear c2 c9 hkz hkn2 hkn
          revert HQ9
          generalize wr = w9
          intro HQ9
        rotate_left
        focus
          have hkz : ¬ (k : Int) < (l.length : Int) := by omega
          have hkn2 : ¬ (k : Int) < (n : Int) := by omega
          rw [Nat.min_eq_right (by omega)] at HQ
          have hol := HQ.out.io
          have hl100 := HL.out.2.1
          have hlen : ((((l.take l.length).drop o).length : Nat) : Int) = (l.length : Int) - (o : Int) := by rw [List.length_drop, List.length_take]; omega
          have hws : wrap64 ((l.length : Int) - (o : Int)) = (l.length : Int) - (o : Int) := by unfold wrap64; omega
          have HLn := (show Hid _ from len_Q HQ.out.qq (fun y hy => HL.out.1 y (List.mem_of_mem_take (List.mem_of_mem_drop hy))))
          rw [hlen] at HLn
          have c5 := cell_blk HQ.out.qb.hw 0
          have c6 := cell_blk HQ.out.qb.hq 0
          clear hlen
          go_wp2_with fail
          refine Calls.mono HLn.out ?_
          rintro e w6 ⟨rfl, hb6⟩
          have HQ6 : Hid (QSt wA b2 b5 b6 b8 b9 p (.slice pa l.length cl) l l.length o w6) := HQ.out.below hb6
          clear HLn HQ hb6 c2 c9 c5 c6
          have c8 := cell_blk HQ6.out.qb.hi 0
          have c9 := cell_blk HQ6.out.qb.ho 0
          have HCl := (show Hid _ from clo_W HA.out.2.2.1 HL.out.1 hl100 HN.out.1 HN.out.2.1 HN.out.2.2.1 HN.out.2.2.2.1 HN.out.2.2.2.2.1 HQ6.out ((l.length : Int) - (o : Int)))
          go_wp2_with fail
          refine Calls.mono HCl.out ?_
          rintro e w7 ⟨rfl, o', hq7, ho'⟩
          obtain rfl := ho' rfl
          have HQ7 := (show Hid _ from hq7)
          clear hq7 HQ6 HCl c8 c9
          have c8 := cell_blk HQ7.out.qb.hi 0
          have c9 := cell_blk HQ7.out.qb.ho 0
          have HB7 : Hid (Below w.heap.size w w7) := by rw [HW.out]; exact HA.out.1.trans (HQ7.out.qq.base.mono (Nat.le_of_lt Hb2.out))
          go_wp2_with fail
          refine (awake08_W w7).mono ?_
          rintro e w8 ⟨rfl, hb8⟩
          have HB8 : Hid (Below w.heap.size w w8) := HB7.out.trans (hb8.mono HB7.out.size)
          clear hb8 HB7 HQ7 c8 c9
          go_wp2_with fail
          go_ret
          exact ⟨rfl, HB8.out⟩
        all_goals
          by_cases hkn : k < n
          · have hkn2 : (k : Int) < (n : Int) := by omega
            obtain ⟨m, hmk⟩ : ∃ m, ns[k]? = some m := ⟨_, List.getElem?_eq_getElem (by have := Hn.out; omega)⟩
            have hB9 : Below w.heap.size w w9 := by rw [HW.out]; exact HA.out.1.trans (HQ9.out.qq.base.mono (Nat.le_of_lt Hb2.out))
            obtain ⟨bq, oq, hqa, hcy⟩ : ∃ bq oq, qa = some ⟨bq, oq, none⟩ ∧ w9.cell? ⟨bq, oq + k, none⟩ = some (.int .i64 m) := by
              rcases HA.out.2.2.2 with rfl | ⟨bq, oq, h1, h2, h3⟩
              · simp at hmk
              · exact ⟨bq, oq, h1, (hB9.cell (p := ⟨bq, oq + k, none⟩) h2).trans (h3 k m hmk)⟩
            have HCl := (show Hid _ from clo_W HA.out.2.2.1 HL.out.1 HL.out.2.1 HN.out.1 HN.out.2.1 HN.out.2.2.1 HN.out.2.2.2.1 HN.out.2.2.2.2.1 HQ9.out m)
            clear hB9 hmk HQ9
            go_wp2_with fail
            refine Calls.mono HCl.out ?_
            rintro e w10 ⟨rfl, o', hq10, -⟩
            have HQ10 := (show Hid _ from hq10)
            clear hq10 HCl hcy hqa
            go_wp2_with fail
            go_roundw
            case rel => exact ⟨k + 1, o', by go_num, .inr (by omega), HQ10.out⟩
            case measure => exact measQ (by omega)
          · have hkn2 : ¬ (k : Int) < (n : Int) := by omega
            have hle : k + 1 ≤ l.length := by have := Hor.out; omega
            go_wp2_with fail
            go_roundw
            case rel => exact ⟨k + 1, o, by go_num, .inl hle, HQ9.out⟩
            case measure => exact measQ (by omega)
end Go.Proofs.YtcoiccbmcjdheaaGreat
/- Arguments of a law that are values or slices of values: what the walk is given. -/
namespace Go.Proofs.YtcoiccbmcjdheaaGreat
open Go.ChangeShapes Go.WideShapes Go.ChangeAt Go.RowKit

theorem cellsV : Tryz.prog.cellsOf 34 = 5 := by kernel_rfl
theorem cellsVKind : Tryz.prog.cellsOf 32 = 1 := by kernel_rfl
theorem cellsI64 : Tryz.prog.cellsOf 2 = 1 := by kernel_rfl
theorem cellsStr : Tryz.prog.cellsOf 9 = 1 := by kernel_rfl
theorem cellsLV : Tryz.prog.cellsOf 22 = 1 := by kernel_rfl
theorem cellsRef : Tryz.prog.cellsOf 28 = 1 := by kernel_rfl
theorem addr_add (b o i : Nat) : (⟨b, o, none⟩ : Addr).add i = ⟨b, o + i, none⟩ := by unfold Addr.add; split <;> simp_all

set_option maxRecDepth 100000 in
theorem trod_vals {H : Type} {enc : TypeId × Value → H} {W : World} {base : Nat} {held : Bool} {spare : Nat → Bool} : ∀ fuel : Nat,
    (∀ cs x, DataW.trod enc Tryz.prog W base spare held fuel 22 cs = some x → ∃ s l, cs = [s] ∧ SlAt W (fun b => b < W.heap.size) s l ∧ (l.length : Int) ≤ maxLen ∧ ∃ pa c, s = .slice pa l.length c ∧ l.length ≤ c) ∧
    (∀ cs x, DataW.trod enc Tryz.prog W base spare held fuel 34 cs = some x → ∃ v raw, cs = (vcs v raw).toList ∧ SlAt W (fun b => b < W.heap.size) raw v.l) := by
  intro fuel
  induction fuel with
  | zero => exact ⟨fun cs x h => by simp [DataW.trod] at h, fun cs x h => by simp [DataW.trod] at h⟩
  | succ n ih =>
    refine ⟨fun cs x h => ?_, fun cs x h => ?_⟩
    · rcases DataW.trod_slice Tryz.underlying22 h with ⟨rfl, -⟩ | ⟨a, len, cap, elems, rest, m, hm, rfl, rfl, hb, hl, hc, hlen, hel, -, -⟩
      · exact ⟨_, [], rfl, SlAt.nil _ _ _ _, by simp [maxLen], _, _, rfl, Nat.le_refl _⟩
      · cases hm
        have each : ∀ i, i < len → ∃ v raw, SlAt W (fun b => b < W.heap.size) raw v.l ∧ ∀ k, k < 5 → W.cell? ((a.add (i * 5)).add k) = (vcs v raw)[k]? := fun i hi => by
          have h1 := hel i hi
          rw [List.getElem?_eq_getElem (by omega), Option.bind_eq_some_iff] at h1
          obtain ⟨cs', h2, h3⟩ := h1
          obtain ⟨v, raw, rfl, hS⟩ := ih.2 _ _ h3
          rw [cellsV] at h2
          obtain ⟨-, -, h4⟩ := World.cells?_some h2
          exact ⟨v, raw, hS, fun k hk => (h4 k hk).trans (by simp)⟩
        by_cases h0 : len = 0
        · subst h0
          exact ⟨_, [], rfl, SlAt.nil _ _ _ _, by simp, _, _, rfl, Nat.zero_le _⟩
        obtain ⟨b, o, rfl⟩ : ∃ b o, a = ⟨b, o, none⟩ := by
          obtain ⟨v, raw, -, h1⟩ := each 0 (by omega)
          have c0 : W.cell? ((a.add (0 * 5)).add 0) = some (.int .u8 v.kind) := h1 0 (by omega)
          obtain ⟨b, o, sp⟩ := a
          have hs : sp = none := by simpa [Addr.add] using World.cell?_spot c0
          exact ⟨b, o, by rw [hs]⟩
        have key : ∀ i, ∃ p : Val × Value, i < len → SlAt W (fun b => b < W.heap.size) p.2 p.1.l ∧ ∀ k, k < 5 → W.cell? ⟨b, o + 5 * i + k, none⟩ = (vcs p.1 p.2)[k]? := fun i => by
          by_cases hi : i < len
          · obtain ⟨v, raw, h1, h2⟩ := each i hi
            refine ⟨(v, raw), fun _ => ⟨h1, fun k hk => ?_⟩⟩
            have := h2 k hk
            rw [addr_add, addr_add, Nat.mul_comm i 5] at this
            exact this
          · exact ⟨(⟨0, 0, ⟨#[]⟩, [], 0⟩, undef), fun h => absurd h hi⟩
        obtain ⟨f, hf⟩ := Classical.axiomOfChoice key
        have hS : SlAt W (fun b => b < W.heap.size) (.slice (some ⟨b, o, none⟩) ((List.range len).map fun i => (f i).1).length cap) ((List.range len).map fun i => (f i).1) := by
          refine SlAt.mk _ _ _ (fun i => (f i).2) (fun i v hv => ?_) (fun i v hv => ?_)
          · have hi := (List.getElem?_eq_some_iff.1 hv).1
            simp only [List.length_map, List.length_range] at hi
            have hv' : v = (f i).1 := by
              simp [List.getElem?_map, List.getElem?_range hi] at hv
              exact hv.symm
            subst hv'
            obtain ⟨h1, h2⟩ := hf i hi
            have c0 := h2 0 (by omega)
            exact ⟨b, o, rfl, World.block_lt_of_cell? _ ⟨b, o + 5 * i + 0, none⟩ c0, c0, h2 1 (by omega), h2 2 (by omega), h2 3 (by omega), h2 4 (by omega)⟩
          · have hi := (List.getElem?_eq_some_iff.1 hv).1
            simp only [List.length_map, List.length_range] at hi
            have hv' : v = (f i).1 := by
              simp [List.getElem?_map, List.getElem?_range hi] at hv
              exact hv.symm
            subst hv'
            exact (hf i hi).1
        have e : ((List.range len).map fun i => (f i).1).length = len := by simp
        rw [e] at hS
        exact ⟨.slice (some ⟨b, o, none⟩) len cap, _, rfl, hS, by rw [e]; omega, _, _, by rw [e], by rw [e]; exact hl⟩
    · obtain ⟨xs, m, hm, rfl, hlen, hxs, hfs⟩ := DataW.trod_struct Tryz.underlying34 h
      cases hm
      rw [cellsV] at hlen
      match cs, hlen with
      | [c0, c1, c2, c3, c4], _ =>
        have hx : xs.length = 5 := hxs
        have g0 : DataW.trod enc Tryz.prog W base spare held n 32 [c0] = some (xs[0]'(by omega)) := by
          have g := hfs 0 _ rfl
          rw [List.getElem?_eq_getElem (by omega)] at g
          rw [← g]
          show _ = DataW.trod enc Tryz.prog W base spare held n 32 ([c0, c1, c2, c3, c4].take (Tryz.prog.cellsOf 32))
          rw [cellsVKind]
          rfl
        have g1 : DataW.trod enc Tryz.prog W base spare held n 2 [c1] = some (xs[1]'(by omega)) := by
          have g := hfs 1 _ rfl
          rw [List.getElem?_eq_getElem (by omega)] at g
          rw [← g]
          show _ = DataW.trod enc Tryz.prog W base spare held n 2 ([c1, c2, c3, c4].take (Tryz.prog.cellsOf 2))
          rw [cellsI64]
          rfl
        have g2 : DataW.trod enc Tryz.prog W base spare held n 9 [c2] = some (xs[2]'(by omega)) := by
          have g := hfs 2 _ rfl
          rw [List.getElem?_eq_getElem (by omega)] at g
          rw [← g]
          show _ = DataW.trod enc Tryz.prog W base spare held n 9 ([c2, c3, c4].take (Tryz.prog.cellsOf 9))
          rw [cellsStr]
          rfl
        have g3 : DataW.trod enc Tryz.prog W base spare held n 22 [c3] = some (xs[3]'(by omega)) := by
          have g := hfs 3 _ rfl
          rw [List.getElem?_eq_getElem (by omega)] at g
          rw [← g]
          show _ = DataW.trod enc Tryz.prog W base spare held n 22 ([c3, c4].take (Tryz.prog.cellsOf 22))
          rw [cellsLV]
          rfl
        have g4 : DataW.trod enc Tryz.prog W base spare held n 28 [c4] = some (xs[4]'(by omega)) := by
          have g := hfs 4 _ rfl
          rw [List.getElem?_eq_getElem (by omega)] at g
          rw [← g]
          show _ = DataW.trod enc Tryz.prog W base spare held n 28 ([c4].take (Tryz.prog.cellsOf 28))
          rw [cellsRef]
          rfl
        obtain ⟨k, e0, -, -⟩ := DataW.trod_int Tryz.underlying32 g0
        obtain ⟨m, e1, -, -⟩ := DataW.trod_int Tryz.underlying2 g1
        obtain ⟨s, e2, -, -⟩ := DataW.trod_string Tryz.underlying9 g2
        obtain ⟨raw, l, e3, hS, -, -⟩ := ih.1 _ _ g3
        obtain ⟨r, e4, -, -⟩ := DataW.trod_int Tryz.underlying28 g4
        cases e0; cases e1; cases e2; cases e3; cases e4
        exact ⟨⟨k, m, s, l, r⟩, _, rfl, hS⟩

set_option maxRecDepth 100000 in
/-- An argument that is a slice of values. -/
theorem open_vals {H : Type} {enc : TypeId × Value → H} {W : World} {base : Nat} {r : Reach} {b0 : Nat} {v : Value} (hval : Value.okWide Tryz.prog W r b0 22 v) {d : DataW H} {ps : List MemPlace} (hd : DataW.Trod enc Tryz.prog W base (fun _ => true) true 22 v d ps) :
    ∃ l pa c, v = .slice pa l.length c ∧ l.length ≤ c ∧ SlAt W (fun b => b < W.heap.size) (.slice pa l.length c) l ∧ (l.length : Int) ≤ maxLen := by
  obtain ⟨fuel, hf⟩ := hd
  obtain ⟨a0, len, cap, rfl⟩ := okWide_slice Tryz.underlying22 hval
  obtain ⟨s, l, h1, h2, h3, pa, c, e, h4⟩ := (trod_vals fuel).1 _ _ hf
  have h5 : Value.slice a0 len cap = s := by simpa [Value.cells] using h1
  subst h5
  rw [e] at h2
  exact ⟨l, pa, c, e, h4, h2, h3⟩
set_option maxRecDepth 100000 in
/-- An argument that is a value. -/
theorem open_val {H : Type} {enc : TypeId × Value → H} {W : World} {base : Nat} {r : Reach} {b0 : Nat} {v : Value} (hval : Value.okWide Tryz.prog W r b0 34 v) {d : DataW H} {ps : List MemPlace} (hd : DataW.Trod enc Tryz.prog W base (fun _ => true) true 34 v d ps) :
    ∃ x raw, v = .agg (vcs x raw) ∧ SlAt W (fun b => b < W.heap.size) raw x.l := by
  obtain ⟨fuel, hf⟩ := hd
  simp only [Value.okWide, Tryz.underlying34] at hval
  obtain ⟨xs, rfl, hn, _⟩ := hval
  obtain ⟨x, raw, h1, h2⟩ := (trod_vals fuel).2 _ _ hf
  exact ⟨x, raw, congrArg Value.agg (Array.toList_inj.1 h1), h2⟩
end Go.Proofs.YtcoiccbmcjdheaaGreat
