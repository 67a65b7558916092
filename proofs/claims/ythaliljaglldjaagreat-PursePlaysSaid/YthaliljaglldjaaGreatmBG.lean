/- A part of the proof, several texts in one: QtC, CheckN, PpB, Del, DelW. -/
import Derived.Test.YthaliljaglldjaaGreatmBF
import Derived.Test.YthaliljaglldjaaGreatmAO
import Derived.Test.YthaliljaglldjaaGreatmAQ
import Derived.Test.YthaliljaglldjaaGreatmAE
/- posternref10's Sum and Check. -/
namespace Go.Proofs.YthaliljaglldjaaGreat
open Go.RowKit Go.ChangeMaps Go.MapKept
variable {w:World} {q:Nat} {M:WM} {G:Nat→Prop}
structure SumOk (M:WM):Prop where
 at_:∀ x ∈ M.things,M.at x.1 = some x.2
 pn:∀ x ∈ M.things,x.2.kind = 9→0 ≤ x.2.n∧x.2.n ≤ 9007199254740992
theorem min_add (s n:Int):min (s + n) 9007199254740992 = s + min n (9007199254740992 - s):=by omega
set_option maxHeartbeats 4000000 in
set_option maxRecDepth 20000 in
theorem sumq_W (hR:IsR w q M G) (hN:ROk M) (hS:SumOk M) (r:Int) (hyes:findE M 8 r = 0):Calls Tryz.prog 203 #[.pointer (some ⟨q,0,none⟩),.int .i64 r] w fun e w' =>
 e = .returned (.tuple #[.int .i64 (sumF (M.things.filter (isP r))),.int .i64 (at7 M r).lost,.int .i64 (at7 M r).n,.int .i64 0])∧Below w.heap.size w w':=by
 have HPS:=(show Hid _ from pursesq_W hR hN r hyes)
 have HAt:Hid (∀ w',Below w.heap.size w w'→∀ x,Calls Tryz.prog 47 #[.pointer (some ⟨q,0,none⟩),.int .i64 x] w' fun e w''=>e = .returned (.tuple #[.agg (thc (at7 M x)),.bool (M.at x).isSome])∧Below w'.heap.size w' w''):=fun w' hb x=>at7_W (hR.below hb) hN.len x fun y hy=>(hN.cell y hy).1
 have HO:Hid (∀ x,(thc (at7 M x)).all (·.oneCell') = true):=hN.one
 obtain ⟨L,hL⟩:∃ L,L = M.things.filter (isP r):=⟨_,rfl⟩
 have HL:Hid (∀ x ∈ L,at7 M x.1 = x.2∧0 ≤ x.2.n∧x.2.n ≤ 9007199254740992):=by
  intro x hx
  rw [hL] at hx
  obtain ⟨h1,h2⟩:=List.mem_filter.1 hx
  have h3:x.2.kind = 9:=by simp only [isP,Bool.and_eq_true,decide_eq_true_eq] at h2;exact h2.1
  exact ⟨by unfold at7;rw [hS.at_ x h1];rfl,hS.pn x h1 h3⟩
 have hLen:L.length ≤ 100000:=by rw [hL];have:=List.length_filter_le (isP r) M.things;have:=hN.len;omega
 have hP:pursesTo M r M.things.length = L.map (·.1):=by rw [pursesTo_all,hL]
 rw [hP] at HPS
 rw [List.length_map,List.map_map] at HPS
 rw [← hL]
 clear hR hN hS hyes hP hL
 obtain ⟨m,hm⟩:∃ m,m = L.length:=⟨_,rfl⟩
 rw [← hm] at HPS
 have HM:Hid (m = L.length∧m ≤ 100000):=⟨hm,by omega⟩
 clear hm hLen
 go_enter Tryz.func203,Tryz.ntmps203
 go_wp2_with fail
 refine Calls.mono HPS.out ?_
 rintro e w1 ⟨v,rfl,hrow,hb1⟩
 obtain ⟨a,cap,rfl,hcells⟩:=row_slice hrow
 have HC:=(show Hid _ from hcells)
 have HB1:=(show Hid (Below w.heap.size w w1) from hb1)
 clear hrow hcells hb1 HPS
 go_wp2_with fail
 go_loopw [10,11] (fun vh vi wr=>∃ k:Nat,vi = .int .i64 k∧k ≤ m∧vh = .int .i64 (sumF (L.take k))∧Hid (Below w1.heap.size w1 wr)) (fun _ vi _=>m - (intOf vi).toNat)
 case atStart=>exact ⟨0,rfl,Nat.zero_le _,rfl,Below.refl _ _⟩
 case round =>
  obtain ⟨k,rfl,hk,rfl,HBr⟩:=hrel
  have HBw:Hid (Below w.heap.size w wr):=HB1.out.trans (HBr.out.mono HB1.out.size)
  by_cases hkm:k < m
  ·have hkz:(k:Int) < (m:Int):=by omega
   have hk0:(0:Int) ≤ (k:Int):=by omega
   have hwk:wrap64 ((k:Int) + 1) = (k:Int) + 1:=by have:=HM.out.2;unfold wrap64;omega
   obtain ⟨x,hx⟩:∃ x,L[k]? = some x:=⟨_,List.getElem?_eq_getElem (by have:=HM.out.1;omega)⟩
   obtain ⟨hxa,hx0,hx1⟩:=HL.out x (List.mem_of_getElem? hx)
   obtain ⟨g,rfl,hcell⟩:=HC.out k hkm
   have hs0:=sumF_le (L.take k) (fun y hy=>(HL.out y (List.mem_of_mem_take hy)).2.1)
   have Htk:Hid (sumF (L.take (k + 1)) = sumF (L.take k) + min x.2.n (9007199254740992 - sumF (L.take k))):=by
    show _ = _
    rw [List.take_add_one,hx]
    show sumF (L.take k ++ [x]) = _
    rw [sumF_snoc]
   have hcx:wr.cell? ⟨g,k,none⟩ = some (.int .i64 x.1):=by
    rw [List.getElem?_map,hx] at hcell
    exact (HBr.out.cell (p:=⟨g,k,none⟩) (World.block_lt_of_cell? _ _ hcell)).trans hcell
   have HX:=(show Hid _ from HAt.out wr HBw.out x.1)
   have ho:=HO.out x.1
   rw [hxa] at HX ho
   generalize (M.at x.1).isSome = B at HX
   generalize sumF (L.take k) = S at *
   generalize x.1 = x1 at *
   generalize x.2 = t at *
   have hw1:wrap64 (S + t.n) = S + t.n:=by unfold wrap64;omega
   have hmn:Hid (min (S + t.n) 9007199254740992 = S + min t.n (9007199254740992 - S)):=min_add S t.n
   clear hx hcell hxa hs0 hx0 hx1
   go_wp2_with fail
   refine Calls.mono HX.out ?_
   rintro e w2 ⟨rfl,hb2⟩
   obtain ⟨w3,hst,hb3,hg3,-⟩:=boxed_what' w2 (thc t) rfl ho
   have k8:w3.cell? ⟨w2.heap.size,8,none⟩ = some (.int .i64 t.n):=by rw [cell_blk hg3];rfl
   have H3:Hid (Below w1.heap.size w1 w3):=HBr.out.trans ((hb2.trans (hb3.mono hb2.size)).mono HBr.out.size)
   clear hb2 hb3 hg3 HX HBr HBw hcx
   go_wp2_with fail
   go_roundw
   case rel=>exact ⟨k + 1,by go_num,by omega,by rw [Htk.out,← hmn.out],H3.out⟩
   case measure=>rw [hwk];clear hwk;simp [intOf];omega
  ·have hkz:¬ (k:Int) < (m:Int):=by omega
   obtain rfl:k = m:=by omega
   have hkk:¬ (k:Int) < (k:Int):=by omega
   have HT:Hid (L.take k = L):=by show _ = _;rw [HM.out.1,List.take_length]
   have HX:=(show Hid _ from HAt.out wr HBw.out r)
   have ho:=HO.out r
   generalize (M.at r).isSome = B at HX
   go_wp2_with fail
   refine Calls.mono HX.out ?_
   rintro e w2 ⟨rfl,hb2⟩
   obtain ⟨w3,hst,hb3,hg3,-⟩:=boxed_what' w2 (thc (at7 M r)) rfl ho
   have k8:w3.cell? ⟨w2.heap.size,8,none⟩ = some (.int .i64 (at7 M r).n):=by rw [cell_blk hg3];rfl
   have k9:w3.cell? ⟨w2.heap.size,9,none⟩ = some (.int .i64 (at7 M r).lost):=by rw [cell_blk hg3];rfl
   have H3:Hid (Below w.heap.size w w3):=HBw.out.trans ((hb2.trans (hb3.mono hb2.size)).mono HBw.out.size)
   clear hb2 hb3 hg3 HX HBr HBw
   go_wp2_with fail
   go_quiet (fail)
   go_wp2_with fail
   refine bodyPost_ret (v:=.tuple #[.int .i64 (sumF (L.take k)),.int .i64 (at7 M r).lost,.int .i64 (at7 M r).n,.int .i64 0]) (by simp [results,Tryz.f203,go_sem]) rfl ⟨by rw [HT.out],H3.out.trans ⟨rfl,rfl,rfl,Nat.le_refl _,fun _ _=>rfl⟩⟩
set_option maxHeartbeats 2000000 in
set_option maxRecDepth 8000 in
theorem sumq_no (hR:IsR w q M G) (hN:ROk M) (r:Int) (hno:findE M 8 r ≠ 0):Calls Tryz.prog 203 #[.pointer (some ⟨q,0,none⟩),.int .i64 r] w fun e w'=>e = .returned (.tuple #[.int .i64 0,.int .i64 0,.int .i64 0,.int .i64 (findE M 8 r)])∧Below w.heap.size w w':=by
 have HA:=(show Hid _ from pursesq_no hR hN r hno)
 have hb:(findE M 8 r != 0) = true:=by simpa using hno
 clear hR hN hno
 generalize findE M 8 r = E at *
 go_enter Tryz.func203,Tryz.ntmps203
 go_wp2_with fail
 refine Calls.mono HA.out ?_
 rintro e w2 ⟨rfl,hb2⟩
 have H2:=(show Hid (Below w.heap.size w w2) from hb2)
 clear hb2
 go_wp2_with fail
 refine bodyPost_ret (v:=.tuple #[.int .i64 0,.int .i64 0,.int .i64 0,.int .i64 E]) (by simp [results,Tryz.f203,go_sem]) rfl ⟨rfl,H2.out⟩
def checkOk (M:WM):Bool:=M.things.all fun x=>decide (x.2.kind = 8→x.2.n - x.2.lost = sumF (M.things.filter (isP x.1)))
def checkE (M:WM):Int:=if checkOk M then 0 else 101
set_option maxHeartbeats 4000000 in
set_option maxRecDepth 20000 in
theorem checkq_W (hR:IsR w q M G) (hN:ROk M) (hS:SumOk M) (hlo:∀ x ∈ M.things,x.2.kind = 8→0 ≤ x.2.lost∧x.2.lost ≤ 9007199254740992):Calls Tryz.prog 204 #[.pointer (some ⟨q,0,none⟩)] w fun e w' =>
 e = .returned (.int .i64 (checkE M))∧Below w.heap.size w w':=by
 have HSm:Hid (∀ w',Below w.heap.size w w'→∀ x ∈ M.things,x.2.kind = 8→Calls Tryz.prog 203 #[.pointer (some ⟨q,0,none⟩),.int .i64 x.1] w' fun e w''=>e = .returned (.tuple #[.int .i64 (sumF (M.things.filter (isP x.1))),.int .i64 x.2.lost,.int .i64 x.2.n,.int .i64 0])∧Below w'.heap.size w' w''):=fun w' hb x hx hk=>by
  have hat:=hS.at_ x hx
  have h7:at7 M x.1 = x.2:=by unfold at7;rw [hat];rfl
  have:=sumq_W (hR.below hb) hN hS x.1 (by unfold findE;rw [hat,h7];simp [hk])
  rw [h7] at this
  exact this
 have HF:Hid (∀ x ∈ M.things,0 ≤ sumF (M.things.filter (isP x.1))∧sumF (M.things.filter (isP x.1)) ≤ 9007199254740992):=fun x hx=>sumF_le _ fun y hy=>by
  obtain ⟨h1,h2⟩:=List.mem_filter.1 hy
  have h3:y.2.kind = 9:=by simp only [isP,Bool.and_eq_true,decide_eq_true_eq] at h2;exact h2.1
  exact (hS.pn y h1 h3).1
 have HLo:=(show Hid _ from hlo)
 obtain ⟨sP,sC,sT,sM,hV⟩:=hR
 obtain ⟨n,hn⟩:∃ n,n = M.things.length:=⟨_,rfl⟩
 obtain ⟨p0,c0,hsT⟩:∃ p c,sT = .slice p n c:=by
  obtain ⟨h1,⟨rfl,h0⟩ | ⟨g,cap,cur,rfl,-⟩⟩:=hV.rt
  ·exact ⟨none,0,by rw [hn,h0]⟩
  ·exact ⟨_,_,by rw [hn]⟩
 subst hsT
 have HV:=(show Hid (RVw w q M G sP sC (.slice p0 n c0) sM) from hV)
 have HN:Hid (n = M.things.length∧n ≤ 100000):=⟨hn,by have:=hN.len;omega⟩
 obtain ⟨E,hE⟩:∃ E,E = checkE M:=⟨_,rfl⟩
 rw [← hE]
 have HE:=(show Hid (E = checkE M) from hE)
 clear hV hn hN hS hlo hE
 go_enter Tryz.func204,Tryz.ntmps204
 go_wp2_with fail
 go_loopw [3] (fun vi wr=>∃ i:Nat,vi = .int .i64 i∧i ≤ n∧Hid (Below w.heap.size w wr∧∀ x ∈ M.things.take i,x.2.kind = 8→x.2.n - x.2.lost = sumF (M.things.filter (isP x.1)))) (fun vi _=>n - (intOf vi).toNat)
 case atStart=>exact ⟨0,rfl,Nat.zero_le _,Below.refl _ _,fun x hx=>by simp at hx⟩
 case round =>
  obtain ⟨i,rfl,hi,HB⟩:=hrel
  have HV1:=(show Hid _ from HV.out.below HB.out.1)
  have d2:wr.cell? ⟨q,2,none⟩ = some (.slice p0 n c0):=by rw [cell_blk HV1.out.blk];rfl
  by_cases hin:i < n
  ·have hiz:(i:Int) < (n:Int):=by omega
   obtain ⟨x,hx⟩:∃ x,M.things[i]? = some x:=⟨_,List.getElem?_eq_getElem (by have:=HN.out.1;omega)⟩
   have hxm:=List.mem_of_getElem? hx
   obtain ⟨g,c,hs,hg,hc⟩:=HV1.out.ent hx
   have hp0:p0 = some ⟨g,0,none⟩:=by injection hs
   subst hp0
   have k0:wr.cell? ⟨g,i * 17,none⟩ = some (.int .i64 x.1):=hc 0 _ rfl
   have k1:wr.cell? ⟨g,i * 17 + 1,none⟩ = some (.int .u8 x.2.kind):=hc 1 _ rfl
   have hwi:wrap64 ((i:Int) + 1) = (i:Int) + 1:=by have:=HN.out.2;unfold wrap64;omega
   have HTk:Hid (∀ P:Int × Th→Prop,(∀ y ∈ M.things.take i,P y)→P x→∀ y ∈ M.things.take (i + 1),P y):=fun P h1 h2 y hy=>by
    rw [List.take_add_one,hx] at hy
    rcases List.mem_append.1 hy with h | h
    ·exact h1 y h
    ·simp at h
     rw [h]
     exact h2
   clear hs hc hx
   by_cases hk:x.2.kind = 8
   ·have hkb:(x.2.kind != 8) = false:=by simpa using hk
    have HX:=(show Hid _ from HSm.out wr HB.out.1 x hxm hk)
    have hF:=HF.out x hxm
    have hlo:=HLo.out x hxm hk
    obtain ⟨S,hS⟩:∃ S,S = sumF (M.things.filter (isP x.1)):=⟨_,rfl⟩
    rw [← hS] at hF HX
    have HSx:=(show Hid (S = sumF (M.things.filter (isP x.1))∧x ∈ M.things∧x.2.kind = 8) from ⟨hS,hxm,hk⟩)
    have hw1:wrap64 (S + x.2.lost) = S + x.2.lost:=by unfold wrap64;omega
    clear hS hxm hk hF hlo
    by_cases hq:S + x.2.lost = x.2.n
    ·have hqb:(S + x.2.lost != x.2.n) = false:=by simpa using hq
     have HQ:Hid (S + x.2.lost = x.2.n):=hq
     clear hq
     go_wp2_with fail
     refine Calls.mono HX.out ?_
     rintro e w2 ⟨rfl,hb2⟩
     have HB2:Hid (Below w.heap.size w w2∧∀ x ∈ M.things.take (i + 1),x.2.kind = 8→x.2.n - x.2.lost = sumF (M.things.filter (isP x.1))):=⟨HB.out.1.trans (hb2.mono HB.out.1.size),HTk.out _ HB.out.2 fun _=>by rw [← HSx.out.1];have:=HQ.out;omega⟩
     clear hb2 HX HB
     go_wp2_with fail
     go_roundw
     case rel=>exact ⟨i + 1,by go_num,by omega,HB2.out⟩
     case measure=>rw [hwi];clear hwi;simp [intOf];omega
    ·have hqb:(S + x.2.lost != x.2.n) = true:=by simpa using hq
     have HE2:Hid (E = 101):=by
      show E = 101
      rw [HE.out]
      unfold checkE
      rw [if_neg]
      intro h
      have h1:=of_decide_eq_true (List.all_eq_true.1 h x HSx.out.2.1) HSx.out.2.2
      rw [← HSx.out.1] at h1
      omega
     clear hq
     go_wp2_with fail
     refine Calls.mono HX.out ?_
     rintro e w2 ⟨rfl,hb2⟩
     have HB2:Hid (Below w.heap.size w w2):=HB.out.1.trans (hb2.mono HB.out.1.size)
     clear hb2 HX HB
     go_wp2_with fail
     go_ret
     exact ⟨by rw [HE2.out];rfl,HB2.out⟩
   ·have hkb:(x.2.kind != 8) = true:=by simpa using hk
    have HB2:Hid (Below w.heap.size w wr∧∀ x ∈ M.things.take (i + 1),x.2.kind = 8→x.2.n - x.2.lost = sumF (M.things.filter (isP x.1))):=⟨HB.out.1,HTk.out _ HB.out.2 fun h=>absurd h hk⟩
    clear hk HB
    go_wp2_with fail
    go_roundw
    case rel=>exact ⟨i + 1,by go_num,by omega,HB2.out⟩
    case measure=>rw [hwi];clear hwi;simp [intOf];omega
  ·have hiz:¬ (i:Int) < (n:Int):=by omega
   obtain rfl:i = n:=by omega
   have hkk:¬ (i:Int) < (i:Int):=by omega
   have HE2:Hid (E = 0):=by
    show E = 0
    rw [HE.out]
    unfold checkE
    rw [if_pos]
    refine List.all_eq_true.2 fun x hx=>decide_eq_true ?_
    have h:=HB.out.2
    rw [HN.out.1,List.take_length] at h
    exact h x hx
   go_wp2_with fail
   go_ret
   exact ⟨by rw [HE2.out];rfl,HB.out.1⟩
end Go.Proofs.YthaliljaglldjaaGreat
/- Check, whatever it answers. -/
namespace Go.Proofs.YthaliljaglldjaaGreat
open Go.RowKit Go.Shelf Go.ChangeMaps Go.MapKept
attribute [local go_sem] Oper.semAt_some
def SeenOk (M:WM) (pre:List {x // x ∈ M.things}):Prop:=∀ y ∈ pre,y.1.2.kind = 8→y.1.2.n - y.1.2.lost = sumF (M.things.filter (isP y.1.1))
theorem SeenOk.snoc {M:WM} {pre:List {x // x ∈ M.things}} {x:{x // x ∈ M.things}} (h:SeenOk M pre) (hx:x.1.2.kind = 8→x.1.2.n - x.1.2.lost = sumF (M.things.filter (isP x.1.1))):SeenOk M (pre ++ [x]):=fun y hy hk=>by
 rcases List.mem_append.1 hy with h' | h'
 ·exact h y h' hk
 ·rw [List.mem_singleton.1 h'] at hk ⊢
  exact hx hk
structure CkZ (w:World) (b0:Nat) (p:Nat) (z:Int) (W:World):Prop where
 below:Below w.heap.size w W
 size:b0 ≤ W.heap.size
 q1:W.heap[w.heap.size]? = some (.cells #[.pointer (some ⟨p,0,none⟩)] 31 (0,0))
 q2:W.heap[w.heap.size + 1]? = some (.cells #[.int .i64 z] 32 (0,0))
theorem CkZ.grown {w W W':World} {b0 p:Nat} {z:Int} {row:Option Nat} (h:CkZ w b0 p z W) (hb0:w.heap.size + 2 ≤ b0) (hg:W.grownBy W' row) (hr:∀ x,row = some x→b0 ≤ x):CkZ w b0 p z W':=by
 have hk:∀ c,c < b0→c < W.heap.size→W'.heap[c]? = W.heap[c]?:=fun c hc hl=>hg.block c hl (fun e=>by have:=hr c e.symm;omega)
 exact ⟨h.below.grown hg h.below.size (fun k e=>by have:=hr k e;omega),Nat.le_trans h.size hg.size,(hk _ (by omega) (blk_lt h.q1)).trans h.q1,(hk _ (by omega) (blk_lt h.q2)).trans h.q2⟩
set_option maxHeartbeats 4000000 in
set_option maxRecDepth 100000 in
theorem Check_any {w:World} {p:Nat} {M:WM} {F:Nat→Prop} (hW:IsW w p M F)
 (hP:∀ x ∈ M.things,x.2.kind = 9→∃ h n m,x.2 = purseT h n m∧0 ≤ n)
 (hT:∀ x ∈ M.things,x.2.kind = 8→∃ h N lo,x.2 = mintT h N lo∧0 ≤ lo∧lo ≤ N∧N ≤ 9007199254740992) :
 Calls Tryz.prog 100 #[.pointer (some ⟨p,0,none⟩)] w fun e w'=>e = .returned (.int .i64 (checkE M))∧Below w.heap.size w w':=by
 have HW:=(show Hid (IsW w p M F) from hW)
 have HP:=(show Hid _ from hP)
 have HT:=(show Hid _ from hT)
 obtain ⟨E,hE⟩:∃ E,E = checkE M:=⟨_,rfl⟩
 rw [← hE]
 have HE:=(show Hid (E = checkE M) from hE)
 clear hE
 clear hW hP hT
 refine (callsIn_wide (n:=5)).1 ?_
 refine callsIn_of_wp_marks Tryz.func100 rfl trivial ?_ rfl
 simp only [Tryz.ntmps100,List.size_toArray,List.length_cons,List.length_nil,Nat.reduceAdd,Nat.reduceSub,Array.replicate_succ,Array.replicate_zero,List.push_toArray,List.append_toArray,List.nil_append,List.cons_append]
 gi_wp2_with fail
 have hB1:Below w.heap.size w ((w.alloc (.cells #[.pointer (some ⟨p,0,none⟩)] 31)).alloc (.cells #[.int .i64 0] 32)):=((Below.refl _ w).alloc (Nat.le_refl _) _).alloc (by simp) _
 have q1:=blk2_old w (.cells #[.pointer (some ⟨p,0,none⟩)] 31) (.cells #[.int .i64 0] 32)
 have q2:=blk2_new w (.cells #[.pointer (some ⟨p,0,none⟩)] 31) (.cells #[.int .i64 0] 32)
 have hs1:((w.alloc (.cells #[.pointer (some ⟨p,0,none⟩)] 31)).alloc (.cells #[.int .i64 0] 32)).heap.size = w.heap.size + 2:=by simp
 generalize (w.alloc (.cells #[.pointer (some ⟨p,0,none⟩)] 31)).alloc (.cells #[.int .i64 0] 32) = w1 at *
 refine ⟨trivial,(callsIn_wide.2 (Sides_W (HW.out.below hB1))).mono ?_⟩
 rintro e _ ⟨rfl,rfl⟩
 have hmd:((M.made.length:Int) == 0) = false:=by
  have:=HW.out.ok.made
  exact beq_eq_false_iff_ne.2 (by omega)
 have c1:w1.cell? ⟨w.heap.size,0,none⟩ = some (.pointer (some ⟨p,0,none⟩)):=by rw [cell_blk q1];rfl
 have HQ:=(show Hid _ from And.intro q1 q2)
 have HB1:=(show Hid (Below w.heap.size w w1∧w1.heap.size = w.heap.size + 2) from ⟨hB1,hs1⟩)
 clear q1 q2 hB1 hs1
 gi_wp2_with fail
 refine ⟨trivial,(callsIn_wide.2 (Things_W w1 p)).mono ?_⟩
 rintro e _ ⟨rfl,rfl⟩
 gi_wp2_with fail
 obtain ⟨hq1,hq2⟩:=HQ.out
 have HB4:Hid (Below w.heap.size w (w1.alloc (.cells #[.pointer (some ⟨p,0,none⟩)] 31))):=HB1.out.1.alloc HB1.out.1.size _
 have hbx:(w1.alloc (.cells #[.pointer (some ⟨p,0,none⟩)] 31)).cell? ⟨w1.heap.size,0,none⟩ = some (.pointer (some ⟨p,0,none⟩)):=by
  rw [cell_blk (World.alloc_heap_new w1 _)];rfl
 have hin:CkZ w (w1.alloc (.cells #[.pointer (some ⟨p,0,none⟩)] 31)).heap.size p 0 (w1.alloc (.cells #[.pointer (some ⟨p,0,none⟩)] 31)) :=
  ⟨HB4.out,Nat.le_refl _,(Below.heap_alloc _ _ _ (blk_lt hq1)).trans hq1,(Below.heap_alloc _ _ _ (blk_lt hq2)).trans hq2⟩
 have hsz4:w.heap.size + 2 ≤ (w1.alloc (.cells #[.pointer (some ⟨p,0,none⟩)] 31)).heap.size:=by
  have:=HB1.out.2
  simp
  omega
 have hseq:=things1_seq (n:=4) (HW.out.below HB4.out) hbx (fun _ _=>False) (fun _ _ _ h=>h.elim) (fun y:{x // x ∈ M.things}=>y.1) M.things.attach (List.attach_map_subtype_val _)
 have HSQ:=(show Hid _ from hseq)
 clear hseq hbx c1 hq1 hq2 HQ HB1
 generalize hw4:w1.alloc (.cells #[.pointer (some ⟨p,0,none⟩)] 31) = w4 at *
 clear hw4
 generalize w1.heap.size = bx at *
 refine wpIn_rangeFunc_ownF rfl (by decide) (gf:=224) (lb:=#[.pointer (some ⟨bx,0,none⟩)]) rfl trivial (enters_of Tryz.func224 (by kernel_rfl) rfl) HSQ.out (fun h k=>h.trans k)
  (fun W l o o' hl ho hc _=>⟨by simp,fun b cs e fr hb _=>(World.putObj_heap_other (fun h=>by subst h;rw [hb] at ho;cases ho;cases hc)).trans hb,fun _ h=>h.elim⟩) (Below.refl _ _) (fun _=>rfl)
  (fun (pre:List {x // x ∈ M.things}) W=>CkZ w w4.heap.size p 0 W∧SeenOk M pre) (fun c _ W=>c = .ret∧CkZ w w4.heap.size p 101 W∧E = 101)
  (fun s W W' row hs hg hr=>by exact ⟨CkZ.grown hs.1 hsz4 hg (fun x e=>(hr x e).1),hs.2⟩) (fun _ s W W' row hs hg hr=>by exact ⟨hs.1,CkZ.grown hs.2.1 hsz4 hg (fun x e=>(hr x e).1),hs.2.2⟩) ⟨hin,fun y hy=>by cases hy⟩
  (fun x=>{ tmps:=#[.pointer (some ⟨p,0,none⟩),.pointer (some ⟨w.heap.size,0,none⟩),.pointer (some ⟨w.heap.size + 1,0,none⟩),.int .i64 x.1.1,.int .u8 x.1.2.kind,undef,undef,undef,undef,.pointer (some ⟨p,0,none⟩),.bool false,.bool false,.pointer (some ⟨p,0,none⟩),.int .i64 M.made.length,.bool false,.bool false,.pointer (some ⟨p,0,none⟩),.func (.func 224) #[] #[.pointer (some ⟨bx,0,none⟩)],.int .i64 x.1.1,.int .u8 x.1.2.kind,undef,undef,undef,undef,undef,undef,undef,undef,undef,undef,undef,undef,undef,undef,undef],defers:=[] }) ?assign ?body ?done ?stop
 case assign =>
  intro l x W K hK
  gi_wp2
  exact hK
 case body =>
  rintro l pre ⟨⟨i,t⟩,hm⟩ W hI -
  have hat:M.at i = some t:=HW.out.ok.at_of_mem hm
  have hiw:=HW.out.ok.at_wf hat
  by_cases hk:t.kind = 8
  ·obtain ⟨h',n',lo',rfl,hl0,hl1,hl2⟩:=HT.out (i,t) hm hk
   have hsm:=Sum_W (HW.out.below hI.1.below) hiw hat HP.out
   have hbd:=sumF_le (M.things.filter (isP i)) (fun y hy=>by
    obtain ⟨h1,h2⟩:=List.mem_filter.1 hy
    have h3:y.2.kind = 9:=by simp only [isP,Bool.and_eq_true,decide_eq_true_eq] at h2;exact h2.1
    obtain ⟨a,b,c,e,hn⟩:=HP.out y h1 h3
    rw [e]
    exact hn)
   obtain ⟨S,hS⟩:∃ S,S = sumF (M.things.filter (isP i)):=⟨_,rfl⟩
   rw [← hS] at hsm hbd
   have HS:Hid (S = sumF (M.things.filter (isP i))∧(i,mintT h' n' lo') ∈ M.things):=⟨hS,hm⟩
   have HSM:=(show Hid _ from hsm)
   have HI:=(show Hid _ from hI)
   have c1:W.cell? ⟨w.heap.size,0,none⟩ = some (.pointer (some ⟨p,0,none⟩)):=by rw [cell_blk hI.1.q1];rfl
   have hwr:wrap64 (n' - lo') = n' - lo':=by unfold wrap64;omega
   clear hsm hI hk hbd hS
   by_cases hq:n' - lo' = S
   ·have hqb:(n' - lo' != S) = false:=by simpa using hq
    have HQ:Hid (n' - lo' = S):=hq
    clear hq
    gi_wp2_with fail
    refine ⟨trivial,(CallsIn.inRound l (callsIn_wide.2 HSM.out)).mono ?_⟩
    rintro e W1 ⟨rfl,hb1⟩
    gi_wp2_with fail
    refine ⟨keepsOthers_of_below hb1,⟨hb1.size,fun b cs e fr hb _=>(hb1.block b (blk_lt hb)).trans hb,fun _ h=>h.elim⟩,CkZ.grown HI.out.1 hsz4 (grownBy_of_below hb1) (fun _ e=>by cases e),SeenOk.snoc HI.out.2 fun _=>HQ.out.trans HS.out.1⟩
   ·have hqb:(n' - lo' != S) = true:=by simpa using hq
    have HE2:Hid (E = 101):=by
     show E = 101
     rw [HE.out]
     unfold checkE
     rw [if_neg]
     intro h
     have h1:=of_decide_eq_true (List.all_eq_true.1 h _ HS.out.2) rfl
     rw [← HS.out.1] at h1
     exact hq h1
    clear hq
    gi_wp2_with fail
    refine ⟨trivial,(CallsIn.inRound l (callsIn_wide.2 HSM.out)).mono ?_⟩
    rintro e W1 ⟨rfl,hb1⟩
    have hI1:=CkZ.grown HI.out.1 hsz4 (grownBy_of_below hb1) (fun _ e=>by cases e)
    obtain ⟨c2,f2⟩:=box_facts hI1.q2
    have HI1:=(show Hid (CkZ w w4.heap.size p 0 W1∧Below W.heap.size W W1) from ⟨hI1,hb1⟩)
    clear hI1 hb1
    gi_wp2_with fail
    have hs:=heap_setCell_box (.int .i64 101) HI1.out.1.q2
    have hne:w.heap.size ≠ w.heap.size + 1:=by omega
    refine ⟨(keepsOthers_of_below HI1.out.2).trans (KeepsOthers.setCell _ _ _),rfl,⟨HI1.out.1.below.setCell (p:=⟨w.heap.size + 1,0,none⟩) (Nat.le_succ _) _,?_,(Below.heap_setCell _ _ _ _ hne).trans HI1.out.1.q1,hs⟩,HE2.out⟩
    have:=HI1.out.1.size
    simpa [World.setCell] using this
  ·have hk0:(t.kind != 8) = true:=by simpa using hk
   have HI:=(show Hid _ from hI)
   have HK:Hid (¬ t.kind = 8):=hk
   clear hI hk
   gi_wp2_with fail
   exact ⟨keepsOthers_of_below (Below.refl _ _),KpO.refl _ _,HI.out.1,SeenOk.snoc HI.out.2 fun h=>absurd h HK.out⟩
 case done =>
  rintro D ys W hD rfl hI hK
  obtain ⟨c2,f2⟩:=box_facts hI.1.q2
  have HE2:Hid (E = 0):=by
   show E = 0
   rw [HE.out]
   unfold checkE
   rw [if_pos]
   refine List.all_eq_true.2 fun x hx=>decide_eq_true fun hk=>?_
   exact hI.2 ⟨x,hx⟩ (List.mem_attach _ _) hk
  have HI:=(show Hid _ from hI.1)
  clear hI
  gi_wp2_with fail
  have hne:w.heap.size + 1 ≠ D:=by omega
  have hK':(W.setCell ⟨w.heap.size + 1,0,none⟩ (.int .i64 0)).heap[D]? = some (.deferred (some [])):=(Below.heap_setCell _ _ _ _ (fun e=>hne e.symm)).trans hK
  have hs:=heap_setCell_box (.int .i64 0) HI.out.q2
  have c5:((W.setCell ⟨w.heap.size + 1,0,none⟩ (.int .i64 0)).putObj D (.deferred none)).cell? ⟨w.heap.size + 1,0,none⟩ = some (.int .i64 0):=by
   rw [cell_blk ((World.putObj_heap_other hne).trans hs)];rfl
  refine ⟨by simp,.inl ⟨_,_,rfl,run_takeDeferred hK',?_⟩⟩
  refine ⟨.int .i64 0,?_,by rw [HE2.out],(HI.out.below.setCell (p:=⟨w.heap.size + 1,0,none⟩) (Nat.le_succ _) _).grown (grownBy_putObj' _ D _) ?_ (fun k e=>by cases e;omega)⟩
  ·simp [results,Tryz.f100,go_sem,c5]
  ·have:=HI.out.below.size
   simpa [World.setCell] using this
 case stop =>
  rintro D c pre W hD - ⟨rfl,hI,hE⟩ hK
  have HI:=(show Hid _ from hI)
  have HE2:Hid (E = 101):=hE
  have c5:(W.putObj D (.deferred none)).cell? ⟨w.heap.size + 1,0,none⟩ = some (.int .i64 101):=by
   rw [cell_blk ((World.putObj_heap_other (by omega)).trans hI.q2)];rfl
  clear hI hE
  gi_wp2_with fail
  refine ⟨by simp,.inl ⟨_,_,rfl,run_takeDeferred hK,?_⟩⟩
  refine ⟨.int .i64 101,?_,by rw [HE2.out],HI.out.below.grown (grownBy_putObj' _ D _) ?_ (fun k e=>by cases e;omega)⟩
  ·simp [results,Tryz.f100,go_sem,c5]
  ·exact HI.out.below.size
end Go.Proofs.YthaliljaglldjaaGreat
/- The program's Purses and Sum where there is no such mint. -/
namespace Go.Proofs.YthaliljaglldjaaGreat
open Go.RowKit Go.Shelf Go.ChangeMaps Go.MapKept
variable {w:World} {p:Nat} {M:WM} {F:Nat→Prop}
theorem results_two {fn:Func} {x y:Tmp} (h:fn.results = #[.tmp x,.tmp y]) (tmps:Array Value) (W:World):(results fn tmps).run Tryz.prog W = .ok (.tuple #[tmps.getD x undef,tmps.getD y undef]) W:=by
 unfold results
 rw [h]
 simp
set_option maxHeartbeats 2000000 in
set_option maxRecDepth 100000 in
theorem Purses_ref (hW:IsW w p M F) (hL:LtM M) {r:Int} (hr:(Lit.int .i64 r).wf = true) (hno:findE M 8 r ≠ 0):Calls Tryz.prog 200 #[.pointer (some ⟨p,0,none⟩),.int .i64 r] w fun e w'=>e = .returned (.tuple #[.slice none 0 0,.int .i64 (findE M 8 r)])∧Below w.heap.size w w':=by
 have HF:Hid (∀ w',Below w.heap.size w w'→Calls Tryz.prog 191 #[.pointer (some ⟨p,0,none⟩),.int .i64 r,.int .u8 8] w' fun e w''=>e = .returned (.tuple #[.agg (thc (at7 M r)),.int .i64 (findE M 8 r)])∧Below w'.heap.size w' w''):=fun w' hb=>find_any (hW.below hb) hL hr (.inl rfl)
 have hone:=hL.one r
 have hb:(findE M 8 r != 0) = true:=by simpa using hno
 clear hW hL hno
 generalize at7 M r = t at *
 generalize findE M 8 r = E at *
 refine (callsIn_wide (n:=5)).1 ?_
 refine callsIn_of_wp_marks Tryz.func200 rfl trivial ?_ rfl
 simp only [Tryz.ntmps200,List.size_toArray,List.length_cons,List.length_nil,Nat.reduceAdd,Nat.reduceSub,Array.replicate_succ,Array.replicate_zero,List.push_toArray,List.append_toArray,List.nil_append,List.cons_append]
 gi_wp2_with fail
 refine ⟨trivial,(callsIn_wide.2 (HF.out _ ((((Below.refl _ w).alloc (Nat.le_refl _) _).alloc (by simp) _)))).mono ?_⟩
 rintro e w1 ⟨rfl,hb1⟩
 obtain ⟨w2,hst,hb2,-,-⟩:=boxed_what' w1 (thc t) rfl hone
 have HB2:Hid (Below w.heap.size w w2):=by
  have h0:Below w.heap.size w ((w.alloc (.cells #[.pointer (some ⟨p,0,none⟩)] 31)).alloc (.cells #[.int .i64 r] 25)):=((Below.refl _ w).alloc (Nat.le_refl _) _).alloc (by simp) _
  exact h0.trans ((hb1.trans (hb2.mono hb1.size)).mono h0.size)
 clear hb1 hb2
 gi_wp2_with fail
 exact ⟨_,results_two rfl _ _,rfl,HB2.out⟩
set_option maxHeartbeats 2000000 in
set_option maxRecDepth 20000 in
theorem Sum_ref (hW:IsW w p M F) (hL:LtM M) {r:Int} (hr:(Lit.int .i64 r).wf = true) (hno:findE M 8 r ≠ 0):Calls Tryz.prog 192 #[.pointer (some ⟨p,0,none⟩),.int .i64 r] w fun e w'=>e = .returned (.tuple #[.int .i64 0,.int .i64 0,.int .i64 0,.int .i64 (findE M 8 r)])∧Below w.heap.size w w':=by
 have HA:=(show Hid _ from Purses_ref hW hL hr hno)
 have hb:(findE M 8 r != 0) = true:=by simpa using hno
 clear hW hL hno
 generalize findE M 8 r = E at *
 go_enter Tryz.func192,Tryz.ntmps192
 go_wp2_with fail
 refine Calls.mono HA.out ?_
 rintro e w2 ⟨rfl,hb2⟩
 have H2:=(show Hid (Below w.heap.size w w2) from hb2)
 clear hb2
 go_wp2_with fail
 refine bodyPost_ret (v:=.tuple #[.int .i64 0,.int .i64 0,.int .i64 0,.int .i64 E]) (by simp [results,Tryz.f192,go_sem]) rfl ⟨rfl,H2.out⟩
end Go.Proofs.YthaliljaglldjaaGreat
/- Plain laws on a world as data: many things go at once. -/
set_option linter.unusedSimpArgs false
namespace Go.Proofs.YthaliljaglldjaaGreat
open Go.RowKit Go.ChangeMaps Go.MapKept
theorem lookup_filter_key (p:Int→Bool) (l:List (Int × Th)) (q:Int):(l.filter fun x=>p x.1).lookup q = if p q then l.lookup q else none:=by
 induction l with
 | nil=>simp
 | cons x l ih =>
   obtain ⟨a,b⟩:=x
   rw [List.filter_cons]
   by_cases ha:p a = true
   ·simp only [ha,↓reduceIte,List.lookup_cons,ih]
    by_cases e:q = a
    ·subst e;simp [ha]
    ·simp [show (q == a) = false by simpa using e]
   ·simp only [ha,↓reduceIte,List.lookup_cons,ih,Bool.false_eq_true]
    by_cases e:q = a
    ·subst e;simp [ha]
    ·simp [show (q == a) = false by simpa using e]
def WM.delL (M:WM) (l:List Int):WM:={ M with things:=M.things.filter fun x=>decide (x.1 ∉ l) }
theorem WM.delL_nil (M:WM):M.delL [] = M:=by
 unfold WM.delL
 rw [List.filter_eq_self.2 fun x _=>by simp]
theorem WM.delL_snoc (M:WM) (l:List Int) (r:Int):M.delL (l ++ [r]) = (M.delL l).del r:=by
 unfold WM.delL WM.del
 simp only [List.filter_filter,WM.mk.injEq,true_and,and_true]
 congr 1
 funext x
 by_cases h1:x.1 ∈ l <;> by_cases h2:x.1 = r <;> simp [h1,h2]
theorem WM.delL_at (M:WM) (l:List Int) (q:Int):(M.delL l).at q = if q ∈ l then none else M.at q:=by
 have:=lookup_filter_key (fun q=>decide (q ∉ l)) M.things q
 show (M.things.filter fun x=>decide (x.1 ∉ l)).lookup q = _
 rw [this]
 by_cases h:q ∈ l <;> simp [h,WM.at]
theorem WM.delL_at_some {M:WM} {l:List Int} {q:Int} {v:Th} (h:(M.delL l).at q = some v):q ∉ l∧M.at q = some v:=by
 rw [WM.delL_at] at h
 split at h
 ·cases h
 ·exact ⟨by assumption,h⟩
theorem WM.delL_congr (M:WM) {l l':List Int} (h:∀ x,x ∈ l ↔ x ∈ l'):M.delL l = M.delL l':=by
 unfold WM.delL
 simp only [h]
def Lean' (M:WM) (l:List Int):Prop:=∃ q t,M.at q = some t∧q ∉ l∧((t.kind ≠ 13∧t.tgt ∈ l)∨t.bi ∈ l)
theorem WM.delL_ok {M:WM} {l:List Int} (hM:M.ok) (h:¬ Lean' M l):(M.delL l).ok where
 sides:=hM.sides
 cuts:=hM.cuts
 made:=hM.made
 tree:=hM.tree
 keys:=hM.keys.sublist List.filter_sublist
 range x hx:=hM.range x (List.mem_filter.1 hx).1
 last:=hM.last
 mades:=hM.mades
 wf q v hv:=hM.wf q v (WM.delL_at_some hv).2
 homes q v hv hk:=hM.homes q v (WM.delL_at_some hv).2 hk
 wrap:=by
  obtain ⟨rk,h1,h2⟩:=hM.wrap
  refine ⟨rk,h1,fun q v hv hw=>?_⟩
  obtain ⟨hq,hv⟩:=WM.delL_at_some hv
  obtain ⟨⟨x,hx⟩,h4⟩:=h2 q v hv hw
  have:v.tgt ∉ l:=fun e=>h ⟨q,v,hv,hq,.inl ⟨(by rintro e;rw [e] at hw;cases hw),e⟩⟩
  exact ⟨⟨x,by rw [WM.delL_at,if_neg this,hx]⟩,h4⟩
 gate q v hv hk:=by
  obtain ⟨hq,hv⟩:=WM.delL_at_some hv
  obtain ⟨x,hx,h4⟩:=hM.gate q v hv hk
  exact ⟨x,by rw [WM.delL_at,if_neg (fun e=>h ⟨q,v,hv,hq,.inr e⟩),hx],h4⟩
 purse q v hv hk:=by
  obtain ⟨hq,hv⟩:=WM.delL_at_some hv
  obtain ⟨x,hx,h4⟩:=hM.purse q v hv hk
  exact ⟨x,by rw [WM.delL_at,if_neg (fun e=>h ⟨q,v,hv,hq,.inl ⟨by rw [hk];decide,e⟩⟩),hx],h4⟩
 facet q v q' v' hv hv' k k' e1 e2:=hM.facet q v q' v' (WM.delL_at_some hv).2 (WM.delL_at_some hv').2 k k' e1 e2
theorem find_filter_key (p:Int→Bool) (P:Int × Th→Bool):∀ (l:List (Int × Th)),(∀ x ∈ l,p x.1 = false→P x = false)→(l.filter fun x=>p x.1).find? P = l.find? P
 | [],_=>rfl
 | x :: l,h=>by
   have ih:=find_filter_key p P l fun y hy=>h y (by simp [hy])
   have hx:=h x (by simp)
   rw [List.filter_cons,List.find?_cons]
   by_cases e:p x.1 = true
   ·rw [if_pos e,List.find?_cons,ih]
   ·rw [if_neg e,hx (by simpa using e)]
    exact ih
theorem WM.delL_find {M:WM} {l:List Int} (hM:M.ok) (hk:∀ r t,M.at r = some t→t.kind ≠ 14) (a b:Int):(M.delL l).find a b = M.find a b:=by
 unfold WM.find
 show ((M.things.filter fun x=>decide (x.1 ∉ l)).find? _).map _ = _
 have:=find_filter_key (fun q=>decide (q ∉ l)) (fun x=>x.2.kind == 14 && x.2.tgt == a && x.2.set == b) M.things (fun x hx _=>by
  have:=hk x.1 x.2 (hM.at_of_mem hx)
  simp [this])
 rw [this]
theorem filter_len {l:List (Int × Th)} (hk:l.Pairwise (fun x y=>x.1 < y.1)) {r:Int} {t:Th} (hm:(r,t) ∈ l):(l.filter fun x=>decide (x.1 ≠ r)).length + 1 = l.length:=by
 induction l with
 | nil=>cases hm
 | cons x l ih =>
   obtain ⟨h1,h2⟩:=List.pairwise_cons.1 hk
   rw [List.filter_cons]
   rcases List.mem_cons.1 hm with e | e
   ·have hx:x.1 = r:=by rw [← e]
    have hall:l.filter (fun y=>decide (y.1 ≠ r)) = l:=List.filter_eq_self.2 fun y hy=>by
     have:=h1 y hy
     simp only [ne_eq,decide_not,Bool.not_eq_eq_eq_not,Bool.not_true,decide_eq_false_iff_not]
     omega
    simp only [hx,ne_eq,not_true_eq_false,decide_false,Bool.false_eq_true,↓reduceIte]
    rw [hall]
    rfl
   ·have hx:¬ x.1 = r:=by
     have:=h1 _ e
     simp only at this
     omega
    simp only [ne_eq,hx,not_false_eq_true,decide_true,↓reduceIte,List.length_cons]
    have:=ih h2 e
    simp only [ne_eq] at this
    omega
theorem WM.delL_len {M:WM} (hM:M.ok) (l:List Int) (r:Int):(M.delL (l ++ [r])).things.length = if ((M.delL l).at r).isSome then (M.delL l).things.length - 1 else (M.delL l).things.length:=by
 rw [WM.delL_snoc]
 cases h:(M.delL l).at r with
 | none =>
   simp only [Option.isSome_none,Bool.false_eq_true,↓reduceIte]
   show ((M.delL l).things.filter _).length = _
   rw [List.filter_eq_self.2]
   intro x hx
   have hk:(M.delL l).things.Pairwise (fun x y=>x.1 < y.1):=hM.keys.sublist List.filter_sublist
   have h3:(M.delL l).at x.1 = some x.2:=lookup_of_mem hk hx
   simp only [decide_not,Bool.not_eq_eq_eq_not,Bool.not_true,decide_eq_false_iff_not,ne_eq]
   intro e
   rw [e,h] at h3
   cases h3
 | some t =>
   simp only [Option.isSome_some,↓reduceIte]
   have hk:(M.delL l).things.Pairwise (fun x y=>x.1 < y.1):=hM.keys.sublist List.filter_sublist
   have:=filter_len hk (at_mem h)
   show ((M.delL l).things.filter _).length = _
   omega
def WM.gone1 (l:List Int) (M:WM) (r:Int):WM :=
 match M.at r with
 | some t =>
   if t.kind = 9 then (if t.tgt ∈ l then M else match M.at t.tgt with | some m=>M.set t.tgt { m with lost:=min m.n (wrap64 (m.lost + t.n)) } | none=>M)
   else if t.kind = 15 then (if t.bi ∈ l then M else match M.at t.bi with | some s=>M.set t.bi { s with tgt:=0 } | none=>M)
   else M
 | none=>M
theorem WM.gone1_cases {M:WM} (hM:M.ok) (l:List Int) (r:Int):M.gone1 l r = M∨∃ q u t,SetOk M q u t∧q ∉ l∧M.gone1 l r = M.set q t:=by
 unfold WM.gone1
 split
 ·rename_i t ht
  split
  ·split
   ·exact .inl rfl
   ·rename_i hl
    split
    ·rename_i m hm
     refine .inr ⟨_,m,_,?_,hl,rfl⟩
     exact ⟨hm,rfl,rfl,fun _=>rfl,(hM.wf _ _ hm).tgt,rfl,rfl⟩
    ·exact .inl rfl
  ·split
   ·rename_i h15
    split
    ·exact .inl rfl
    ·rename_i hl
     split
     ·rename_i s hs
      obtain ⟨u,hu,hk⟩:=hM.gate r t ht h15
      rw [hs] at hu
      cases hu
      refine .inr ⟨_,s,_,?_,hl,rfl⟩
      exact ⟨hs,rfl,rfl,fun h=>absurd hk h,rfl,rfl,rfl⟩
     ·exact .inl rfl
   ·exact .inl rfl
 ·exact .inl rfl
theorem WM.gone1_ok {M:WM} (hM:M.ok) (l:List Int) (r:Int):(M.gone1 l r).ok:=by
 rcases WM.gone1_cases hM l r with h | ⟨q,u,t,h,-,e⟩
 ·rw [h];exact hM
 ·rw [e];exact WM.set_ok hM h
theorem lean_set {M:WM} {r:Int} {u t:Th} {l:List Int} (h:SetOk M r u t):Lean' (M.set r t) l→Lean' M l:=by
 rintro ⟨q,v,hv,hq,hc⟩
 rcases WM.set_at_some hv with ⟨rfl,rfl,-⟩ | ⟨-,hv⟩
 ·refine ⟨q,u,h.was,hq,?_⟩
  rcases hc with ⟨hk,ht⟩ | hb
  ·left
   rw [← h.kind,← h.tgt hk]
   exact ⟨hk,ht⟩
  ·right
   rw [← h.bi]
   exact hb
 ·exact ⟨q,v,hv,hq,hc⟩
theorem WM.gone1_lean {M:WM} (hM:M.ok) {l:List Int} {r:Int} (h:¬ Lean' M l):¬ Lean' (M.gone1 l r) l:=by
 rcases WM.gone1_cases hM l r with e | ⟨q,u,t,hs,-,e⟩
 ·rw [e];exact h
 ·rw [e];exact fun h'=>h (lean_set hs h')
theorem WM.gone1_kind {M:WM} (hM:M.ok) {l:List Int} {r:Int} (h:∀ q t,M.at q = some t→t.kind ≠ 14):∀ q t,(M.gone1 l r).at q = some t→t.kind ≠ 14:=by
 rcases WM.gone1_cases hM l r with e | ⟨q,u,t,hs,-,e⟩
 ·rw [e];exact h
 ·rw [e]
  intro q' v hv
  rcases WM.set_at_some hv with ⟨rfl,rfl,-⟩ | ⟨-,hv⟩
  ·rw [hs.kind];exact h _ _ hs.was
  ·exact h _ _ hv
theorem WM.gone1_at {M:WM} (hM:M.ok) {l:List Int} {r q:Int} (hq:q ∈ l):(M.gone1 l r).at q = M.at q:=by
 rcases WM.gone1_cases hM l r with e | ⟨q',u,t,hs,hl,e⟩
 ·rw [e]
 ·rw [e,WM.set_at_ne]
  exact fun h=>hl (h ▸ hq)
end Go.Proofs.YthaliljaglldjaaGreat
/- Many things go at once: in memory. -/
namespace Go.Proofs.YthaliljaglldjaaGreat
open Go.RowKit Go.ChangeMaps Go.MapKept
variable {w:World} {p:Nat} {M:WM} {F:Nat→Prop} {pa:Option Addr} {pc cg cc mg mc tb fb fn:Nat} {bl:Int→Nat}
theorem thf_delL (M:WM) (l:List Int) (r:Int) (bl:Int→Nat):thf (M.delL (l ++ [r])) bl (.int .i64 r) = none∧∀ x,x ≠ .int .i64 r→thf (M.delL (l ++ [r])) bl x = thf (M.delL l) bl x:=by
 rw [WM.delL_snoc]
 exact thf_del (M.delL l) r bl
theorem faf_delL {l:List Int} (hM:M.ok) (hk:∀ r t,M.at r = some t→t.kind ≠ 14) (key:Value):faf (M.delL l) key = faf M key:=by
 unfold faf
 split
 ·split
  ·rw [WM.delL_find hM hk]
  ·rfl
 ·rfl
theorem WV.goneL (h:WV w p M F pa pc cg cc mg mc tb fb fn bl) (hk:∀ r t,M.at r = some t→t.kind ≠ 14) {l:List Int} (hl:¬ Lean' M l) {w':World} (hsz:w.heap.size ≤ w'.heap.size)
 (hoth:∀ b,F b→b ≠ tb→w'.heap[b]? = w.heap[b]?) (htb:HasMap Tryz.prog 25 w' tb (thf (M.delL l) bl) (M.delL l).things.length):WV w' p (M.delL l) F pa pc cg cc mg mc tb fb fn bl:=by
 obtain ⟨mcur,hm⟩:=h.mad.is
 obtain ⟨ccur,hc⟩:=h.cut.is
 obtain ⟨tes,tcl,ht⟩:=h.things.is
 exact {
  hp:=(hoth p h.own.1 (h.ne_of_obj h.hp ht (by simp))).trans h.hp
  pars:=fun j x hx=>by
   obtain ⟨b,o,h1,h2,⟨cs,fr,h3⟩,h4⟩:=h.pars j x hx
   have k:=hoth b h2 (h.ne_of_obj h3 ht (by simp))
   exact ⟨b,o,h1,h2,⟨cs,fr,k.trans h3⟩,(World.cell?_of_block (a:=⟨b,o + j,none⟩) k).trans h4⟩
  cut:=h.cut.of_block (hoth cg h.own.2.1 (h.ne_of_obj hc ht (by simp)))
  mad:=h.mad.of_block (hoth mg h.own.2.2.1 (h.ne_of_obj hm ht (by simp)))
  things:=htb
  facets:=(h.facets.of_block (hoth fb h.own.2.2.2.2 (Ne.symm h.tf))).congr (fun key _ _=>faf_delL h.ok hk key)
  fnle:=h.fnle
  blk:=fun q v hv=>by
   obtain ⟨h1,h2,h3⟩:=h.blk q v (WM.delL_at_some hv).2
   exact ⟨(hoth _ h2 (h.ne_of_obj h1 ht (by simp))).trans h1,h2,h3.of_blocks (fun b cs e fr hFb hb he=>hoth b hFb (h.ne_of_obj hb ht (by simp))) fun _ h=>h⟩
  inj:=fun q q' v v' hv hv' e=>h.inj q q' v v' (WM.delL_at_some hv).2 (WM.delL_at_some hv').2 e
  own:=h.own
  tf:=h.tf
  lt:=fun b hb=>Nat.lt_of_lt_of_le (h.lt b hb) hsz
  ok:=WM.delL_ok h.ok hl }
theorem WV.cellSet (h:WV w p M F pa pc cg cc mg mc tb fb fn bl) {r:Int} {u t:Th} (hs:SetOk M r u t) {i:Nat} {v:Value} (ht:(thc u).setIfInBounds i v = thc t)
 (hl:t.v = u.v∧t.vl = u.vl∧t.vs = u.vs∧t.vals = u.vals∧t.code = u.code∧t.names = u.names):WV (w.setCell ⟨bl r,i,none⟩ v) p (M.set r t) F pa pc cg cc mg mc tb fb fn bl:=by
 obtain ⟨hB,hF,hD⟩:=h.blk r u hs.was
 have ho:∀ b,b ≠ bl r→(w.setCell ⟨bl r,i,none⟩ v).heap[b]? = w.heap[b]?:=fun b hb=>Below.heap_setCell w ⟨bl r,i,none⟩ v b hb
 refine h.turn hs (by simp [World.setCell]) (by rw [blk_setCell hB i v,ht]) (fun b _ hb=>ho b hb) (fun _ h=>h) (fun b hb=>by have:=h.lt b hb;simpa [World.setCell] using this) ?_
 have hD':Deep w F t:=by
  obtain ⟨h1,h2,h3,h4,h5,h6⟩:=hl
  exact ⟨by rw [h1,h2];exact hD.v,by rw [h3,h4];exact hD.vs,by rw [h5];exact hD.code,by rw [h6];exact hD.names⟩
 refine hD'.of_blocks (fun b cs e fr hFb hb he=>ho b fun x=>?_) (fun _ h=>h)
 subst x
 rw [hB] at hb
 cases hb
 simp [deepTy] at he
theorem WV.drew (h:WV w p M F pa pc cg cc mg mc tb fb fn bl):WV w.drew p M F pa pc cg cc mg mc tb fb fn bl:=h.of_blocks (Nat.le_refl _) (fun _ _=>rfl)
theorem min_if (a b:Int):(if b < a then b else a) = min a b:=by
 split <;> omega
theorem set_lost {u:Th} (v:Int):(thc u).setIfInBounds 9 (.int .i64 v) = thc { u with lost:=v }:=rfl
theorem set_tgt {u:Th} (v:Int):(thc u).setIfInBounds 10 (.int .i64 v) = thc { u with tgt:=v }:=rfl
def gof (l:List Int) (key:Value):Option Value :=
 match key with
 | .int .i64 r=>if r ∈ l then some (.int .i64 1) else none
 | _=>none
theorem gof_snoc (l:List Int) (r:Int):gof (l ++ [r]) (.int .i64 r) = some (.int .i64 1)∧∀ x,x ≠ .int .i64 r→gof (l ++ [r]) x = gof l x:=by
 refine ⟨by simp [gof],fun x hx=>?_⟩
 unfold gof
 split
 ·rename_i q
  have hne:q ≠ r:=fun e=>hx (by rw [e])
  simp [hne]
 ·rfl
theorem gof_some {l:List Int} {x:Int} {v:Value} (h:gof l (.int .i64 x) = some v):x ∈ l:=by
 simp only [gof] at h
 split at h
 ·assumption
 ·cases h
structure Ds (l:List Int) (L:Int→Bool) (ds:List Int):Prop where
 nd:ds.Nodup
 mem:∀ x ∈ ds,x ∈ l∧L x = false
 all:∀ x,(Lit.int .i64 x).wf = true→x ∈ l→L x = false→x ∈ ds
theorem Ds.start {l:List Int} {L:Int→Bool} (h:∀ x,(Lit.int .i64 x).wf = true→L x = (gof l (.int .i64 x)).isSome):Ds l L [] where
 nd:=List.nodup_nil
 mem:=fun x hx=>by cases hx
 all:=fun x hw hx hL=>by
  rw [h x hw] at hL
  simp [gof,hx] at hL
theorem Ds.step {l:List Int} {L:Int→Bool} {ds:List Int} (h:Ds l L ds) {x:Int} (hx:x ∈ l) (hL:L x = true):Ds l (fun z=>L z && !decide (z = x)) (ds ++ [x]) where
 nd:=by
  rw [List.nodup_append]
  refine ⟨h.nd,by simp,fun a ha b hb=>?_⟩
  simp at hb
  subst hb
  intro e
  subst e
  rw [(h.mem a ha).2] at hL
  cases hL
 mem:=fun y hy=>by
  rcases List.mem_append.1 hy with hy | hy
  ·exact ⟨(h.mem y hy).1,by simp [(h.mem y hy).2]⟩
  ·simp at hy
   subst hy
   exact ⟨hx,by simp⟩
 all:=fun y hw hy hLy=>by
  by_cases e:y = x
  ·simp [e]
  ·have:=h.all y hw hy (by simpa [e] using hLy)
   simp [this]
theorem Ds.done {l:List Int} {L:Int→Bool} {ds:List Int} (h:Ds l L ds) (hwf:∀ x ∈ l,(Lit.int .i64 x).wf = true) (hL:∀ x,(Lit.int .i64 x).wf = true→L x = false):ds.Nodup∧∀ x,x ∈ ds ↔ x ∈ l :=
 ⟨h.nd,fun x=>⟨fun hx=>(h.mem x hx).1,fun hx=>h.all x (hwf x hx) hx (hL x (hwf x hx))⟩⟩
theorem fold_at {l:List Int} {q:Int} (hq:q ∈ l):∀ (ds:List Int) {M:WM},M.ok→(ds.foldl (WM.gone1 l) M).at q = M.at q
 | [],_,_=>rfl
 | d :: ds,M,hM=>by
   rw [List.foldl_cons,fold_at hq ds (WM.gone1_ok hM l d),WM.gone1_at hM hq]
theorem fold_lean {l:List Int}:∀ (ds:List Int) {M:WM},M.ok→¬ Lean' M l→¬ Lean' (ds.foldl (WM.gone1 l) M) l
 | [],_,_,h=>h
 | d :: ds,M,hM,h=>by
   rw [List.foldl_cons]
   exact fold_lean ds (WM.gone1_ok hM l d) (WM.gone1_lean hM h)
theorem fold_kind {l:List Int}:∀ (ds:List Int) {M:WM},M.ok→(∀ q t,M.at q = some t→t.kind ≠ 14)→∀ q t,(ds.foldl (WM.gone1 l) M).at q = some t→t.kind ≠ 14
 | [],_,_,h=>h
 | d :: ds,M,hM,h=>by
   rw [List.foldl_cons]
   exact fold_kind ds (WM.gone1_ok hM l d) (WM.gone1_kind hM h)
structure G4 (w:World) (p:Nat) (M:WM) (F:Nat→Prop) (pa:Option Addr) (pc cg cc mg mc tb fb fn:Nat) (bl:Int→Nat) (l:List Int) (r:Nat) (L:Int→Bool) (cnt:Nat) (ds:List Int) (wr:World):Prop where
 rg:Rg wr w.heap.size r (gof l) L cnt
 k:Keeps F w wr
 cell:wr.heap[w.heap.size + 1]? = some (.cells #[.map (some w.heap.size)] 256 (0,0))
 map:∃ n,HasMap Tryz.prog 25 wr w.heap.size (gof l) n
 wv:WV wr p (ds.foldl (WM.gone1 l) M) F pa pc cg cc mg mc tb fb fn bl
 flt:∀ b,F b→b < w.heap.size
 rlt:w.heap.size + 1 < r
theorem zeroInt (w:World):(zeroValue 3).run Tryz.prog w = .ok (.int .i64 0) w:=by kernel_rfl
section
variable {l:List Int} {r:Nat} {L:Int→Bool} {cnt:Nat} {ds:List Int} {wr:World}
theorem G4.look (h:G4 w p M F pa pc cg cc mg mc tb fb fn bl l r L cnt ds wr) {x:Int} (hx:(Lit.int .i64 x).wf = true):(Instr.lookup 256 (.map (some w.heap.size)) (.int .i64 x) false).run Tryz.prog wr = .ok (.int .i64 (if x ∈ l then 1 else 0)) wr:=by
 obtain ⟨n,h2⟩:=h.map
 rw [h2.look keyedRef Tryz.underlying256 (zeroInt wr) (key_ref hx)]
 simp only [gof]
 split <;> rfl
theorem G4.turned (h:G4 w p M F pa pc cg cc mg mc tb fb fn bl l r L cnt ds wr) {w':World} (hk:Keeps F wr w') {ds':List Int} (hwv:WV w' p (ds'.foldl (WM.gone1 l) M) F pa pc cg cc mg mc tb fb fn bl):G4 w p M F pa pc cg cc mg mc tb fb fn bl l r L cnt ds' w' where
 rg:=h.rg.of_blocks (hk.block _ h.rg.ltb (fun e=>by have:=h.flt _ e;omega)) (hk.block _ h.rg.lt (fun e=>by have:=h.flt _ e;have:=h.rlt;omega))
 k:=h.k.trans hk (fun _ _ h=>h) (fun _ _ h=>h)
 cell:=(hk.block _ (blk_lt h.cell) (fun e=>by have:=h.flt _ e;omega)).trans h.cell
 map:=by
  obtain ⟨n,h2⟩:=h.map
  exact ⟨n,h2.of_block (hk.block _ h2.lt (fun e=>by have:=h.flt _ e;omega))⟩
 wv:=hwv
 flt:=h.flt
 rlt:=h.rlt
theorem G4.next (h:G4 w p M F pa pc cg cc mg mc tb fb fn bl l r L cnt ds wr) {w':World} {L':Int→Bool} {cnt':Nat} (hrg:Rg w' w.heap.size r (gof l) L' cnt') (hk:Keeps (fun y=>y = r) wr w') :
 G4 w p M F pa pc cg cc mg mc tb fb fn bl l r L' cnt' ds w' where
 rg:=hrg
 k:=⟨hk.os.trans h.k.os,hk.tape.trans h.k.tape,hk.output.trans h.k.output,Nat.le_trans h.k.size hk.size,fun b hb hF=>(hk.block b (Nat.lt_of_lt_of_le hb h.k.size) (by have:=h.rlt;omega)).trans (h.k.block b hb hF)⟩
 cell:=(hk.block _ (blk_lt h.cell) (by have:=h.rlt;omega)).trans h.cell
 map:=by
  obtain ⟨n,h2⟩:=h.map
  exact ⟨n,h2.of_block (hk.block _ h2.lt (by have:=h.rlt;omega))⟩
 wv:=h.wv.keeps hk (fun b hb e=>by have:=h.flt b hb;have:=h.rlt;omega)
 flt:=h.flt
 rlt:=h.rlt
theorem G4.below (h:G4 w p M F pa pc cg cc mg mc tb fb fn bl l r L cnt ds wr) {w':World} (hb:Below wr.heap.size wr w'):G4 w p M F pa pc cg cc mg mc tb fb fn bl l r L cnt ds w' where
 rg:=h.rg.below hb
 k:=h.k.then_below hb
 cell:=below_blk hb h.cell
 map:=by
  obtain ⟨n,h2⟩:=h.map
  exact ⟨n,h2.of_block (hb.block _ h2.lt)⟩
 wv:=h.wv.below hb
 flt:=h.flt
 rlt:=h.rlt
end
structure G5 (w wo:World) (F:Nat→Prop) (tb:Nat) (bl:Int→Nat) (N:WM) (l:List Int) (r:Nat) (L:Int→Bool) (cnt:Nat) (es:List Int) (wr:World):Prop where
 rg:Rg wr w.heap.size r (gof l) L cnt
 k:Keeps F w wr
 sz:wo.heap.size ≤ wr.heap.size
 oth:∀ b,F b→b ≠ tb→wr.heap[b]? = wo.heap[b]?
 things:HasMap Tryz.prog 25 wr tb (thf (N.delL es) bl) (N.delL es).things.length
 rlt:w.heap.size + 1 < r
section
variable {wo:World} {N:WM} {l:List Int} {r:Nat} {L:Int→Bool} {cnt:Nat} {es:List Int} {wr:World}
theorem G5.next (h:G5 w wo F tb bl N l r L cnt es wr) (flt:∀ b,F b→b < w.heap.size) (htb:F tb) {w':World} {L':Int→Bool} {cnt':Nat} (hrg:Rg w' w.heap.size r (gof l) L' cnt') (hk:Keeps (fun y=>y = r) wr w'):G5 w wo F tb bl N l r L' cnt' es w' where
 rg:=hrg
 k:=⟨hk.os.trans h.k.os,hk.tape.trans h.k.tape,hk.output.trans h.k.output,Nat.le_trans h.k.size hk.size,fun b hb hF=>(hk.block b (Nat.lt_of_lt_of_le hb h.k.size) (by have:=h.rlt;omega)).trans (h.k.block b hb hF)⟩
 sz:=Nat.le_trans h.sz hk.size
 oth:=fun b hF hb=>(hk.block b (Nat.lt_of_lt_of_le (flt b hF) h.k.size) (by have:=flt b hF;have:=h.rlt;omega)).trans (h.oth b hF hb)
 things:=h.things.of_block (hk.block _ h.things.lt (by have:=flt _ htb;have:=h.rlt;omega))
 rlt:=h.rlt
theorem G5.drop (h:G5 w wo F tb bl N l r L cnt es wr) (hN:N.ok) (flt:∀ b,F b→b < w.heap.size) (htb:F tb) {x:Int} (hx:(Lit.int .i64 x).wf = true) (ty:TypeId) :
 ∃ w',(Builtin.delete_ #[137,25] ty #[.map (some tb),.int .i64 x]).run Tryz.prog wr = .ok (.tuple #[]) w'∧G5 w wo F tb bl N l r L cnt (es ++ [x]) w':=by
 obtain ⟨w',hrun,hm,ht⟩:=h.things.drop keyedRef Tryz.underlying137 (key_ref hx) ty (thf_delL N es x bl).1 (thf_delL N es x bl).2
 have hT:=Turned.of ht
 have hlt:=flt _ htb
 refine ⟨w',hrun,?_⟩
 exact {
  rg:=h.rg.of_blocks (hT.block (by omega)) (hT.block (by have:=h.rlt;omega))
  k:=h.k.trans hT.2 (fun _ _ h=>h) (fun x _ hx=>hx ▸ htb)
  sz:=by have:=hT.1;have:=h.sz;omega
  oth:=fun b hF hb=>(hT.block hb).trans (h.oth b hF hb)
  things:=by
   rw [WM.delL_len hN]
   have:(thf (N.delL es) bl (.int .i64 x)).isSome = ((N.delL es).at x).isSome:=by simp [thf]
   rw [this] at hm
   exact hm
  rlt:=h.rlt }
end
end Go.Proofs.YthaliljaglldjaaGreat
