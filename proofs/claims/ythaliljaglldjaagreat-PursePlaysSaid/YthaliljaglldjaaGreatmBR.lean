/- A part of the proof, several texts in one: R7Z, PyG. -/
import Derived.Test.YthaliljaglldjaaGreatmBE
import Derived.Test.YthaliljaglldjaaGreatmBQ
import Derived.Test.YthaliljaglldjaaGreatmBC
import Derived.Test.YthaliljaglldjaaGreatmBP
/- posternref07.Same at two worlds that are told alike: yes. -/
namespace Go.Proofs.YthaliljaglldjaaGreat
open Go.RowKit Go.ChangeMaps Go.MapKept
theorem intArg_at {w:World} {pa:Option Addr} {xs:List Int} (h:IntArg .i64 w pa xs) {i:Nat} {x:Int} (hx:xs[i]? = some x):∃ g o x',pa = some ⟨g,o,none⟩∧w.cell? ⟨g,o + i,none⟩ = some (.int .i64 x')∧x = x':=by
 rcases h with h | ⟨b,o,h1,-,h3⟩
 ·subst h
  simp at hx
 ·exact ⟨b,o,x,h1,h3 i x hx,rfl⟩
theorem execOp_ldSmP130 (ρ:Operand→Value) (ty:TypeId) (pos:String) (af:Array Edge) (g:Option (Nat × Bool)) :
 execOp ρ { dst:=some 130,op:=.load 46 (.tmp 129),type:=ty,pos:=pos,after:=af,guard:=g } = ldW (ρ (.tmp 129)):=rfl
theorem execOp_ldSmP136 (ρ:Operand→Value) (ty:TypeId) (pos:String) (af:Array Edge) (g:Option (Nat × Bool)) :
 execOp ρ { dst:=some 136,op:=.load 46 (.tmp 135),type:=ty,pos:=pos,after:=af,guard:=g } = ldW (ρ (.tmp 135)):=rfl
def SmP (B0 g g' m nt cT cT':Nat) (x:Int × Th) (rc rl:Value) (j:Nat) (v:Value) (_:World):Prop :=
 match j with
 | 0=>v = .pointer (some ⟨B0,2,none⟩)
 | 1=>v = .slice (some ⟨g,0,none⟩) nt cT
 | 2=>v = .int .i64 m
 | 3=>v = .pointer (some ⟨g,m * 17,none⟩)
 | 4=>v = .pointer (some ⟨g,m * 17,none⟩)
 | 5=>(v = .int .i64 x.1)
 | 6=>v = .pointer (some ⟨B0 + 1,2,none⟩)
 | 7=>v = .slice (some ⟨g',0,none⟩) nt cT'
 | 8=>v = .int .i64 m
 | 9=>v = .pointer (some ⟨g',m * 17,none⟩)
 | 10=>v = .pointer (some ⟨g',m * 17,none⟩)
 | 11=>(v = .int .i64 x.1)
 | 12=>(v = .bool false)
 | 13=>(v = .bool false)
 | 14=>v = .pointer (some ⟨B0,2,none⟩)
 | 15=>v = .slice (some ⟨g,0,none⟩) nt cT
 | 16=>v = .int .i64 m
 | 17=>v = .pointer (some ⟨g,m * 17,none⟩)
 | 18=>v = .pointer (some ⟨g,m * 17 + 1,none⟩)
 | 19=>v = .agg (thc x.2)
 | 20=>v = .pointer (some ⟨B0 + 1,2,none⟩)
 | 21=>v = .slice (some ⟨g',0,none⟩) nt cT'
 | 22=>v = .int .i64 m
 | 23=>v = .pointer (some ⟨g',m * 17,none⟩)
 | 24=>v = .pointer (some ⟨g',m * 17 + 1,none⟩)
 | 25=>v = .agg (thc { x.2 with vl:=rc,vals:=rl })
 | 26=>v = .bool true
 | 27=>v = .bool false
 | _=>True
set_option maxHeartbeats 8000000 in
set_option maxRecDepth 20000 in
theorem same7_W {w:World} {N1 N2:WM} {v1 v2:Value} (h1:ToldG N1 v1 w) (h2:ToldG N2 v2 w) (hA:Alike N1 N2) (hp:N1.parents.length ≤ 1000) (hm:N1.made.length ≤ 1000) (ht:N1.things.length ≤ 100000) (hwf:∀ x ∈ N1.things,x.2.v.wf∧(listV x.2.vs).wf) :
 Calls Tryz.prog 24 #[v1,v2] w fun e w'=>e = .returned (.bool true)∧Below w.heap.size w w':=by
 obtain ⟨pP,cP,pT,cT,pM,cM,l,rfl,rP,rM,lk,rT,dT⟩:=h1
 obtain ⟨pP',cP',pT',cT',pM',cM',l',rfl,rP',rM',lk',rT',dT'⟩:=h2
 rw [hA.par] at rP' ⊢
 rw [hA.made] at rM' ⊢
 rw [hA.last]
 have hl':l'.length = l.length:=by rw [lk'.1,hA.things.1,lk.1]
 rw [hl']
 obtain ⟨np,hnp⟩:∃ n,n = N1.parents.length:=⟨_,rfl⟩
 obtain ⟨nm,hnm⟩:∃ n,n = N1.made.length:=⟨_,rfl⟩
 obtain ⟨nt,hnt⟩:∃ n,n = l.length:=⟨_,rfl⟩
 have HP:Hid (∀ w',Below w.heap.size w w'→∀ i,i < np→∃ g o g' o' x,pP = some ⟨g,o,none⟩∧pP' = some ⟨g',o',none⟩∧w'.cell? ⟨g,o + i,none⟩ = some (.int .i64 x)∧w'.cell? ⟨g',o' + i,none⟩ = some (.int .i64 x)):=fun w' hb i hi=>by
  have hx:N1.parents[i]? = some _:=List.getElem?_eq_getElem (by omega)
  obtain ⟨g,o,x,e1,c1,e2⟩:=intArg_at (intArg_below rP hb) hx
  obtain ⟨g',o',x',e1',c1',e2'⟩:=intArg_at (intArg_below rP' hb) hx
  subst e2 e2'
  exact ⟨g,o,g',o',_,e1,e1',c1,c1'⟩
 have HM:Hid (∀ w',Below w.heap.size w w'→∀ i,i < nm→∃ g o g' o' x,pM = some ⟨g,o,none⟩∧pM' = some ⟨g',o',none⟩∧w'.cell? ⟨g,o + i,none⟩ = some (.int .i64 x)∧w'.cell? ⟨g',o' + i,none⟩ = some (.int .i64 x)):=fun w' hb i hi=>by
  have hx:N1.made[i]? = some _:=List.getElem?_eq_getElem (by omega)
  obtain ⟨g,o,x,e1,c1,e2⟩:=intArg_at (intArg_below rM hb) hx
  obtain ⟨g',o',x',e1',c1',e2'⟩:=intArg_at (intArg_below rM' hb) hx
  subst e2 e2'
  exact ⟨g,o,g',o',_,e1,e1',c1,c1'⟩
 have HN:Hid (np ≤ 1000∧nm ≤ 1000∧nt ≤ 100000):=⟨by omega,by omega,by rw [hnt,lk.1];exact ht⟩
 have HT:Hid (∀ w',Below w.heap.size w w'→∀ i,i < nt→∃ g g' x vl vals,pT = some ⟨g,0,none⟩∧pT' = some ⟨g',0,none⟩∧(∀ k v,(entc x)[k]? = some v→w'.cell? ⟨g,i * 17 + k,none⟩ = some v)∧(∀ k v,(entc (x.1,{ x.2 with vl:=vl,vals:=vals }))[k]? = some v→w'.cell? ⟨g',i * 17 + k,none⟩ = some v) ∧
  ∀ w2,Below w.heap.size w w2→Calls Tryz.prog 110 #[.agg (thc x.2),.agg (thc { x.2 with vl:=vl,vals:=vals })] w2 fun e w''=>e = .returned (.bool true)∧Below w2.heap.size w2 w''):=fun w' hb i hi=>by
  have hx:l[i]? = some _:=List.getElem?_eq_getElem (by omega)
  obtain ⟨vl,vals,hx'⟩:=hA.things.two lk lk' hx
  obtain ⟨g,e,hg,hc⟩:=rT i _ hx
  obtain ⟨g',e',hg',hc'⟩:=rT' i _ hx'
  obtain ⟨y,hy,hye,vly,valsy,hyt⟩:=lk.mem' (List.mem_of_getElem? hx)
  obtain ⟨hw1,hw2⟩:=hwf y hy
  have d:=dT _ (List.mem_of_getElem? hx)
  have d':=dT' _ (List.mem_of_getElem? hx')
  have ev:l[i].2.v = y.2.v:=by rw [hyt]
  have evs:l[i].2.vs = y.2.vs:=by rw [hyt]
  exact ⟨g,g',l[i],vl,vals,e,e',fun k v hv=>(World.cell?_of_block (a:=⟨g,i * 17 + k,none⟩) (hb.block g hg)).trans (hc k v hv),fun k v hv=>(World.cell?_of_block (a:=⟨g',i * 17 + k,none⟩) (hb.block g' hg')).trans (hc' k v hv),
   fun w2 hb2=>sameWhat7_W l[i].2 vl vals (d.v.on hb2) (d.vs.on hb2) (d'.v.on hb2) (d'.vs.on hb2) (by rw [ev];exact hw1) (by rw [evs];exact hw2) d.code d.names⟩
 have HOn:Hid (∀ x ∈ l,(thc x.2).all (·.oneCell') = true):=fun x hx=>by
  have d:=dT x hx
  obtain ⟨a,b,e⟩:=d.v.form
  obtain ⟨a',b',e'⟩:=d.vs.form
  simp only [thc,d.code,d.names,e,e']
  simp [go_sem]
 rw [← hnp,← hnm,← hnt]
 clear rP rP' rM rM' hnp hnm rT rT' lk lk' hl' hnt hA hp hm ht dT dT' hwf
 have H0:Hid (∀ wx,wx = (w.alloc (.cells #[.slice pP np cP,.slice none 0 0,.slice pT nt cT,.int .i64 N1.last,.slice pM nm cM] 67)).alloc (.cells #[.slice pP' np cP',.slice none 0 0,.slice pT' nt cT',.int .i64 N1.last,.slice pM' nm cM'] 67)→Below w.heap.size w wx∧wx.heap[w.heap.size]? = some (.cells #[.slice pP np cP,.slice none 0 0,.slice pT nt cT,.int .i64 N1.last,.slice pM nm cM] 67 (0,0))∧wx.heap[w.heap.size + 1]? = some (.cells #[.slice pP' np cP',.slice none 0 0,.slice pT' nt cT',.int .i64 N1.last,.slice pM' nm cM'] 67 (0,0))):=fun wx e=>by
  subst e
  exact ⟨((Below.refl _ w).alloc (Nat.le_refl _) _).alloc (by simp) _,blk2_old _ _ _,blk2_new _ _ _⟩
 go_enter Tryz.func24,Tryz.ntmps24
 go_upto_region 1 with fail
 have H1:=(show Hid (_∧_∧_) from H0.out _ rfl)
 revert H1
 generalize World.alloc (World.alloc w _) _ = w1
 intro H1
 clear H0
 obtain ⟨⟨c0,c1,c2,c3,c4⟩,-⟩:=cells5 H1.out.2.1
 obtain ⟨⟨d0,d1,d2,d3,d4⟩,-⟩:=cells5 H1.out.2.2
 go_wp2_with fail
 clear c0 c1 c2 c3 c4 d0 d1 d2 d3 d4
 go_loopw [5] (fun vi wr=>∃ i:Nat,vi = .int .i64 i∧i ≤ np∧Hid (Below w1.heap.size w1 wr)) (fun vi _=>np - (intOf vi).toNat)
 case atStart=>exact ⟨0,rfl,Nat.zero_le _,Below.refl _ _⟩
 case round =>
  obtain ⟨i,rfl,hi,HB⟩:=hrel
  obtain ⟨⟨c0,c1,c2,c3,c4⟩,-⟩:=cells5 (below_blk HB.out H1.out.2.1)
  obtain ⟨⟨d0,d1,d2,d3,d4⟩,-⟩:=cells5 (below_blk HB.out H1.out.2.2)
  by_cases hin:i < np
  ·have hiz:(i:Int) < (np:Int):=by omega
   have hi0:(0:Int) ≤ (i:Int):=by omega
   obtain ⟨g,o,g',o',x,e1,e2,a1,a2⟩:=HP.out wr (H1.out.1.trans (HB.out.mono H1.out.1.size)) i hin
   subst e1 e2
   have hwi:wrap64 ((i:Int) + 1) = (i:Int) + 1:=by have:=HN.out;unfold wrap64;omega
   have b0:wr.drew.cell? _ = _:=c0
   have b1:wr.drew.cell? _ = _:=d0
   have b2:wr.drew.cell? _ = _:=a1
   have b3:wr.drew.cell? _ = _:=a2
   have HBd:Hid (Below w1.heap.size w1 wr.drew):=HB.out.trans (below_drew.mono HB.out.size)
   go_upto_region 6 with fail
   go_region
   all_goals
    go_wp2_with fail
    go_roundw
    case rel=>exact ⟨i + 1,by go_num,by omega,HBd.out⟩
    case measure=>(rw [hwi];clear hwi;simp [intOf];omega)
  ·have hiz:¬ (i:Int) < (np:Int):=by omega
   obtain rfl:i = np:=by omega
   have hkk:¬ (i:Int) < (i:Int):=by omega
   go_wp2_with fail
   go_loopw [6] (fun vi wx=>vi = .int .i64 0∧wr = wx) (fun _ _=>0)
   case atStart=>exact ⟨rfl,rfl⟩
   case round =>
    obtain ⟨rfl,rfl⟩:=hrel
    go_wp2_with fail
    clear c0 c1 c2 c3 c4 d0 d1 d2 d3 d4
    go_loopw [7] (fun vi wr=>∃ k:Nat,vi = .int .i64 k∧k ≤ nm∧Hid (Below w1.heap.size w1 wr)) (fun vi _=>nm - (intOf vi).toNat)
    case atStart=>exact ⟨0,rfl,Nat.zero_le _,HB.out⟩
    case round =>
     obtain ⟨k,rfl,hk,HB3⟩:=hrel
     obtain ⟨⟨c0,c1,c2,c3,c4⟩,-⟩:=cells5 (below_blk HB3.out H1.out.2.1)
     obtain ⟨⟨d0,d1,d2,d3,d4⟩,-⟩:=cells5 (below_blk HB3.out H1.out.2.2)
     by_cases hin:k < nm
     ·have hiz:(k:Int) < (nm:Int):=by omega
      have hi0:(0:Int) ≤ (k:Int):=by omega
      obtain ⟨g,o,g',o',x,e1,e2,a1,a2⟩:=HM.out wr (H1.out.1.trans (HB3.out.mono H1.out.1.size)) k hin
      subst e1 e2
      have hwi:wrap64 ((k:Int) + 1) = (k:Int) + 1:=by have:=HN.out;unfold wrap64;omega
      have b0:wr.drew.cell? _ = _:=c4
      have b1:wr.drew.cell? _ = _:=d4
      have b2:wr.drew.cell? _ = _:=a1
      have b3:wr.drew.cell? _ = _:=a2
      have HBd:Hid (Below w1.heap.size w1 wr.drew):=HB3.out.trans (below_drew.mono HB3.out.size)
      go_upto_region 16 with fail
      go_region
      all_goals
       go_wp2_with fail
       go_roundw
       case rel=>exact ⟨k + 1,by go_num,by omega,HBd.out⟩
       case measure=>(rw [hwi];clear hwi;simp [intOf];omega)
     ·have hiz:¬ (k:Int) < (nm:Int):=by omega
      obtain rfl:k = nm:=by omega
      have hkk:¬ (k:Int) < (k:Int):=by omega
      go_wp2_with fail
      clear c0 c1 c2 c3 c4 d0 d1 d2 d3 d4
      go_loopw [8] (fun vi wr=>∃ m:Nat,vi = .int .i64 m∧m ≤ nt∧Hid (Below w1.heap.size w1 wr)) (fun vi _=>nt - (intOf vi).toNat)
      case atStart=>exact ⟨0,rfl,Nat.zero_le _,HB3.out⟩
      case round =>
       obtain ⟨m,rfl,hm,HB4⟩:=hrel
       obtain ⟨⟨c0,c1,c2,c3,c4⟩,-⟩:=cells5 (below_blk HB4.out H1.out.2.1)
       obtain ⟨⟨d0,d1,d2,d3,d4⟩,-⟩:=cells5 (below_blk HB4.out H1.out.2.2)
       by_cases hmn:m < nt
       ·have hmz:(m:Int) < (nt:Int):=by omega
        have hm0:(0:Int) ≤ (m:Int):=by omega
        obtain ⟨g,g',x,vl,vals,e1,e2,h1,h2,hsw⟩:=HT.out wr (H1.out.1.trans (HB4.out.mono H1.out.1.size)) m hmn
        subst e1 e2
        have HX1:=(show Hid (∀ k v,(entc x)[k]? = some v→wr.cell? ⟨g,m * 17 + k,none⟩ = some v) from h1)
        have HX2:=(show Hid (∀ k v,(entc (x.1,{ x.2 with vl:=vl,vals:=vals }))[k]? = some v→wr.cell? ⟨g',m * 17 + k,none⟩ = some v) from h2)
        have HSW:=(show Hid (∀ w2,Below wr.heap.size wr w2→Calls Tryz.prog 110 #[.agg (thc x.2),.agg (thc { x.2 with vl:=vl,vals:=vals })] w2 fun e w''=>e = .returned (.bool true)∧Below w2.heap.size w2 w'') from fun w2 hb=>hsw w2 ((H1.out.1.trans (HB4.out.mono H1.out.1.size)).trans (hb.mono (H1.out.1.trans (HB4.out.mono H1.out.1.size)).size)))
        have Hlt:Hid (g < wr.heap.size∧g' < wr.heap.size):=⟨World.block_lt_of_cell? _ _ (h1 0 _ rfl),World.block_lt_of_cell? _ _ (h2 0 _ rfl)⟩
        have HQ1:=(show Hid (wr.heap[w.heap.size]? = some (.cells #[.slice pP i cP,.slice none 0 0,.slice (some ⟨g,0,none⟩) nt cT,.int .i64 N1.last,.slice pM k cM] 67 (0,0))) from below_blk HB4.out H1.out.2.1)
        have HQ2:=(show Hid (wr.heap[w.heap.size + 1]? = some (.cells #[.slice pP' i cP',.slice none 0 0,.slice (some ⟨g',0,none⟩) nt cT',.int .i64 N1.last,.slice pM' k cM'] 67 (0,0))) from below_blk HB4.out H1.out.2.2)
        have hwi:wrap64 ((m:Int) + 1) = (m:Int) + 1:=by have:=HN.out;unfold wrap64;omega
        clear h1 h2 hsw c0 c1 c2 c3 c4 d0 d1 d2 d3 d4
        obtain ⟨⟨c0,c1,c2,c3,c4⟩,-⟩:=cells5 HQ1.out
        go_upto_region 21 with fail
        obtain ⟨B0,hB0⟩:∃ B0,B0 = w.heap.size:=⟨_,rfl⟩
        rw [← hB0] at HQ1 HQ2 ⊢
        clear c0 c1 c2 c3 c4
        refine wp_region_growK 28 (by kernel_rfl) rfl (by kernel_rfl) (by kernel_rfl) (fun a b=>Below a.heap.size a b) (SmP B0 g g' m nt cT cT' x vl vals) (fun w'=>Below wr.heap.size wr w') (fun j v w w' _ h=>h) below_drew (fun a b h hR=>h.trans (hR.mono h.size)) ?_ ?_ ?_
        ·intro j q g b hq hgd
         have hj:j < 28:=(List.getElem?_eq_some_iff.1 hq).1
         match j,hj with
         | 0,_=>cases hq;cases hgd
         | 1,_=>cases hq;cases hgd
         | 2,_=>cases hq;cases hgd
         | 3,_=>cases hq;cases hgd
         | 4,_=>cases hq;cases hgd
         | 5,_=>cases hq;cases hgd
         | 6,_=>cases hq;cases hgd
         | 7,_=>cases hq;cases hgd
         | 8,_=>cases hq;cases hgd
         | 9,_=>cases hq;cases hgd
         | 10,_=>cases hq;cases hgd
         | 11,_=>cases hq;cases hgd
         | 12,_=>cases hq;cases hgd
         | 13,_=>cases hq;cases hgd
         | 14,_=>cases hq;cases hgd;exact fun v w h=>h
         | 15,_=>cases hq;cases hgd;exact fun v w h=>h
         | 16,_=>cases hq;cases hgd;exact fun v w h=>h
         | 17,_=>cases hq;cases hgd;exact fun v w h=>h
         | 18,_=>cases hq;cases hgd;exact fun v w h=>h
         | 19,_=>cases hq;cases hgd;exact fun v w h=>h
         | 20,_=>cases hq;cases hgd;exact fun v w h=>h
         | 21,_=>cases hq;cases hgd;exact fun v w h=>h
         | 22,_=>cases hq;cases hgd;exact fun v w h=>h
         | 23,_=>cases hq;cases hgd;exact fun v w h=>h
         | 24,_=>cases hq;cases hgd;exact fun v w h=>h
         | 25,_=>cases hq;cases hgd;exact fun v w h=>h
         | 26,_=>cases hq;cases hgd;exact fun v w h=>h
         | 27,_=>cases hq;cases hgd;exact fun v w h=>h
        ·intro j q a w7 hq hC hG
         have hj:j < 28:=(List.getElem?_eq_some_iff.1 hq).1
         match j,hj with
         | 0,_=>cases hq;have h2':a.tmps[2]?.getD undef = .pointer (some ⟨B0,0,none⟩):=gq (hG.fr 2 (by simp));unfold Oper.wp;simp [go_sem,Act.eval,h2'];exact ⟨_,rfl,Below.refl _ _,rfl⟩
         | 1,_ =>
           cases hq
           have h111':a.tmps[111]?.getD undef = .pointer (some ⟨B0,2,none⟩):=gq (hG.dep ⟨0,.data⟩ (by simp) rfl _ rfl)
           have c3:w7.cell? ⟨B0,2,none⟩ = some (.slice (some ⟨g,0,none⟩) nt cT):=by rw [cell_blk (below_blk hC HQ1.out)];rfl
           unfold Oper.wp
           simp [go_sem,Act.eval,h111',c3]
           exact ⟨_,rfl,Below.refl _ _,rfl⟩
         | 2,_=>cases hq;have h8':a.tmps[8]?.getD undef = .int .i64 m:=gq (hG.fr 8 (by simp));unfold Oper.wp;simp [go_sem,Act.eval,h8'];exact ⟨_,rfl,Below.refl _ _,rfl⟩
         | 3,_=>cases hq;have h112':a.tmps[112]?.getD undef = .slice (some ⟨g,0,none⟩) nt cT:=gq (hG.dep ⟨1,.data⟩ (by simp) rfl _ rfl);have h113':a.tmps[113]?.getD undef = .int .i64 m:=gq (hG.dep ⟨2,.data⟩ (by simp) rfl _ rfl);unfold Oper.wp;simp [go_sem,Act.eval,h112',h113',hmz,hm0];exact ⟨_,rfl,Below.refl _ _,rfl⟩
         | 4,_=>cases hq;have h114':a.tmps[114]?.getD undef = .pointer (some ⟨g,m * 17,none⟩):=gq (hG.dep ⟨3,.data⟩ (by simp) rfl _ rfl);unfold Oper.wp;simp [go_sem,Act.eval,h114'];exact ⟨_,rfl,Below.refl _ _,rfl⟩
         | 5,_ =>
           cases hq
           have h115':a.tmps[115]?.getD undef = .pointer (some ⟨g,m * 17,none⟩):=gq (hG.dep ⟨4,.data⟩ (by simp) rfl _ rfl)
           have c3:w7.cell? ⟨g,m * 17,none⟩ = some (.int .i64 x.1):=(World.cell?_of_block (a:=⟨g,m * 17,none⟩) (hC.block g Hlt.out.1)).trans (HX1.out 0 _ rfl)
           unfold Oper.wp
           simp [go_sem,Act.eval,h115',c3]
           exact ⟨_,rfl,Below.refl _ _,rfl⟩
         | 6,_=>cases hq;have h3':a.tmps[3]?.getD undef = .pointer (some ⟨B0 + 1,0,none⟩):=gq (hG.fr 3 (by simp));unfold Oper.wp;simp [go_sem,Act.eval,h3'];exact ⟨_,rfl,Below.refl _ _,rfl⟩
         | 7,_ =>
           cases hq
           have h117':a.tmps[117]?.getD undef = .pointer (some ⟨B0 + 1,2,none⟩):=gq (hG.dep ⟨6,.data⟩ (by simp) rfl _ rfl)
           have c3:w7.cell? ⟨B0 + 1,2,none⟩ = some (.slice (some ⟨g',0,none⟩) nt cT'):=by rw [cell_blk (below_blk hC HQ2.out)];rfl
           unfold Oper.wp
           simp [go_sem,Act.eval,h117',c3]
           exact ⟨_,rfl,Below.refl _ _,rfl⟩
         | 8,_=>cases hq;have h8':a.tmps[8]?.getD undef = .int .i64 m:=gq (hG.fr 8 (by simp));unfold Oper.wp;simp [go_sem,Act.eval,h8'];exact ⟨_,rfl,Below.refl _ _,rfl⟩
         | 9,_=>cases hq;have h118':a.tmps[118]?.getD undef = .slice (some ⟨g',0,none⟩) nt cT':=gq (hG.dep ⟨7,.data⟩ (by simp) rfl _ rfl);have h119':a.tmps[119]?.getD undef = .int .i64 m:=gq (hG.dep ⟨8,.data⟩ (by simp) rfl _ rfl);unfold Oper.wp;simp [go_sem,Act.eval,h118',h119',hmz,hm0];exact ⟨_,rfl,Below.refl _ _,rfl⟩
         | 10,_=>cases hq;have h120':a.tmps[120]?.getD undef = .pointer (some ⟨g',m * 17,none⟩):=gq (hG.dep ⟨9,.data⟩ (by simp) rfl _ rfl);unfold Oper.wp;simp [go_sem,Act.eval,h120'];exact ⟨_,rfl,Below.refl _ _,rfl⟩
         | 11,_ =>
           cases hq
           have h121':a.tmps[121]?.getD undef = .pointer (some ⟨g',m * 17,none⟩):=gq (hG.dep ⟨10,.data⟩ (by simp) rfl _ rfl)
           have c3:w7.cell? ⟨g',m * 17,none⟩ = some (.int .i64 x.1):=(World.cell?_of_block (a:=⟨g',m * 17,none⟩) (hC.block g' Hlt.out.2)).trans (HX2.out 0 _ rfl)
           unfold Oper.wp
           simp [go_sem,Act.eval,h121',c3]
           exact ⟨_,rfl,Below.refl _ _,rfl⟩
         | 12,_ =>
           cases hq
           have h116:a.tmps.getD 116 undef = .int .i64 x.1:=hG.dep ⟨5,.data⟩ (by simp) rfl _ rfl
           have h122:a.tmps.getD 122 undef = .int .i64 x.1:=hG.dep ⟨11,.data⟩ (by simp) rfl _ rfl
           have h116':a.tmps[116]?.getD undef = .int .i64 x.1:=gq h116
           have h122':a.tmps[122]?.getD undef = .int .i64 x.1:=gq h122
           unfold Oper.wp
           simp [go_sem,Act.eval,h116',h122']
           exact ⟨_,rfl,Below.refl _ _,rfl⟩
         | 13,_=>cases hq;have h123':a.tmps[123]?.getD undef = .bool false:=gq (hG.dep ⟨12,.data⟩ (by simp) rfl _ rfl);unfold Oper.wp;simp [go_sem,Act.eval,h123'];exact ⟨_,rfl,Below.refl _ _,rfl⟩
         | 14,_=>cases hq;have h2':a.tmps[2]?.getD undef = .pointer (some ⟨B0,0,none⟩):=gq (hG.fr 2 (by simp));unfold Oper.wp;simp [go_sem,Act.eval,h2'];exact ⟨_,rfl,Below.refl _ _,rfl⟩
         | 15,_ =>
           cases hq
           have h125':a.tmps[125]?.getD undef = .pointer (some ⟨B0,2,none⟩):=gq (hG.dep ⟨14,.data⟩ (by simp) rfl _ rfl)
           have c3:w7.cell? ⟨B0,2,none⟩ = some (.slice (some ⟨g,0,none⟩) nt cT):=by rw [cell_blk (below_blk hC HQ1.out)];rfl
           unfold Oper.wp
           simp [go_sem,Act.eval,h125',c3]
           exact ⟨_,rfl,Below.refl _ _,rfl⟩
         | 16,_=>cases hq;have h8':a.tmps[8]?.getD undef = .int .i64 m:=gq (hG.fr 8 (by simp));unfold Oper.wp;simp [go_sem,Act.eval,h8'];exact ⟨_,rfl,Below.refl _ _,rfl⟩
         | 17,_=>cases hq;have h126':a.tmps[126]?.getD undef = .slice (some ⟨g,0,none⟩) nt cT:=gq (hG.dep ⟨15,.data⟩ (by simp) rfl _ rfl);have h127':a.tmps[127]?.getD undef = .int .i64 m:=gq (hG.dep ⟨16,.data⟩ (by simp) rfl _ rfl);unfold Oper.wp;simp [go_sem,Act.eval,h126',h127',hmz,hm0];exact ⟨_,rfl,Below.refl _ _,rfl⟩
         | 18,_=>cases hq;have h128':a.tmps[128]?.getD undef = .pointer (some ⟨g,m * 17,none⟩):=gq (hG.dep ⟨17,.data⟩ (by simp) rfl _ rfl);unfold Oper.wp;simp [go_sem,Act.eval,h128'];exact ⟨_,rfl,Below.refl _ _,rfl⟩
         | 19,_ =>
           cases hq
           have h129:a.tmps.getD 129 undef = .pointer (some ⟨g,m * 17 + 1,none⟩):=hG.dep ⟨18,.data⟩ (by simp) rfl _ rfl
           refine step_g (.agg (thc x.2)) ?_ (Below.refl _ _) rfl
           rw [execOp_ldSmP130]
           show (ldW (a.tmps.getD 129 undef)).run _ _ = _
           rw [h129]
           exact loadWhat_mid fun k v hv=>by have:=(World.cell?_of_block (a:=⟨g,m * 17 + (k + 1),none⟩) (hC.block g Hlt.out.1)).trans (HX1.out (k + 1) v (by rw [← hv];show (_ :: (thc x.2).toList)[k + 1]? = _;simp));rw [show m * 17 + 1 + k = m * 17 + (k + 1) by omega];exact this
         | 20,_=>cases hq;have h3':a.tmps[3]?.getD undef = .pointer (some ⟨B0 + 1,0,none⟩):=gq (hG.fr 3 (by simp));unfold Oper.wp;simp [go_sem,Act.eval,h3'];exact ⟨_,rfl,Below.refl _ _,rfl⟩
         | 21,_ =>
           cases hq
           have h131':a.tmps[131]?.getD undef = .pointer (some ⟨B0 + 1,2,none⟩):=gq (hG.dep ⟨20,.data⟩ (by simp) rfl _ rfl)
           have c3:w7.cell? ⟨B0 + 1,2,none⟩ = some (.slice (some ⟨g',0,none⟩) nt cT'):=by rw [cell_blk (below_blk hC HQ2.out)];rfl
           unfold Oper.wp
           simp [go_sem,Act.eval,h131',c3]
           exact ⟨_,rfl,Below.refl _ _,rfl⟩
         | 22,_=>cases hq;have h8':a.tmps[8]?.getD undef = .int .i64 m:=gq (hG.fr 8 (by simp));unfold Oper.wp;simp [go_sem,Act.eval,h8'];exact ⟨_,rfl,Below.refl _ _,rfl⟩
         | 23,_=>cases hq;have h132':a.tmps[132]?.getD undef = .slice (some ⟨g',0,none⟩) nt cT':=gq (hG.dep ⟨21,.data⟩ (by simp) rfl _ rfl);have h133':a.tmps[133]?.getD undef = .int .i64 m:=gq (hG.dep ⟨22,.data⟩ (by simp) rfl _ rfl);unfold Oper.wp;simp [go_sem,Act.eval,h132',h133',hmz,hm0];exact ⟨_,rfl,Below.refl _ _,rfl⟩
         | 24,_=>cases hq;have h134':a.tmps[134]?.getD undef = .pointer (some ⟨g',m * 17,none⟩):=gq (hG.dep ⟨23,.data⟩ (by simp) rfl _ rfl);unfold Oper.wp;simp [go_sem,Act.eval,h134'];exact ⟨_,rfl,Below.refl _ _,rfl⟩
         | 25,_ =>
           cases hq
           have h135:a.tmps.getD 135 undef = .pointer (some ⟨g',m * 17 + 1,none⟩):=hG.dep ⟨24,.data⟩ (by simp) rfl _ rfl
           refine step_g (.agg (thc { x.2 with vl:=vl,vals:=vals })) ?_ (Below.refl _ _) rfl
           rw [execOp_ldSmP136]
           show (ldW (a.tmps.getD 135 undef)).run _ _ = _
           rw [h135]
           exact loadWhat_mid fun k v hv=>by have:=(World.cell?_of_block (a:=⟨g',m * 17 + (k + 1),none⟩) (hC.block g' Hlt.out.2)).trans (HX2.out (k + 1) v (by rw [← hv];show (_ :: (thc { x.2 with vl:=vl,vals:=vals }).toList)[k + 1]? = _;simp));rw [show m * 17 + 1 + k = m * 17 + (k + 1) by omega];exact this
         | 26,_ =>
           cases hq
           have h130':a.tmps[130]?.getD undef = .agg (thc x.2):=gq (hG.dep ⟨19,.data⟩ (by simp) rfl _ rfl)
           have h136:a.tmps.getD 136 undef = .agg (thc { x.2 with vl:=vl,vals:=vals }):=hG.dep ⟨25,.data⟩ (by simp) rfl _ rfl
           have h136':a.tmps[136]?.getD undef = .agg (thc { x.2 with vl:=vl,vals:=vals }):=gq h136
           unfold Oper.wp
           simp [go_sem,callFunc,Act.eval,Tryz.func110,h130',h136']
           refine Calls.mono (HSW.out _ hC) ?_
           rintro e w8 ⟨rfl,hb8⟩
           exact ⟨_,rfl,hb8,rfl⟩
         | 27,_=>cases hq;have h137':a.tmps[137]?.getD undef = .bool true:=gq (hG.dep ⟨26,.data⟩ (by simp) rfl _ rfl);unfold Oper.wp;simp [go_sem,Act.eval,h137'];exact ⟨_,rfl,Below.refl _ _,rfl⟩
        intro a w7 hC hdf hsz hfr hphi
        have e0:a.tmps.getD 111 undef = .pointer (some ⟨B0,2,none⟩):=hphi 0 _ rfl
        have e1:a.tmps.getD 112 undef = .slice (some ⟨g,0,none⟩) nt cT:=hphi 1 _ rfl
        have e2:a.tmps.getD 113 undef = .int .i64 m:=hphi 2 _ rfl
        have e3:a.tmps.getD 114 undef = .pointer (some ⟨g,m * 17,none⟩):=hphi 3 _ rfl
        have e4:a.tmps.getD 115 undef = .pointer (some ⟨g,m * 17,none⟩):=hphi 4 _ rfl
        have p5:((a.tmps.getD 116 undef) = .int .i64 x.1):=hphi 5 _ rfl
        obtain ⟨u5,e5⟩:∃ u,a.tmps.getD 116 undef = u:=⟨_,rfl⟩
        rw [e5] at p5
        have e6:a.tmps.getD 117 undef = .pointer (some ⟨B0 + 1,2,none⟩):=hphi 6 _ rfl
        have e7:a.tmps.getD 118 undef = .slice (some ⟨g',0,none⟩) nt cT':=hphi 7 _ rfl
        have e8:a.tmps.getD 119 undef = .int .i64 m:=hphi 8 _ rfl
        have e9:a.tmps.getD 120 undef = .pointer (some ⟨g',m * 17,none⟩):=hphi 9 _ rfl
        have e10:a.tmps.getD 121 undef = .pointer (some ⟨g',m * 17,none⟩):=hphi 10 _ rfl
        have p11:((a.tmps.getD 122 undef) = .int .i64 x.1):=hphi 11 _ rfl
        obtain ⟨u11,e11⟩:∃ u,a.tmps.getD 122 undef = u:=⟨_,rfl⟩
        rw [e11] at p11
        have p12:((a.tmps.getD 123 undef) = .bool false):=hphi 12 _ rfl
        obtain ⟨u12,e12⟩:∃ u,a.tmps.getD 123 undef = u:=⟨_,rfl⟩
        rw [e12] at p12
        have p13:((a.tmps.getD 124 undef) = .bool false):=hphi 13 _ rfl
        obtain ⟨u13,e13⟩:∃ u,a.tmps.getD 124 undef = u:=⟨_,rfl⟩
        rw [e13] at p13
        have e14:a.tmps.getD 125 undef = .pointer (some ⟨B0,2,none⟩):=hphi 14 _ rfl
        have e15:a.tmps.getD 126 undef = .slice (some ⟨g,0,none⟩) nt cT:=hphi 15 _ rfl
        have e16:a.tmps.getD 127 undef = .int .i64 m:=hphi 16 _ rfl
        have e17:a.tmps.getD 128 undef = .pointer (some ⟨g,m * 17,none⟩):=hphi 17 _ rfl
        have e18:a.tmps.getD 129 undef = .pointer (some ⟨g,m * 17 + 1,none⟩):=hphi 18 _ rfl
        have e19:a.tmps.getD 130 undef = .agg (thc x.2):=hphi 19 _ rfl
        have e20:a.tmps.getD 131 undef = .pointer (some ⟨B0 + 1,2,none⟩):=hphi 20 _ rfl
        have e21:a.tmps.getD 132 undef = .slice (some ⟨g',0,none⟩) nt cT':=hphi 21 _ rfl
        have e22:a.tmps.getD 133 undef = .int .i64 m:=hphi 22 _ rfl
        have e23:a.tmps.getD 134 undef = .pointer (some ⟨g',m * 17,none⟩):=hphi 23 _ rfl
        have e24:a.tmps.getD 135 undef = .pointer (some ⟨g',m * 17 + 1,none⟩):=hphi 24 _ rfl
        have e25:a.tmps.getD 136 undef = .agg (thc { x.2 with vl:=vl,vals:=vals }):=hphi 25 _ rfl
        have e26:a.tmps.getD 137 undef = .bool true:=hphi 26 _ rfl
        have e27:a.tmps.getD 138 undef = .bool false:=hphi 27 _ rfl
        have ha:=act_of hdf hsz hfr
        simp only [List.take_succ_cons,List.take_zero,List.filterMap_cons,List.filterMap_nil,List.foldl_cons,List.foldl_nil,List.setIfInBounds_toArray,List.set_cons_zero,List.set_cons_succ,e0,e1,e2,e3,e4,e5,e6,e7,e8,e9,e10,e11,e12,e13,e14,e15,e16,e17,e18,e19,e20,e21,e22,e23,e24,e25,e26,e27] at ha
        clear hdf hsz hfr hphi e0 e1 e2 e3 e4 e5 e6 e7 e8 e9 e10 e11 e12 e13 e14 e15 e16 e17 e18 e19 e20 e21 e22 e23 e24 e25 e26 e27
        subst ha
        have HB5:Hid (Below w1.heap.size w1 w7):=HB4.out.trans (hC.mono HB4.out.size)
        have e138:u13 = .bool false:=p13
        subst e138
        subst hB0
        clear hC HQ1 HQ2 HSW HX1 HX2 Hlt
        refine ⟨rfl,?_⟩
        unfold Oper.wp
        simp [execOp,go_sem,Act.eval,wpTailG]
        refine ‹∀ (a:Act) (w:World),Code.wp Tryz.prog _ _ a w→_› _ _ ?_
        go_wp2_with fail
        go_roundw
        case rel=>exact ⟨m + 1,by go_num,by omega,HB5.out⟩
        case measure=>(rw [hwi];clear hwi;simp [intOf];omega)
       ·have hmz:¬ (m:Int) < (nt:Int):=by omega
        obtain rfl:m = nt:=by omega
        have hkk4:¬ (m:Int) < (m:Int):=by omega
        have HF:Hid (Below w.heap.size w wr):=H1.out.1.trans (HB4.out.mono H1.out.1.size)
        go_wp2_with fail
        go_ret
        exact ⟨rfl,HF.out⟩
end Go.Proofs.YthaliljaglldjaaGreat
/- PursePlays: its loop. -/
namespace Go.Proofs.YthaliljaglldjaaGreat
open Go.RowKit Go.ChangeMaps Go.MapKept
variable {w:World} {p q:Nat} {M:WM} {F G:Nat→Prop}
def PI (w0:World) (p q:Nat) (c:Int) (wr:World):Prop:=∃ M F G,PS wr p q M F G∧M.last ≤ c∧(∀ b,F b∨G b→w0.heap.size ≤ b)∧Below w0.heap.size w0 wr
theorem likeT_refl (l:List (Int × Th)):LikeT l l:=⟨rfl,fun _ x hx=>⟨x.2.vl,x.2.vals,hx⟩⟩
theorem PS.both (S:PS w p q M F G) (hl:M.last ≤ 100000):Both w p q M M F G where
 W:=S.W
 R:=S.R
 ap:=S.ap
 al:=⟨rfl,rfl,rfl,likeT_refl _⟩
 one:=fun x hx=>((S.pp.qok hl).good.ok.cell x hx).1
 may:=fun r t ht=>by
  obtain ⟨k,h,n,l,tg,e⟩:=(S.pp.at ht).lt
  exact ⟨_,_,_,_,_,_,_,_,e⟩
 wfs:=fun x hx=>by
  obtain ⟨k,h,n,l,tg,e⟩:=S.pp.ltM x hx
  rw [e]
  exact ⟨nil_wf,nilL_wf⟩
 cutM:=S.pp.cuts
 cutN:=fun b hb=>S.pp.cuts b (List.mem_of_mem_drop hb)
 cutL:=by rw [List.length_drop,S.pp.ok.cuts];rfl
 kp:=fun r t ht hk=>absurd hk (S.pp.at ht).kinds.2.2.2
theorem told2 {w0 wr:World} {c:Int} (hI:PI w0 p q c wr) (hc:c ≤ 100000) :
 Calls Tryz.prog 25 #[.pointer (some ⟨p,0,none⟩)] wr fun e w1=>∃ v1,e = .returned v1∧Calls Tryz.prog 26 #[.pointer (some ⟨q,0,none⟩)] w1 fun e w2=>∃ v2,e = .returned v2 ∧
  Calls Tryz.prog 24 #[v1,v2] w2 fun e w3=>e = .returned (.bool true)∧PI w0 p q c w3:=by
 obtain ⟨M,F,G,S,hl,hF,hb⟩:=hI
 have hB:=S.both (by omega)
 have hM:=hB.W.ok
 have hlen:=hB.lenM
 have hp:M.parents.length ≤ 15:=by have:=hM.sides;omega
 have hmd:M.made.length = M.parents.length + 1:=hM.made
 refine (Tell_G hB.W hB.may hB.cutM (by omega)).mono ?_
 rintro e w1 ⟨v1,rfl,h1,hb1⟩
 refine ⟨v1,rfl,(tell7_W (hB.R.below hb1) (hB.good (by omega)).ok hB.rmay hp hB.cutN hB.cutL (by omega) (by omega)).mono ?_⟩
 rintro e w2 ⟨v2,rfl,h2,hb2⟩
 refine ⟨v2,rfl,(same7_W (h1.below hb2) h2.toG hB.al (by omega) (by omega) (by omega) hB.wfs).mono ?_⟩
 rintro e w3 ⟨rfl,hb3⟩
 have hbb:=(hb1.trans (hb2.mono hb1.size)).trans (hb3.mono (Nat.le_trans hb1.size hb2.size))
 exact ⟨rfl,M,F,G,S.below hbb,hl,hF,hb.trans (hbb.mono hb.size)⟩
theorem stepped {w0 wr:World} {c:Int} (hI:PI w0 p q c wr) (hc:c + 1 ≤ 100000) (t:St5) (h1:(Lit.int .i64 t.2.2.1).wf = true) (h2:(Lit.int .i64 t.2.2.2.1).wf = true) :
 Calls Tryz.prog 23 #[.pointer (some ⟨p,0,none⟩),.pointer (some ⟨q,0,none⟩),.agg (stc t).toArray] wr fun e w1=>e = .returned (.bool true)∧PI w0 p q (c + 1) w1:=by
 obtain ⟨M,F,G,S,hl,hF,hb⟩:=hI
 refine (both_any S (by omega) t.1 t.2.1 t.2.2.2.2 h1 h2).mono ?_
 rintro e w1 ⟨rfl,M',F',G',S',hl',hk,hn⟩
 exact ⟨rfl,M',F',G',S',by omega,fun b h=>(hn b h).elim (hF b) fun h=>Nat.le_trans hb.size h,hb.trans (hk.below hb.size fun b h=>hF b h)⟩
theorem tree00:TreeOk [0,0]:=⟨by decide,fun i p h=>by
 match i,h with
 | 0,h=>cases h;exact ⟨by decide,by decide⟩
 | 1,h=>cases h;exact ⟨by decide,by decide⟩
 | i + 2,h=>simp at h⟩
theorem pp_new:(WM.new [0,0]).ok→PP (WM.new [0,0]):=fun h=>⟨h,fun x hx=>(by cases hx),rfl,fun x hx=>by
 have hx':x ∈ List.replicate 3 false:=hx
 simpa using hx'⟩
theorem sideArg00 (w:World) (ty:TypeId):SideArg (w.alloc (.cells #[.int .i64 0,.int .i64 0] ty)) (some ⟨w.heap.size,0,none⟩) [0,0]:=.inr ⟨_,0,rfl,fun j x hj=>by
 match j,hj with
 | 0,hj=>cases hj;rw [cell_blk (blk_new _ _)];rfl
 | 1,hj=>cases hj;rw [cell_blk (blk_new _ _)];rfl
 | j + 2,hj=>simp at hj⟩
set_option maxHeartbeats 2000000 in
set_option maxRecDepth 8000 in
theorem begins_W (w:World):Calls Tryz.prog 21 #[] w fun e w'=>∃ p q,e = .returned (.tuple #[.pointer (some ⟨p,0,none⟩),.pointer (some ⟨q,0,none⟩)])∧PI w p q 0 w':=by
 have HA:=(show Hid (SideArg (w.alloc (.cells #[.int .i64 0,.int .i64 0] 35)) (some ⟨w.heap.size,0,none⟩) [0,0]∧Below w.heap.size w (w.alloc (.cells #[.int .i64 0,.int .i64 0] 35))) from ⟨sideArg00 w _,(Below.refl _ w).alloc (Nat.le_refl _) _⟩)
 go_enter Tryz.func21,Tryz.ntmps21
 go_wp2_with fail
 refine (New_W _ (some ⟨w.heap.size,0,none⟩) 2 [0,0] HA.out.1).mono ?_
 rintro e w5 hpost
 obtain ⟨p,F,rfl,hW,hF,hb⟩:=(Or.resolve_right hpost (fun h=>h.1 tree00)).2
 clear hpost
 have H5:Hid (IsW w5 p (WM.new [0,0]) F∧(∀ b,F b→w.heap.size ≤ b)∧Below w.heap.size w w5):=⟨hW,fun b h=>Nat.le_trans HA.out.2.size (hF b h),HA.out.2.trans (hb.mono HA.out.2.size)⟩
 have HB:=(show Hid (SideArg (w5.alloc (.cells #[.int .i64 0,.int .i64 0] 35)) (some ⟨w5.heap.size,0,none⟩) [0,0]∧Below w5.heap.size w5 (w5.alloc (.cells #[.int .i64 0,.int .i64 0] 35))) from ⟨sideArg00 w5 _,(Below.refl _ w5).alloc (Nat.le_refl _) _⟩)
 clear hW hF hb HA
 go_wp2_with fail
 refine (new7_W _ (some ⟨w5.heap.size,0,none⟩) 2 [0,0] HB.out.1 tree00).mono ?_
 rintro e w6 ⟨q,G,rfl,hR,hG,hb⟩
 have hb56:=HB.out.2.trans (hb.mono HB.out.2.size)
 have H6:Hid (PI w p q 0 w6):=⟨_,F,G,⟨H5.out.1.below hb56,hR,fun b h1 h2=>by have:=H5.out.1.lt b h1;have:=hG b h2;have:=HB.out.2.size;omega,pp_new H5.out.1.ok⟩,Int.le_refl _,fun b h=>h.elim (H5.out.2.1 b) fun h=>Nat.le_trans H5.out.2.2.size (Nat.le_trans HB.out.2.size (hG b h)),H5.out.2.2.trans (hb56.mono H5.out.2.2.size)⟩
 clear hR hG hb hb56 H5 HB
 go_wp2_with fail
 go_returns
 exact ⟨p,q,rfl,H6.out⟩
def ldS (a:Value):Sem Next:=do pure (.value (← Instr.loadAt 62 a))
theorem sizeS:(Tryz.prog.info? 62).map (·.size) = some 5:=by kernel_rfl
theorem execOp_ldS (ρ:Operand→Value) (d:Option Tmp) (a:Operand) (ty:TypeId) (pos:String) (af:Array Edge) (g:Option (Nat × Bool)) :
 execOp ρ { dst:=d,op:=.load 62 a,type:=ty,pos:=pos,after:=af,guard:=g } = ldS (ρ a):=rfl
theorem ldS_mid {w:World} {b o:Nat} {t:St5} (h:w.rangeAt b o (stc t)):(ldS (.pointer (some ⟨b,o,none⟩))).run Tryz.prog w = .ok (.value (.agg (stc t).toArray)) w:=by
 have:=run_loadAt_mid w b o 62 (stc t) _ h Tryz.underlying62 rfl sizeS
 simp only [ldS,Sem.run_bind,this,Result.andThen,Sem.run_pure]
attribute [local go_sem ↓] execOp_ldS in
set_option maxHeartbeats 8000000 in
set_option maxRecDepth 20000 in
theorem plays_W (W:World) (sa:Option Addr) (n c:Nat) (ts:List St5) (hA:StArg W sa ts) (hwf:∀ t ∈ ts,(Lit.int .i64 t.2.2.1).wf = true∧(Lit.int .i64 t.2.2.2.1).wf = true) (hn:n = ts.length) :
 Calls Tryz.prog 5 #[.slice sa n c] W fun e W'=>e = .returned (.bool true)∧Below W.heap.size W W':=by
 have HA:Hid (StArg W sa ts∧(∀ t ∈ ts,(Lit.int .i64 t.2.2.1).wf = true∧(Lit.int .i64 t.2.2.2.1).wf = true)∧n = ts.length):=⟨hA,hwf,hn⟩
 clear hA hwf hn
 go_enter Tryz.func5,Tryz.ntmps5
 go_wp2_with fail
 refine (begins_W W).mono ?_
 rintro e w1 ⟨p,q,rfl,hI⟩
 have HI:=(show Hid (PI W p q 0 w1) from hI)
 clear hI
 by_cases hn1:(n:Int) > 150
 ·have HB:Hid (Below W.heap.size W w1):=by obtain ⟨M,F,G,-,-,-,h⟩:=HI.out;exact h
  clear HI
  go_wp2_with fail
  refine (lives10_W w1).mono ?_
  rintro e w2 ⟨rfl,hb2⟩
  have H2:Hid (Below W.heap.size W w2):=HB.out.trans (hb2.mono HB.out.size)
  clear hb2 HB
  go_wp2_with fail
  go_ret
  exact ⟨rfl,H2.out⟩
 go_wp2_with fail
 go_loopw [5] (fun vi wr=>∃ i:Nat,vi = .int .i64 i∧i ≤ n∧Hid (PI W p q i wr)) (fun vi _=>n - (intOf vi).toNat)
 case atStart=>exact ⟨0,rfl,Nat.zero_le _,HI.out⟩
 case round =>
  clear HI
  obtain ⟨i,rfl,hi,HI⟩:=hrel
  by_cases hin:i < n
  ·have hiz:(i:Int) < (n:Int):=by omega
   have hi0:(0:Int) ≤ (i:Int):=by omega
   obtain ⟨t,ht⟩:∃ t,ts[i]? = some t:=⟨_,List.getElem?_eq_getElem (by have:=HA.out.2.2;omega)⟩
   obtain ⟨b,o,rfl,hr⟩:=HA.out.1.at ht
   have hbW:Below W.heap.size W wr:=by obtain ⟨M,F,G,-,-,-,h⟩:=HI.out;exact h
   have hld:=ldS_mid (hr wr hbW)
   obtain ⟨w1',w2'⟩:=HA.out.2.1 t (List.mem_of_getElem? ht)
   have HS:=(show Hid _ from stepped HI.out (by omega) t w1' w2')
   have hwi:wrap64 ((i:Int) + 1) = (i:Int) + 1:=by unfold wrap64;omega
   clear ht hr hbW w1' w2' HI
   go_wp2_with fail
   refine Calls.mono HS.out ?_
   rintro e w2 ⟨rfl,hI2⟩
   have HT:=(show Hid _ from told2 hI2 (by omega))
   clear hI2 HS hld
   go_wp2_with fail
   refine Calls.mono HT.out ?_
   rintro e w3 ⟨v1,rfl,h3⟩
   have H3:=(show Hid _ from h3)
   clear h3 HT
   go_wp2_with fail
   refine Calls.mono H3.out ?_
   rintro e w4 ⟨v2,rfl,h4⟩
   have H4:=(show Hid _ from h4)
   clear h4 H3
   go_wp2_with fail
   refine Calls.mono H4.out ?_
   rintro e w5 ⟨rfl,h5⟩
   have H5:=(show Hid (PI W p q ((i:Int) + 1) w5) from h5)
   clear h5 H4
   go_wp2_with fail
   go_roundw
   case rel=>exact ⟨i + 1,by go_num,by omega,by have:=H5.out;rw [Int.natCast_succ];exact this⟩
   case measure=>(simp [intOf];omega)
  ·have hiz:¬ (i:Int) < (n:Int):=by omega
   obtain rfl:i = n:=by omega
   have hkk:¬ (i:Int) < (i:Int):=by omega
   have HB:Hid (Below W.heap.size W wr):=by obtain ⟨M,F,G,-,-,-,h⟩:=HI.out;exact h
   clear HI
   go_wp2_with fail
   refine (lives10_W wr).mono ?_
   rintro e w2 ⟨rfl,hb2⟩
   have H2:Hid (Below W.heap.size W w2):=HB.out.trans (hb2.mono HB.out.size)
   clear hb2 HB
   go_wp2_with fail
   go_ret
   exact ⟨rfl,H2.out⟩
end Go.Proofs.YthaliljaglldjaaGreat
