/- Part of the proof. -/
import Derived.Test.YthaliljaglldjaaGreatmBP
namespace Go.Proofs.YthaliljaglldjaaGreat
set_option maxHeartbeats 16000000
set_option maxRecDepth 20000
open Go.RowKit Go.ChangeMaps Go.MapKept
section
theorem eQ {w:World} {pa:Option Addr} {xs:List Int} (h:eD .i64 w pa xs) {i:Nat} {x:Int} (hx:xs[i]? = some x):∃ g o x',pa=some ⟨g,o,none⟩/\w.cell? ⟨g,o+i,none⟩=some (.int .i64 x')/\x=x':=by
 rcases h with h | ⟨b,o,h1,-,h3⟩
 ·subst h;simp at hx
 ·exact⟨b,o,x,h1,h3 i x hx,rfl⟩
theorem iD:bX 130 46 129 dZ:=fun _ _ _ _ _=>rfl
theorem ix:bX 136 46 135 dZ:=fun _ _ _ _ _=>rfl
def zY (B0 g g' m nt cT cT':Nat) (x:Int × Th) (rc rl:Value) (j:Nat) (v:Value) (_:World):Prop :=
 match j with
 | 0=>v=R_ B0 2
 | 1=>v=.slice (some ⟨g,0,none⟩) nt cT
 | 2=>v=J m
 | 3=>v=R_ g (m * 17)
 | 4=>v=R_ g (m * 17)
 | 5=>(v=J x.1)
 | 6=>v=R_ (B0+1) 2
 | 7=>v=.slice (some ⟨g',0,none⟩) nt cT'
 | 8=>v=J m
 | 9=>v=R_ g' (m * 17)
 | 10=>v=R_ g' (m * 17)
 | 11=>(v=J x.1)
 | 12=>(v=.bool false)
 | 13=>(v=.bool false)
 | 14=>v=R_ B0 2
 | 15=>v=.slice (some ⟨g,0,none⟩) nt cT
 | 16=>v=J m
 | 17=>v=R_ g (m * 17)
 | 18=>v=R_ g (m * 17+1)
 | 19=>v=.agg (aF x.2)
 | 20=>v=R_ (B0+1) 2
 | 21=>v=.slice (some ⟨g',0,none⟩) nt cT'
 | 22=>v=J m
 | 23=>v=R_ g' (m * 17)
 | 24=>v=R_ g' (m * 17+1)
 | 25=>v=.agg (aF { x.2 with vl:=rc,vals:=rl })
 | 26=>v=.bool true
 | 27=>v=.bool false
 | _=>True
theorem uR {w:World} {N1 N2:WM} {v1 v2:Value} (h1:ToldG N1 v1 w) (h2:ToldG N2 v2 w) (hA:Alike N1 N2) (hp:N1.parents.length≤1000) (hm:N1.made.length≤1000) (ht:N1.things.length≤100000) (hwf:∀ x ∈ N1.things,x.2.v.wf/\(aJ x.2.vs).wf) :
 Calls Tryz.prog 24 #[v1,v2] w fun e w'=>e=.returned (.bool true)/\Bl w w':=by
 obtain⟨pP,cP,pT,cT,pM,cM,l,rfl,rP,rM,lk,rT,dT⟩:=h1;obtain⟨pP',cP',pT',cT',pM',cM',l',rfl,rP',rM',lk',rT',dT'⟩:=h2;rw [hA.par]at rP' ⊢;rw [hA.made]at rM' ⊢;rw [hA.last];have hl':l'.length=l.length:=by rw [lk'.1,hA.things.1,lk.1]
 rw [hl'];obtain⟨np,hnp⟩:∃ n,n=N1.parents.length:=⟨_,rfl⟩;obtain⟨nm,hnm⟩:∃ n,n=N1.made.length:=⟨_,rfl⟩;obtain⟨nt,hnt⟩:∃ n,n=l.length:=⟨_,rfl⟩
 have HP:Hid (∀ w',Bl w w'->∀ i,i<np->∃ g o g' o' x,pP=some ⟨g,o,none⟩/\pP'=some ⟨g',o',none⟩/\w'.cell? ⟨g,o+i,none⟩=some (.int .i64 x)/\w'.cell? ⟨g',o'+i,none⟩=some (.int .i64 x)):=fun w' hb i hi=>by
  have hx:N1.parents[i]? = some _:=List.getElem?_eq_getElem (by omega);obtain⟨g,o,x,e1,c1,e2⟩:=eQ (ch rP hb) hx;obtain⟨g',o',x',e1',c1',e2'⟩:=eQ (ch rP' hb) hx;subst e2 e2';exact⟨g,o,g',o',_,e1,e1',c1,c1'⟩
 have HM:Hid (∀ w',Bl w w'->∀ i,i<nm->∃ g o g' o' x,pM=some ⟨g,o,none⟩/\pM'=some ⟨g',o',none⟩/\w'.cell? ⟨g,o+i,none⟩=some (.int .i64 x)/\w'.cell? ⟨g',o'+i,none⟩=some (.int .i64 x)):=fun w' hb i hi=>by
  have hx:N1.made[i]? = some _:=List.getElem?_eq_getElem (by omega);obtain⟨g,o,x,e1,c1,e2⟩:=eQ (ch rM hb) hx;obtain⟨g',o',x',e1',c1',e2'⟩:=eQ (ch rM' hb) hx;subst e2 e2';exact⟨g,o,g',o',_,e1,e1',c1,c1'⟩
 have HN:Hid (np≤1000/\nm≤1000/\nt≤100000):=⟨by omega,by omega,by rw [hnt,lk.1];exact ht⟩
 have HT:Hid (∀ w',Bl w w'->∀ i,i<nt->∃ g g' x vl vals,pT=some ⟨g,0,none⟩/\pT'=some ⟨g',0,none⟩/\(∀ k v,(bL x)[k]? = some v->w'.cell? ⟨g,i * 17+k,none⟩=some v)/\(∀ k v,(bL (x.1,{ x.2 with vl:=vl,vals:=vals }))[k]? = some v->w'.cell? ⟨g',i * 17+k,none⟩=some v) /\
  ∀ w2,Bl w w2->Calls Tryz.prog 110 #[.agg (aF x.2),.agg (aF { x.2 with vl:=vl,vals:=vals })] w2 fun e w''=>e=.returned (.bool true)/\Bl w2 w''):=fun w' hb i hi=>by
  have hx:l[i]? = some _:=List.getElem?_eq_getElem (by omega);obtain⟨vl,vals,hx'⟩:=hA.things.two lk lk' hx;obtain⟨g,e,hg,hc⟩:=rT i _ hx;obtain⟨g',e',hg',hc'⟩:=rT' i _ hx';obtain⟨y,hy,hye,vly,valsy,hyt⟩:=lk.mem' (List.mem_of_getElem? hx);obtain⟨hw1,hw2⟩:=hwf y hy;have d:=dT _ (List.mem_of_getElem? hx);have d':=dT' _ (List.mem_of_getElem? hx');have ev:l[i].2.v=y.2.v:=by rw [hyt]
  have evs:l[i].2.vs=y.2.vs:=by rw [hyt]
  exact⟨g,g',l[i],vl,vals,e,e',fun k v hv=>(World.cell?_of_block (a:=⟨g,i * 17+k,none⟩) (hb.block g hg)).trans (hc k v hv),fun k v hv=>(World.cell?_of_block (a:=⟨g',i * 17+k,none⟩) (hb.block g' hg')).trans (hc' k v hv),
   fun w2 hb2=>nj l[i].2 vl vals (d.v.on hb2) (d.vs.on hb2) (d'.v.on hb2) (d'.vs.on hb2) (by rw [ev];exact hw1) (by rw [evs];exact hw2) d.code d.names⟩
 have HOn:Hid (∀ x ∈ l,(aF x.2).all (·.oneCell')=true):=fun x hx=>by
  have d:=dT x hx;obtain⟨a,b,e⟩:=d.v.form;obtain⟨a',b',e'⟩:=d.vs.form;simp only [aF,d.code,d.names,e,e'];simp [go_sem]
 rw [<- hnp,← hnm,← hnt];clear rP rP' rM rM' hnp hnm rT rT' lk lk' hl' hnt hA hp hm ht dT dT' hwf
 have H0:Hid (∀ wx,wx=(w.alloc (.cells #[.slice pP np cP,S_,.slice pT nt cT,J N1.last,.slice pM nm cM] 67)).alloc (.cells #[.slice pP' np cP',S_,.slice pT' nt cT',J N1.last,.slice pM' nm cM'] 67)->Bl w wx/\wx.heap[w.heap.size]? = some (.cells #[.slice pP np cP,S_,.slice pT nt cT,J N1.last,.slice pM nm cM] 67 (0,0))/\wx.heap[w.heap.size+1]? = some (.cells #[.slice pP' np cP',S_,.slice pT' nt cT',J N1.last,.slice pM' nm cM'] 67 (0,0))):=fun wx e=>by
  subst e;exact⟨((Below.refl _ w).alloc aH _).alloc (by simp) _,aL _ _ _,aK _ _ _⟩
 go_enter Tryz.func24,Tryz.ntmps24
 go_upto_region 1 with fail
 have H1:Hid (_/\_/\_):=H0.out _ rfl;revert H1;generalize World.alloc (World.alloc w _) _=w1;intro H1;clear H0;obtain⟨⟨c0,c1,c2,c3,c4⟩,-⟩:=ax H1.out.2.1;obtain⟨⟨d0,d1,d2,d3,d4⟩,-⟩:=ax H1.out.2.2
 go_wp2_with fail
 clear c0 c1 c2 c3 c4 d0 d1 d2 d3 d4
 go_loopw [5] (fun vi wr=>∃ i:Nat,vi=J i/\i≤np/\Hid (Bl w1 wr)) (fun vi _=>np - (intOf vi).toNat)
 case atStart=>exact⟨0,rfl,Nat.zero_le _,br⟩
 case round =>
  obtain⟨i,rfl,hi,HB⟩:=hrel;obtain⟨⟨c0,c1,c2,c3,c4⟩,-⟩:=ax (ae HB.out H1.out.2.1);obtain⟨⟨d0,d1,d2,d3,d4⟩,-⟩:=ax (ae HB.out H1.out.2.2)
  by_cases hin:i<np
  ·have hiz:(i:Int)<(np:Int):=by omega
   have hi0:(0:Int)≤(i:Int):=by omega
   obtain⟨g,o,g',o',x,e1,e2,a1,a2⟩:=HP.out wr (H1.out.1.trans (HB.out.mono H1.out.1.size)) i hin;subst e1 e2;have hwi:wrap64 ((i:Int)+1)=(i:Int)+1:=by have:=HN.out;unfold wrap64;omega
   have b0:wr.drew.cell? _=_:=c0;have b1:wr.drew.cell? _=_:=d0;have b2:wr.drew.cell? _=_:=a1;have b3:wr.drew.cell? _=_:=a2;have HBd:Hid (Bl w1 wr.drew):=HB.out.trans (below_drew.mono HB.out.size)
   go_upto_region 6 with fail
   go_region
   all_goals
    go_wp2_with fail
    go_roundw
    case rel=>exact⟨i+1,by go_num,by omega,HBd.out⟩
    case measure=>(rw [hwi];clear hwi;simp [intOf];omega)
  ·have hiz:¬ (i:Int)<(np:Int):=by omega
   obtain rfl:i=np:=by omega
   have hkk:¬ (i:Int)<(i:Int):=by omega
   go_wp2_with fail
   go_loopw [6] (fun vi wx=>vi=J 0/\wr=wx) (fun _ _=>0)
   case atStart=>exact⟨rfl,rfl⟩
   case round =>
    obtain⟨rfl,rfl⟩:=hrel
    go_wp2_with fail
    clear c0 c1 c2 c3 c4 d0 d1 d2 d3 d4
    go_loopw [7] (fun vi wr=>∃ k:Nat,vi=J k/\k≤nm/\Hid (Bl w1 wr)) (fun vi _=>nm - (intOf vi).toNat)
    case atStart=>exact⟨0,rfl,Nat.zero_le _,HB.out⟩
    case round =>
     obtain⟨k,rfl,hk,HB3⟩:=hrel;obtain⟨⟨c0,c1,c2,c3,c4⟩,-⟩:=ax (ae HB3.out H1.out.2.1);obtain⟨⟨d0,d1,d2,d3,d4⟩,-⟩:=ax (ae HB3.out H1.out.2.2)
     by_cases hin:k<nm
     ·have hiz:(k:Int)<(nm:Int):=by omega
      have hi0:(0:Int)≤(k:Int):=by omega
      obtain⟨g,o,g',o',x,e1,e2,a1,a2⟩:=HM.out wr (H1.out.1.trans (HB3.out.mono H1.out.1.size)) k hin;subst e1 e2;have hwi:wrap64 ((k:Int)+1)=(k:Int)+1:=by have:=HN.out;unfold wrap64;omega
      have b0:wr.drew.cell? _=_:=c4;have b1:wr.drew.cell? _=_:=d4;have b2:wr.drew.cell? _=_:=a1;have b3:wr.drew.cell? _=_:=a2;have HBd:Hid (Bl w1 wr.drew):=HB3.out.trans (below_drew.mono HB3.out.size)
      go_upto_region 16 with fail
      go_region
      all_goals
       go_wp2_with fail
       go_roundw
       case rel=>exact⟨k+1,by go_num,by omega,HBd.out⟩
       case measure=>(rw [hwi];clear hwi;simp [intOf];omega)
     ·have hiz:¬ (k:Int)<(nm:Int):=by omega
      obtain rfl:k=nm:=by omega
      have hkk:¬ (k:Int)<(k:Int):=by omega
      go_wp2_with fail
      clear c0 c1 c2 c3 c4 d0 d1 d2 d3 d4
      go_loopw [8] (fun vi wr=>∃ m:Nat,vi=J m/\m≤nt/\Hid (Bl w1 wr)) (fun vi _=>nt - (intOf vi).toNat)
      case atStart=>exact⟨0,rfl,Nat.zero_le _,HB3.out⟩
      case round =>
       obtain⟨m,rfl,hm,HB4⟩:=hrel;obtain⟨⟨c0,c1,c2,c3,c4⟩,-⟩:=ax (ae HB4.out H1.out.2.1);obtain⟨⟨d0,d1,d2,d3,d4⟩,-⟩:=ax (ae HB4.out H1.out.2.2)
       by_cases hmn:m<nt
       ·have hmz:(m:Int)<(nt:Int):=by omega
        have hm0:(0:Int)≤(m:Int):=by omega
        obtain⟨g,g',x,vl,vals,e1,e2,h1,h2,hsw⟩:=HT.out wr (H1.out.1.trans (HB4.out.mono H1.out.1.size)) m hmn;subst e1 e2;have HX1:Hid (∀ k v,(bL x)[k]? = some v->wr.cell? ⟨g,m * 17+k,none⟩=some v):=h1;have HX2:Hid (∀ k v,(bL (x.1,{ x.2 with vl:=vl,vals:=vals }))[k]? = some v->wr.cell? ⟨g',m * 17+k,none⟩=some v):=h2
        have HSW:Hid (∀ w2,Bl wr w2->Calls Tryz.prog 110 #[.agg (aF x.2),.agg (aF { x.2 with vl:=vl,vals:=vals })] w2 fun e w''=>e=.returned (.bool true)/\Bl w2 w''):=fun w2 hb=>hsw w2 ((H1.out.1.trans (HB4.out.mono H1.out.1.size)).trans (hb.mono (H1.out.1.trans (HB4.out.mono H1.out.1.size)).size))
        have Hlt:Hid (g<wr.heap.size/\g'<wr.heap.size):=⟨World.block_lt_of_cell? _ _ (h1 0 _ rfl),World.block_lt_of_cell? _ _ (h2 0 _ rfl)⟩;have HQ1:Hid (wr.heap[w.heap.size]? = some (.cells #[.slice pP i cP,S_,.slice (some ⟨g,0,none⟩) nt cT,J N1.last,.slice pM k cM] 67 (0,0))):=ae HB4.out H1.out.2.1;have HQ2:Hid (wr.heap[w.heap.size+1]? = some (.cells #[.slice pP' i cP',S_,.slice (some ⟨g',0,none⟩) nt cT',J N1.last,.slice pM' k cM'] 67 (0,0))):=ae HB4.out H1.out.2.2;have hwi:wrap64 ((m:Int)+1)=(m:Int)+1:=by have:=HN.out;unfold wrap64;omega
        clear h1 h2 hsw c0 c1 c2 c3 c4 d0 d1 d2 d3 d4;obtain⟨⟨c0,c1,c2,c3,c4⟩,-⟩:=ax HQ1.out
        go_upto_region 21 with fail
        obtain⟨B0,hB0⟩:∃ B0,B0=w.heap.size:=⟨_,rfl⟩;rw [<- hB0]at HQ1 HQ2 ⊢;clear c0 c1 c2 c3 c4;refine aR 28 (by kernel_rfl) rfl (by kernel_rfl) (by kernel_rfl) (fun a b=>Bl a b) (zY B0 g g' m nt cT cT' x vl vals) (fun w'=>Bl wr w') (fun j v w w' _ h=>h) below_drew (fun a b h hR=>h.trans (hR.mono h.size)) ?_ ?_ ?_
        ·intro j q g b hq hgd;have hj:j<28:=ji hq
         match j,hj with
         | 0,_=>cases hq;cases hgd
         | 1,_=>cases hq;cases hgd
         | 2,_=>cases hq;cases hgd
         | 3,_=>cases hq;cases hgd
         | 4,_=>cases hq;cases hgd
         | 5,_=>cases hq;cases hgd
         | 6,_=>cases hq;cases hgd
         | 7,_=>cases hq;cases hgd
         | 8,_=>cases hq;cases hgd
         | 9,_=>cases hq;cases hgd
         | 10,_=>cases hq;cases hgd
         | 11,_=>cases hq;cases hgd
         | 12,_=>cases hq;cases hgd
         | 13,_=>cases hq;cases hgd
         | 14,_=>cases hq;cases hgd;exact fun v w h=>h
         | 15,_=>cases hq;cases hgd;exact fun v w h=>h
         | 16,_=>cases hq;cases hgd;exact fun v w h=>h
         | 17,_=>cases hq;cases hgd;exact fun v w h=>h
         | 18,_=>cases hq;cases hgd;exact fun v w h=>h
         | 19,_=>cases hq;cases hgd;exact fun v w h=>h
         | 20,_=>cases hq;cases hgd;exact fun v w h=>h
         | 21,_=>cases hq;cases hgd;exact fun v w h=>h
         | 22,_=>cases hq;cases hgd;exact fun v w h=>h
         | 23,_=>cases hq;cases hgd;exact fun v w h=>h
         | 24,_=>cases hq;cases hgd;exact fun v w h=>h
         | 25,_=>cases hq;cases hgd;exact fun v w h=>h
         | 26,_=>cases hq;cases hgd;exact fun v w h=>h
         | 27,_=>cases hq;cases hgd;exact fun v w h=>h
        ·intro j q a w7 hq hC hG;have hj:j<28:=ji hq
         match j,hj with
         | 0,_=>cases hq;have h2':a.tmps[2]?.getD undef=P_ B0:=gq (hG.fr 2 (by simp));unfold Oper.wp;simp [go_sem,Act.eval,h2'];exact⟨_,rfl,br,rfl⟩
         | 1,_ =>
           cases hq;have h111':=gq (i:=111) (gd hG 0 rfl);have c3:w7.cell? ⟨B0,2,none⟩=some (.slice (some ⟨g,0,none⟩) nt cT):=by rw [ag (ae hC HQ1.out)];rfl
           unfold Oper.wp;simp [go_sem,Act.eval,h111',c3];exact⟨_,rfl,br,rfl⟩
         | 2,_=>cases hq;have h8':a.tmps[8]?.getD undef=J m:=gq (hG.fr 8 (by simp));unfold Oper.wp;simp [go_sem,Act.eval,h8'];exact⟨_,rfl,br,rfl⟩
         | 3,_=>cases hq;have h112':=gq (i:=112) (gd hG 1 rfl);have h113':=gq (i:=113) (gd hG 2 rfl);unfold Oper.wp;simp [go_sem,Act.eval,h112',h113',hmz,hm0];exact⟨_,rfl,br,rfl⟩
         | 4,_=>cases hq;have h114':=gq (i:=114) (gd hG 3 rfl);unfold Oper.wp;simp [go_sem,Act.eval,h114'];exact⟨_,rfl,br,rfl⟩
         | 5,_ =>
           cases hq;have h115':=gq (i:=115) (gd hG 4 rfl);have c3:w7.cell? ⟨g,m * 17,none⟩=some (.int .i64 x.1):=(World.cell?_of_block (a:=⟨g,m * 17,none⟩) (hC.block g Hlt.out.1)).trans (HX1.out 0 _ rfl);unfold Oper.wp;simp [go_sem,Act.eval,h115',c3];exact⟨_,rfl,br,rfl⟩
         | 6,_=>cases hq;have h3':a.tmps[3]?.getD undef=P_ (B0+1):=gq (hG.fr 3 (by simp));unfold Oper.wp;simp [go_sem,Act.eval,h3'];exact⟨_,rfl,br,rfl⟩
         | 7,_ =>
           cases hq;have h117':=gq (i:=117) (gd hG 6 rfl);have c3:w7.cell? ⟨B0+1,2,none⟩=some (.slice (some ⟨g',0,none⟩) nt cT'):=by rw [ag (ae hC HQ2.out)];rfl
           unfold Oper.wp;simp [go_sem,Act.eval,h117',c3];exact⟨_,rfl,br,rfl⟩
         | 8,_=>cases hq;have h8':a.tmps[8]?.getD undef=J m:=gq (hG.fr 8 (by simp));unfold Oper.wp;simp [go_sem,Act.eval,h8'];exact⟨_,rfl,br,rfl⟩
         | 9,_=>cases hq;have h118':=gq (i:=118) (gd hG 7 rfl);have h119':=gq (i:=119) (gd hG 8 rfl);unfold Oper.wp;simp [go_sem,Act.eval,h118',h119',hmz,hm0];exact⟨_,rfl,br,rfl⟩
         | 10,_=>cases hq;have h120':=gq (i:=120) (gd hG 9 rfl);unfold Oper.wp;simp [go_sem,Act.eval,h120'];exact⟨_,rfl,br,rfl⟩
         | 11,_ =>
           cases hq;have h121':=gq (i:=121) (gd hG 10 rfl);have c3:w7.cell? ⟨g',m * 17,none⟩=some (.int .i64 x.1):=(World.cell?_of_block (a:=⟨g',m * 17,none⟩) (hC.block g' Hlt.out.2)).trans (HX2.out 0 _ rfl);unfold Oper.wp;simp [go_sem,Act.eval,h121',c3];exact⟨_,rfl,br,rfl⟩
         | 12,_ =>
           cases hq;have h116:a.tmps.getD 116 undef=J x.1:=gd hG 5 rfl;have h122:a.tmps.getD 122 undef=J x.1:=gd hG 11 rfl;have h116':a.tmps[116]?.getD undef=J x.1:=gq h116;have h122':a.tmps[122]?.getD undef=J x.1:=gq h122;unfold Oper.wp;simp [go_sem,Act.eval,h116',h122'];exact⟨_,rfl,br,rfl⟩
         | 13,_=>cases hq;have h123':=gq (i:=123) (gd hG 12 rfl);unfold Oper.wp;simp [go_sem,Act.eval,h123'];exact⟨_,rfl,br,rfl⟩
         | 14,_=>cases hq;have h2':a.tmps[2]?.getD undef=P_ B0:=gq (hG.fr 2 (by simp));unfold Oper.wp;simp [go_sem,Act.eval,h2'];exact⟨_,rfl,br,rfl⟩
         | 15,_ =>
           cases hq;have h125':=gq (i:=125) (gd hG 14 rfl);have c3:w7.cell? ⟨B0,2,none⟩=some (.slice (some ⟨g,0,none⟩) nt cT):=by rw [ag (ae hC HQ1.out)];rfl
           unfold Oper.wp;simp [go_sem,Act.eval,h125',c3];exact⟨_,rfl,br,rfl⟩
         | 16,_=>cases hq;have h8':a.tmps[8]?.getD undef=J m:=gq (hG.fr 8 (by simp));unfold Oper.wp;simp [go_sem,Act.eval,h8'];exact⟨_,rfl,br,rfl⟩
         | 17,_=>cases hq;have h126':=gq (i:=126) (gd hG 15 rfl);have h127':=gq (i:=127) (gd hG 16 rfl);unfold Oper.wp;simp [go_sem,Act.eval,h126',h127',hmz,hm0];exact⟨_,rfl,br,rfl⟩
         | 18,_=>cases hq;have h128':=gq (i:=128) (gd hG 17 rfl);unfold Oper.wp;simp [go_sem,Act.eval,h128'];exact⟨_,rfl,br,rfl⟩
         | 19,_ =>
           cases hq;have h129:a.tmps.getD 129 undef=R_ g (m * 17+1):=gd hG 18 rfl;refine aT (.agg (aF x.2)) ?_ br rfl;rw [iD];show (dZ (a.tmps.getD 129 undef)).run _ _=_;rw [h129];exact cB fun k v hv=>by have:=(World.cell?_of_block (a:=⟨g,m * 17+(k+1),none⟩) (hC.block g Hlt.out.1)).trans (HX1.out (k+1) v (by rw [<- hv];show (_ :: (aF x.2).toList)[k+1]? = _;simp));rw [show m * 17+1+k=m * 17+(k+1) by omega];exact this
         | 20,_=>cases hq;have h3':a.tmps[3]?.getD undef=P_ (B0+1):=gq (hG.fr 3 (by simp));unfold Oper.wp;simp [go_sem,Act.eval,h3'];exact⟨_,rfl,br,rfl⟩
         | 21,_ =>
           cases hq;have h131':=gq (i:=131) (gd hG 20 rfl);have c3:w7.cell? ⟨B0+1,2,none⟩=some (.slice (some ⟨g',0,none⟩) nt cT'):=by rw [ag (ae hC HQ2.out)];rfl
           unfold Oper.wp;simp [go_sem,Act.eval,h131',c3];exact⟨_,rfl,br,rfl⟩
         | 22,_=>cases hq;have h8':a.tmps[8]?.getD undef=J m:=gq (hG.fr 8 (by simp));unfold Oper.wp;simp [go_sem,Act.eval,h8'];exact⟨_,rfl,br,rfl⟩
         | 23,_=>cases hq;have h132':=gq (i:=132) (gd hG 21 rfl);have h133':=gq (i:=133) (gd hG 22 rfl);unfold Oper.wp;simp [go_sem,Act.eval,h132',h133',hmz,hm0];exact⟨_,rfl,br,rfl⟩
         | 24,_=>cases hq;have h134':=gq (i:=134) (gd hG 23 rfl);unfold Oper.wp;simp [go_sem,Act.eval,h134'];exact⟨_,rfl,br,rfl⟩
         | 25,_ =>
           cases hq;have h135:a.tmps.getD 135 undef=R_ g' (m * 17+1):=gd hG 24 rfl;refine aT (.agg (aF { x.2 with vl:=vl,vals:=vals })) ?_ br rfl
           rw [ix];show (dZ (a.tmps.getD 135 undef)).run _ _=_;rw [h135];exact cB fun k v hv=>by have:=(World.cell?_of_block (a:=⟨g',m * 17+(k+1),none⟩) (hC.block g' Hlt.out.2)).trans (HX2.out (k+1) v (by rw [<- hv];show (_ :: (aF { x.2 with vl:=vl,vals:=vals }).toList)[k+1]? = _;simp));rw [show m * 17+1+k=m * 17+(k+1) by omega];exact this
         | 26,_ =>
           cases hq;have h130':=gq (i:=130) (gd hG 19 rfl);have h136:a.tmps.getD 136 undef=.agg (aF { x.2 with vl:=vl,vals:=vals }):=gd hG 25 rfl
           have h136':a.tmps[136]?.getD undef=.agg (aF { x.2 with vl:=vl,vals:=vals }):=gq h136
           unfold Oper.wp;simp [go_sem,callFunc,Act.eval,Tryz.func110,h130',h136'];refine Calls.mono (HSW.out _ hC) ?_;rintro e w8 ⟨rfl,hb8⟩;exact⟨_,rfl,hb8,rfl⟩
         | 27,_=>cases hq;have h137':=gq (i:=137) (gd hG 26 rfl);unfold Oper.wp;simp [go_sem,Act.eval,h137'];exact⟨_,rfl,br,rfl⟩
        intro a w7 hC hdf hsz hfr hphi;have e0:a.tmps.getD 111 undef=_:=hphi 0 _ rfl;have e1:a.tmps.getD 112 undef=_:=hphi 1 _ rfl;have e2:a.tmps.getD 113 undef=J m:=hphi 2 _ rfl;have e3:a.tmps.getD 114 undef=_:=hphi 3 _ rfl;have e4:a.tmps.getD 115 undef=_:=hphi 4 _ rfl;have p5:((a.tmps.getD 116 undef)=J x.1):=hphi 5 _ rfl;obtain⟨u5,e5⟩:∃ u,a.tmps.getD 116 undef=u:=⟨_,rfl⟩;rw [e5]at p5;have e6:a.tmps.getD 117 undef=_:=hphi 6 _ rfl;have e7:a.tmps.getD 118 undef=_:=hphi 7 _ rfl;have e8:a.tmps.getD 119 undef=J m:=hphi 8 _ rfl;have e9:a.tmps.getD 120 undef=_:=hphi 9 _ rfl;have e10:a.tmps.getD 121 undef=_:=hphi 10 _ rfl;have p11:((a.tmps.getD 122 undef)=J x.1):=hphi 11 _ rfl;obtain⟨u11,e11⟩:∃ u,a.tmps.getD 122 undef=u:=⟨_,rfl⟩;rw [e11]at p11;have p12:((a.tmps.getD 123 undef)=.bool false):=hphi 12 _ rfl;obtain⟨u12,e12⟩:∃ u,a.tmps.getD 123 undef=u:=⟨_,rfl⟩;rw [e12]at p12;have p13:((a.tmps.getD 124 undef)=.bool false):=hphi 13 _ rfl;obtain⟨u13,e13⟩:∃ u,a.tmps.getD 124 undef=u:=⟨_,rfl⟩;rw [e13]at p13;have e14:a.tmps.getD 125 undef=_:=hphi 14 _ rfl;have e15:a.tmps.getD 126 undef=_:=hphi 15 _ rfl;have e16:a.tmps.getD 127 undef=J m:=hphi 16 _ rfl;have e17:a.tmps.getD 128 undef=_:=hphi 17 _ rfl;have e18:a.tmps.getD 129 undef=_:=hphi 18 _ rfl;have e19:a.tmps.getD 130 undef=_:=hphi 19 _ rfl;have e20:a.tmps.getD 131 undef=_:=hphi 20 _ rfl;have e21:a.tmps.getD 132 undef=_:=hphi 21 _ rfl;have e22:a.tmps.getD 133 undef=J m:=hphi 22 _ rfl;have e23:a.tmps.getD 134 undef=_:=hphi 23 _ rfl;have e24:a.tmps.getD 135 undef=_:=hphi 24 _ rfl;have e25:a.tmps.getD 136 undef=.agg (aF { x.2 with vl:=vl,vals:=vals }):=hphi 25 _ rfl
        have e26:a.tmps.getD 137 undef=_:=hphi 26 _ rfl;have e27:a.tmps.getD 138 undef=_:=hphi 27 _ rfl;have ha:=bq hdf hsz hfr;simp only [List.take_succ_cons,List.take_zero,List.filterMap_cons,List.filterMap_nil,List.foldl_cons,List.foldl_nil,List.setIfInBounds_toArray,List.set_cons_zero,List.set_cons_succ,e0,e1,e2,e3,e4,e5,e6,e7,e8,e9,e10,e11,e12,e13,e14,e15,e16,e17,e18,e19,e20,e21,e22,e23,e24,e25,e26,e27]at ha;clear hdf hsz hfr hphi e0 e1 e2 e3 e4 e5 e6 e7 e8 e9 e10 e11 e12 e13 e14 e15 e16 e17 e18 e19 e20 e21 e22 e23 e24 e25 e26 e27;subst ha;have HB5:Hid (Bl w1 w7):=HB4.out.trans (hC.mono HB4.out.size);have e138:u13=.bool false:=p13;subst e138;subst hB0;clear hC HQ1 HQ2 HSW HX1 HX2 Hlt;refine⟨rfl,?_⟩;unfold Oper.wp;simp [execOp,go_sem,Act.eval,aV];refine ‹∀ (a:Act) (w:World),Code.wp Tryz.prog _ _ a w->_› _ _ ?_
        go_wp2_with fail
        go_roundw
        case rel=>exact⟨m+1,by go_num,by omega,HB5.out⟩
        case measure=>(rw [hwi];clear hwi;simp [intOf];omega)
       ·have hmz:¬ (m:Int)<(nt:Int):=by omega
        obtain rfl:m=nt:=by omega
        have hkk4:¬ (m:Int)<(m:Int):=by omega
        have HF:Hid (Bl w wr):=H1.out.1.trans (HB4.out.mono H1.out.1.size)
        go_wp2_with fail
        go_ret
        exact⟨rfl,HF.out⟩
end
section
def zv (n0 n:Nat) (v:Value) (wx:World):Prop:=∃ g,v=.slice (some ⟨g,0,none⟩) (n+1) (n+1)/\n0≤g/\wx.heap[g]? = some (.cells (madeCells #[J 0] (n+1)) 3 (0,0))
def zw (n0 n:Nat) (v:Value) (wx:World):Prop:=∃ g,v=.slice (some ⟨g,0,none⟩) n n/\n0≤g/\wx.heap[g]? = some (.cells (madeCells #[.bool false] n) 4 (0,0))
def zT (w:World) (n:Nat) (v:Value) (wx:World):Prop:=∃ q gc gm,v=P_ q/\w.heap.size≤q/\Bl w wx /\
 wx.heap[q]? = some (.cells #[S_,.slice (some ⟨gc,0,none⟩) n n,S_,J 0,.slice (some ⟨gm,0,none⟩) (n+1) (n+1)] 94 (0,0)) /\
 w.heap.size≤gc/\wx.heap[gc]? = some (.cells (madeCells #[.bool false] n) 4 (0,0))/\w.heap.size≤gm/\wx.heap[gm]? = some (.cells (madeCells #[J 0] (n+1)) 3 (0,0))
structure NL (w:World) (q gc gm n:Nat) (xs:List Int) (u:Value) (wr:World):Prop where
 bel:Bl w wr
 blk:wr.heap[q]? = some (.cells #[u,.slice (some ⟨gc,0,none⟩) n n,S_,J 0,.slice (some ⟨gm,0,none⟩) (n+1) (n+1)] 94 (0,0))
 ge:w.heap.size≤q
 c:w.heap.size≤gc/\wr.heap[gc]? = some (.cells (madeCells #[.bool false] n) 4 (0,0))
 m:w.heap.size≤gm/\wr.heap[gm]? = some (.cells (madeCells #[J 0] (n+1)) 3 (0,0))
 row:wr.ownsRow w.heap.size 3 1 u xs.length (xs.map (Value.int .i64))
 lt:q<wr.heap.size
 apart:∀ b,u.ownBlock=some b->b≠q/\b≠gc/\b≠gm
def zA (w1:World) (B:Nat) (u:Value) (ys:List Int) (x:Int) (v:Value) (wx:World):Prop :=
 wx.ownsRow B 3 1 v (ys ++ [x]).length ((ys ++ [x]).map (Value.int .i64))/\Keeps (fun b=>u.ownBlock=some b) w1 wx/\(v.ownBlock=u.ownBlock\/∃ g,v.ownBlock=some g/\w1.heap.size≤g)
theorem NL.next {w wr w7:World} {q gc gm n:Nat} {ys:List Int} {x:Int} {u v:Value} (h:NL w q gc gm n ys u wr) (hq:zA wr w.heap.size u ys x v w7):NL w q gc gm n (ys ++ [x]) v (w7.setCell ⟨q,0,none⟩ v):=by
 obtain⟨h1,hk,ho⟩:=hq;have hks:=Keeps.setCell (S:=fun b=>b=q) w7 ⟨q,0,none⟩ v rfl;have hqc:gc≠q:=fun e=>by have:=h.c.2;rw [e,h.blk]at this;injection this with this;injection this with _ h2;exact absurd h2 (by decide)
 have hqm:gm≠q:=fun e=>by have:=h.m.2;rw [e,h.blk]at this;injection this with this;injection this with _ h2;exact absurd h2 (by decide)
 have hv:∀ b,v.ownBlock=some b->b≠q/\b≠gc/\b≠gm:=fun b hb=>by
  rcases ho with ho | ⟨g,ho,hg⟩
  ·exact h.apart b (ho ▸ hb)
  ·rw [ho]at hb
   cases hb
   have:=h.lt;have:=aw h.c.2;have:=aw h.m.2;omega
 exact {
  bel:=(h.bel.trans (hk.below h.bel.size fun b hb=>(h.row.lt b hb).1)).setCell h.ge _
  blk:=aA (hk.none h.blk fun e=>(h.apart _ e).1 rfl) 0 v
  ge:=h.ge
  c:=⟨h.c.1,hks.none (hk.none h.c.2 fun e=>(h.apart _ e).2.1 rfl) hqc⟩
  m:=⟨h.m.1,hks.none (hk.none h.m.2 fun e=>(h.apart _ e).2.2 rfl) hqm⟩
  row:=ownsRow_keeps h1 hks fun b hb e=>(hv b hb).1 e
  lt:=by have:=h.lt;have:=hk.size;simp [World.setCell];omega
  apart:=hv }
theorem jX (z:Value) (n:Nat):(madeCells #[z] n).toList=List.replicate n z:=by
 refine List.ext_getElem? fun i=>?_;rw [Array.getElem?_toList,List.getElem?_replicate]
 by_cases h:i<n <;> simp [madeCells,h,Nat.mod_one]
theorem ob {w:World} {g n:Nat} {e:TypeId} {z:Value} (hb:w.heap[g]? = some (.cells (madeCells #[z] n) e (0,0))) (hn:n≤100):w.ownsRow 0 e 1 (.slice (some ⟨g,0,none⟩) n n) n (List.replicate n z):=by
 refine⟨by simp,.inr ⟨g,n,madeCells #[z] n,rfl,Nat.zero_le _,hb,aH,by unfold maxLen;omega,by rw [size_madeCells,Nat.mul_one],?_⟩⟩;rw [jX,Nat.mul_one];simp
theorem NL.isR {w wr:World} {q gc gm:Nat} {xs:List Int} {u:Value} (h:NL w q gc gm xs.length xs u wr) (hn:xs.length<16):IsR wr q (WM.new xs) (fun b=>w.heap.size≤b/\b<wr.heap.size):=by
 have hqc:gc≠q:=fun e=>by have:=h.c.2;rw [e,h.blk]at this;injection this with this;injection this with _ h2;exact absurd h2 (by decide)
 have hqm:gm≠q:=fun e=>by have:=h.m.2;rw [e,h.blk]at this;injection this with this;injection this with _ h2;exact absurd h2 (by decide)
 have hcm:gc≠gm:=fun e=>by have:=h.c.2;rw [e,h.m.2]at this;injection this with this;injection this with _ h2;exact absurd h2 (by decide)
 refine⟨u,.slice (some ⟨gc,0,none⟩) xs.length xs.length,S_,.slice (some ⟨gm,0,none⟩) (xs.length+1) (xs.length+1),?_⟩
 exact {
  blk:=h.blk
  rp:=eH h.row (Nat.zero_le _)
  rc:=by
   have:=ob h.c.2 (by omega)
   simpa [WM.new]using this
  rt:=World.ownsRow_nil _ _ _ _
  rm:=by
   have:=ob h.m.2 (by omega)
   simpa [WM.new]using this
  own:=fun b hb=>by
   rcases hb with rfl | hb | hb | hb | hb
   ·exact⟨h.ge,h.lt⟩
   ·exact h.row.lt b hb
   ·cases hb;exact⟨h.c.1,aw h.c.2⟩
   ·cases hb
   ·cases hb;exact⟨h.m.1,aw h.m.2⟩
  lt:=fun b hb=>hb.2
  deep:=fun r t ht=>by cases ht
  apq:=⟨fun e=>(h.apart q e).1 rfl,fun e=>by injection e with e;exact hqc e,(fun e=>by cases e),fun e=>by injection e with e;exact hqm e⟩
  app:=fun b hb=>⟨fun e=>by injection e with e;exact(h.apart b hb).2.1 e.symm,(fun e=>by cases e),fun e=>by injection e with e;exact(h.apart b hb).2.2 e.symm⟩
  apc:=fun b hb=>⟨(fun e=>by cases e),fun e=>by injection hb with hb;injection e with e;exact hcm (hb.trans e.symm)⟩
  apt:=fun b hb=>by cases hb }
def NaP (b o i q n c B0:Nat) (u:Value) (x:Int) (wr:World) (ys:List Int) (p:Bool) (j:Nat) (v:Value) (wx:World):Prop :=
 match j with
 | 0=>v=P_ q
 | 1=>v=P_ q
 | 2=>v=P_ q
 | 3=>v=P_ q
 | 4=>v=u
 | 5=>v=.slice (some ⟨b,o,none⟩) n c
 | 6=>v=J i
 | 7=>v=R_ b (o+i)
 | 8=>v=J x
 | 9=>p=false->(∃ b',v=.slice (some ⟨b',0,none⟩) 1 1/\wx.heap[b']? = some (.cells #[J x] 3 (0,0)))
 | 10=>p=true->zA wr B0 u ys x v wx
 | 11=>v=P_ q
 | 12=>v=P_ q
 | _=>True
theorem NaP.stab {b o i q n c B0:Nat} {u:Value} {x:Int} {wr:World} {ys:List Int}:∀ (j:Nat) (v:Value) (w w':World),Bl w w'->NaP b o i q n c B0 u x wr ys false j v w->NaP b o i q n c B0 u x wr ys false j v w':=by
 intro j v w w' hR h;unfold NaP at h ⊢;split at h
 ·exact h
 ·exact h
 ·exact h
 ·exact h
 ·exact h
 ·exact h
 ·exact h
 ·exact h
 ·exact h
 ·intro _;have h:=h rfl;exact h.imp fun _ h=>⟨h.1,ae hR h.2⟩
 ·exact fun e=>by cases e
 ·exact h
 ·exact h
 ·trivial
theorem NaP.turn {b o i q n c B0:Nat} {u:Value} {x:Int} {wr:World} {ys:List Int}:∀ (j:Nat) (v:Value) (w w':World),j≠10->NaP b o i q n c B0 u x wr ys false j v w->NaP b o i q n c B0 u x wr ys true j v w':=by
 intro j v w w' hne h;unfold NaP at h ⊢;split at h
 ·exact h
 ·exact h
 ·exact h
 ·exact h
 ·exact h
 ·exact h
 ·exact h
 ·exact h
 ·exact h
 ·exact fun e=>by cases e
 ·exact absurd rfl hne
 ·exact h
 ·exact h
 ·trivial
def NwP (pa:Option Addr) (n c n0:Nat) (w0:World) (p:Bool) (j:Nat) (v:Value) (wx:World):Prop :=
 match j with
 | 0=>v=.slice pa n c
 | 1=>v=J n
 | 2=>v=J ((n:Int)+1)
 | 3=>p=false->zv n0 n v wx
 | 4=>v=.slice pa n c
 | 5=>v=J n
 | 6=>p=false->zw n0 n v wx
 | 7=>p=false->(∃ sM sC,v=.agg #[S_,sC,S_,J 0,sM]/\zv n0 n sM wx/\zw n0 n sC wx)
 | 8=>p=true->zT w0 n v wx
 | _=>True
theorem NwP.stab {pa:Option Addr} {n c n0:Nat} {w0:World}:∀ (j:Nat) (v:Value) (w w':World),Bl w w'->NwP pa n c n0 w0 false j v w->NwP pa n c n0 w0 false j v w':=by
 intro j v w w' hR h;unfold NwP at h ⊢;split at h
 ·exact h
 ·exact h
 ·exact h
 ·intro _;have h:=h rfl;exact h.imp fun _ h=>⟨h.1,h.2.1,ae hR h.2.2⟩
 ·exact h
 ·exact h
 ·intro _;have h:=h rfl;exact h.imp fun _ h=>⟨h.1,h.2.1,ae hR h.2.2⟩
 ·intro _;have h:=h rfl;exact h.imp fun _ h=>h.imp fun _ h=>⟨h.1,h.2.1.imp fun _ h=>⟨h.1,h.2.1,ae hR h.2.2⟩,h.2.2.imp fun _ h=>⟨h.1,h.2.1,ae hR h.2.2⟩⟩
 ·exact fun e=>by cases e
 ·trivial
theorem NwP.turn {pa:Option Addr} {n c n0:Nat} {w0:World}:∀ (j:Nat) (v:Value) (w w':World),j≠8->NwP pa n c n0 w0 false j v w->NwP pa n c n0 w0 true j v w':=by
 intro j v w w' hne h;unfold NwP at h ⊢;split at h
 ·exact h
 ·exact h
 ·exact h
 ·exact fun e=>by cases e
 ·exact h
 ·exact h
 ·exact fun e=>by cases e
 ·exact fun e=>by cases e
 ·exact absurd rfl hne
 ·trivial
theorem yo (w:World) (pa:Option Addr) (c:Nat) (xs:List Int) (hpa:fT w pa xs) (hT:dH xs):Calls Tryz.prog 13 #[.slice pa xs.length c] w fun e w'=>∃ q G,e=.returned (.tuple #[P_ q,J 0])/\IsR w' q (WM.new xs) G/\(∀ b,G b->w.heap.size≤b)/\Bl w w':=by
 obtain⟨n,hn⟩:∃ n,n=xs.length:=⟨_,rfl⟩;rw [<- hn];have hn16:¬ (n:Int) ≥ 16:=by have:=hT.1;omega
 have hn1:wrap64 ((n:Int)+1)=(n:Int)+1:=by have:=hT.1;unfold wrap64;omega
 have hn2:IntKind.i64.wrap ((n:Int)+1)=(n:Int)+1:=by have:=hT.1;simp [IntKind.wrap,IntKind.signed,IntKind.bits];omega
 have HA:Hid (fT w pa xs/\dH xs/\n=xs.length/\n<16):=⟨hpa,hT,hn,by rw [hn];exact hT.1⟩;have HR:Hid (Bl w w):=br;clear hpa hT hn
 go_enter Tryz.func13,Tryz.ntmps13
 go_upto_region 3 with fail
 obtain⟨n0,hn0⟩:∃ b,b=w.heap.size:=⟨_,rfl⟩;have HN0:Hid (n0=w.heap.size):=hn0;clear hn0;refine bt 9 8 [99] (by kernel_rfl) rfl (by kernel_rfl) (by kernel_rfl) (by decide) (by kernel_rfl) (fun a b=>Bl a b) (NwP pa n c n0 w) (fun p w'=>p=false->Bl w w') NwP.stab (fun _=>below_drew) (fun a b h hR _=>(h rfl).trans (hR.mono (h rfl).size)) ?_ ?_ ?_ ?_ ?_
 ·exact fun _ _ _ _ _ h1 h2=>bC (by kernel_rfl) h1 h2
 ·intro j q a w7 hne hq hC hG;have hC:=hC rfl;have hj:j<9:=ji hq
  match j,hj with
  | 0,_=>cases hq;have h0':a.tmps[0]?.getD undef=.slice pa n c:=gq (hG.fr 0 (by simp));unfold Oper.wp;simp [go_sem,Act.eval,h0'];exact⟨_,rfl,br,rfl⟩
  | 1,_=>cases hq;have h9':=gq (i:=9) (gd hG 0 rfl);unfold Oper.wp;simp [go_sem,Act.eval,h9'];exact⟨_,rfl,br,rfl⟩
  | 2,_=>cases hq;have h10':=gq (i:=10) (gd hG 1 rfl);unfold Oper.wp;simp [go_sem,Act.eval,h10',hn2];exact⟨_,rfl,br,rfl⟩
  | 3,_ =>
    cases hq;have h11:a.tmps.getD 11 undef=J ((n:Int)+1):=gd hG 2 rfl;have h11':a.tmps[11]?.getD undef=J ((n:Int)+1):=gq h11;have hrun:=fQ w7 iM Tryz.underlying64 (by decide) (n:=n+1) (by have:=HA.out.2.2.2;omega);rw [show ((n+1:Nat):Int)=(n:Int)+1 from by omega]at hrun
    refine aT (.slice (some ⟨w7.heap.size,0,none⟩) (n+1) (n+1)) ?_ (br.alloc aH _) (fun _=>⟨_,rfl,by rw [HN0.out];exact hC.size,ai _ _⟩);show (((Instr.makeSlice 64 (a.tmps.getD 11 undef) (a.tmps.getD 11 undef)) >>= fun v=>pure (Next.value v):Sem Next).run Tryz.prog w7)=_;rw [h11];simp only [Sem.run_bind,hrun,Result.andThen,Sem.run_pure]
  | 4,_=>cases hq;have h0':a.tmps[0]?.getD undef=.slice pa n c:=gq (hG.fr 0 (by simp));unfold Oper.wp;simp [go_sem,Act.eval,h0'];exact⟨_,rfl,br,rfl⟩
  | 5,_=>cases hq;have h13':=gq (i:=13) (gd hG 4 rfl);unfold Oper.wp;simp [go_sem,Act.eval,h13'];exact⟨_,rfl,br,rfl⟩
  | 6,_ =>
    cases hq;have h14:a.tmps.getD 14 undef=J n:=gd hG 5 rfl;have h14':a.tmps[14]?.getD undef=J n:=gq h14;have hrun:=fQ w7 oo Tryz.underlying92 (by decide) (n:=n) (by have:=HA.out.2.2.2;omega);refine aT (.slice (some ⟨w7.heap.size,0,none⟩) n n) ?_ (br.alloc aH _) (fun _=>⟨_,rfl,by rw [HN0.out];exact hC.size,ai _ _⟩);show (((Instr.makeSlice 92 (a.tmps.getD 14 undef) (a.tmps.getD 14 undef)) >>= fun v=>pure (Next.value v):Sem Next).run Tryz.prog w7)=_;rw [h14];simp only [Sem.run_bind,hrun,Result.andThen,Sem.run_pure]
  | 7,_ =>
    cases hq;have p12:zv n0 n (a.tmps.getD 12 undef) w7:=hG.dep ⟨3,.data⟩ (by simp) rfl _ rfl rfl;have p15:zw n0 n (a.tmps.getD 15 undef) w7:=hG.dep ⟨6,.data⟩ (by simp) rfl _ rfl rfl;obtain⟨g1,e12,m1,m2⟩:=p12;obtain⟨g2,e15,m3,m4⟩:=p15;have h12':a.tmps[12]?.getD undef=.slice (some ⟨g1,0,none⟩) (n+1) (n+1):=by rw [<- e12];simp [Array.getD_eq_getD_getElem?]
    have h15':a.tmps[15]?.getD undef=.slice (some ⟨g2,0,none⟩) n n:=by rw [<- e15];simp [Array.getD_eq_getD_getElem?]
    unfold Oper.wp;simp [go_sem,Act.eval,h12',h15'];exact⟨_,rfl,br,fun _=>⟨_,_,rfl,⟨g1,rfl,m1,m2⟩,⟨g2,rfl,m3,m4⟩⟩⟩
  | 8,_=>exact absurd rfl hne
 ·intro q a w7 hq hC hG;have hC:=hC rfl;cases hq;have p16:(∃ sM sC,(a.tmps.getD 16 undef)=.agg #[S_,sC,S_,J 0,sM]/\zv n0 n sM w7/\zw n0 n sC w7):=hG.dep ⟨7,.data⟩ (by simp) rfl _ rfl rfl;obtain⟨sM,sC,e16,⟨g1,rfl,m1,m2⟩,⟨g2,rfl,m3,m4⟩⟩:=p16;have h16':a.tmps[16]?.getD undef=.agg #[S_,.slice (some ⟨g2,0,none⟩) n n,S_,J 0,.slice (some ⟨g1,0,none⟩) (n+1) (n+1)]:=by rw [<- e16];simp [Array.getD_eq_getD_getElem?]
  unfold Oper.wp;simp [go_sem,Act.eval,h16'];exact⟨_,rfl,fun _=>⟨w7.heap.size,g2,g1,rfl,hC.size,hC.alloc hC.size _,ai _ _,by rw [<- HN0.out];exact m3,aG _ _ m4,by rw [<- HN0.out];exact m1,aG _ _ m2⟩,fun k u hk h=>NwP.turn k u w7 _ hk h⟩
 ·intro j q a w7 hl hq hC hG;have hj:j<9:=ji hq
  match j,hj with
  | 0,_=>exact absurd hl (by decide)
  | 1,_=>exact absurd hl (by decide)
  | 2,_=>exact absurd hl (by decide)
  | 3,_=>exact absurd hl (by decide)
  | 4,_=>exact absurd hl (by decide)
  | 5,_=>exact absurd hl (by decide)
  | 6,_=>exact absurd hl (by decide)
  | 7,_=>exact absurd hl (by decide)
  | 8,_=>exact absurd hl (by decide)
 ·intro a w7 hC hdf hsz hfr hphi;have e0:a.tmps.getD 9 undef=_:=hphi 0 _ rfl;have e1:a.tmps.getD 10 undef=J n:=hphi 1 _ rfl;have e2:a.tmps.getD 11 undef=_:=hphi 2 _ rfl;obtain⟨u3,e3⟩:∃ u,a.tmps.getD 12 undef=u:=⟨_,rfl⟩;have e4:a.tmps.getD 13 undef=_:=hphi 4 _ rfl;have e5:a.tmps.getD 14 undef=J n:=hphi 5 _ rfl;obtain⟨u6,e6⟩:∃ u,a.tmps.getD 15 undef=u:=⟨_,rfl⟩;obtain⟨u7,e7⟩:∃ u,a.tmps.getD 16 undef=u:=⟨_,rfl⟩;have p8:zT w n (a.tmps.getD 17 undef) w7:=hphi 8 _ rfl rfl;obtain⟨u8,e8⟩:∃ u,a.tmps.getD 17 undef=u:=⟨_,rfl⟩;rw [e8]at p8;have ha:=bq hdf hsz hfr;simp only [List.take_succ_cons,List.take_zero,List.filterMap_cons,List.filterMap_nil,List.foldl_cons,List.foldl_nil,List.setIfInBounds_toArray,List.set_cons_zero,List.set_cons_succ,e0,e1,e2,e3,e4,e5,e6,e7,e8]at ha;clear hdf hsz hfr hphi hC e0 e1 e2 e3 e4 e5 e6 e7 e8;subst ha;obtain⟨q,gc,gm,rfl,hq,hb,hqb,hgc,hgcb,hgm,hgmb⟩:=p8;have HL:Hid (NL w q gc gm n [] (S_) w7):=⟨hb,hqb,hq,⟨hgc,hgcb⟩,⟨hgm,hgmb⟩,World.ownsRow_nil _ _ _ _,by have:=aw hqb;exact this,fun b hb=>by cases hb⟩;clear hb hqb hgcb hgmb hq hgc hgm hn2;refine⟨rfl,?_⟩;unfold Oper.wp;simp [execOp,go_sem,Act.eval,aV];refine ‹∀ (a:Act) (w:World),Code.wp Tryz.prog _ _ a w->_› _ _ ?_
  go_wp2_with fail
  go_loopw [5] (fun vi wr=>∃ (i:Nat) (u:Value),vi=J i/\i≤n/\Hid (NL w q gc gm n (xs.take i) u wr)) (fun vi _=>n - (intOf vi).toNat)
  case atStart=>exact⟨0,_,rfl,Nat.zero_le _,HL.out⟩
  case round =>
   clear HL;obtain⟨i,u,rfl,hi,HL⟩:=hrel
   by_cases hin:i<n
   ·have hiz:(i:Int)<(n:Int):=by omega
    have hi0:(0:Int)≤(i:Int):=by omega
    obtain⟨x,hx⟩:∃ x,xs[i]? = some x:=⟨_,List.getElem?_eq_getElem (by have:=HA.out.2.2.1;omega)⟩
    obtain⟨b,o,hpa,hcs⟩:∃ b o,pa=some ⟨b,o,none⟩/\∀ (j:Nat) (x:Int),xs[j]? = some x->w.cell? ⟨b,o+j,none⟩=some (.int .i64 x):=by
     rcases HA.out.1 with h | h
     ·rw [h]at hx
      cases hx
     ·exact h
    subst hpa;have HX:Hid (∀ w',Bl wr w'->w'.cell? ⟨b,o+i,none⟩=some (.int .i64 x)):=fun w' hb=>((HL.out.bel.trans (hb.mono HL.out.bel.size)).cell (p:=⟨b,o+i,none⟩) (World.block_lt_of_cell? _ ⟨b,o+i,none⟩ (hcs i x hx))).trans (hcs i x hx);have c0:wr.cell? ⟨b,o+i,none⟩=some (.int .i64 x):=HX.out wr br;have hx0:¬ x<0:=by have:=(HA.out.2.1.2 i x hx).1;omega
    have hx1:¬ x > (i:Int):=by have:=(HA.out.2.1.2 i x hx).2;omega
    have HNt:Hid (xs.take (i+1)=xs.take i ++ [x]):=by show _=_;rw [List.take_add_one,hx];rfl
    have HLn:Hid ((xs.take i).length≤15):=by show _≤_;rw [List.length_take];have:=HA.out.2.2;omega
    have hwi:wrap64 ((i:Int)+1)=(i:Int)+1:=by have:=HA.out.2.2.2;unfold wrap64;omega
    have HQ:Hid (wr.heap[q]? = _):=HL.out.blk;have HRow:Hid (wr.ownsRow w.heap.size 3 1 u (xs.take i).length ((xs.take i).map (Value.int .i64))):=HL.out.row;have HWs:Hid (w.heap.size≤wr.heap.size):=HL.out.bel.size;obtain⟨ys,hys⟩:∃ ys,ys=xs.take i:=⟨_,rfl⟩;rw [<- hys]at HNt HLn HRow HL;clear hys hx hcs
    go_upto_region 9 with fail
    clear c0;refine bt 13 10 [0,11,12] (by kernel_rfl) rfl (by kernel_rfl) (by kernel_rfl) (by decide) (by kernel_rfl) (fun a b=>Bl a b) (NaP b o i q n c w.heap.size u x wr ys) (fun p w'=>p=false->Bl wr w') NaP.stab (fun _=>below_drew) (fun a b h hR _=>(h rfl).trans (hR.mono (h rfl).size)) ?_ ?_ ?_ ?_ ?_
    ·exact fun _ _ _ _ _ h1 h2=>bC (by kernel_rfl) h1 h2
    ·intro j q a w7 hne hq hC hG;have hC:=hC rfl;have hj:j<13:=ji hq
     match j,hj with
     | 0,_=>cases hq;have h4':a.tmps[4]?.getD undef=P_ q:=gq (hG.fr 4 (by simp));unfold Oper.wp;simp [go_sem,Act.eval,h4'];exact⟨_,rfl,br,rfl⟩
     | 1,_=>cases hq;have h4':a.tmps[4]?.getD undef=P_ q:=gq (hG.fr 4 (by simp));unfold Oper.wp;simp [go_sem,Act.eval,h4'];exact⟨_,rfl,br,rfl⟩
     | 2,_=>cases hq;have h38':=gq (i:=38) (gd hG 1 rfl);unfold Oper.wp;simp [go_sem,Act.eval,h38'];exact⟨_,rfl,br,rfl⟩
     | 3,_=>cases hq;have h39':=gq (i:=39) (gd hG 2 rfl);unfold Oper.wp;simp [go_sem,Act.eval,h39'];exact⟨_,rfl,br,rfl⟩
     | 4,_ =>
       cases hq;have h40':=gq (i:=40) (gd hG 3 rfl);have c3:w7.cell? ⟨q,0,none⟩=some (u):=by rw [ag (ae hC HQ.out)];rfl
       unfold Oper.wp;simp [go_sem,Act.eval,h40',c3];exact⟨_,rfl,br,rfl⟩
     | 5,_=>cases hq;have h0':a.tmps[0]?.getD undef=.slice (some ⟨b,o,none⟩) n c:=gq (hG.fr 0 (by simp));unfold Oper.wp;simp [go_sem,Act.eval,h0'];exact⟨_,rfl,br,rfl⟩
     | 6,_=>cases hq;have h5':a.tmps[5]?.getD undef=J i:=gq (hG.fr 5 (by simp));unfold Oper.wp;simp [go_sem,Act.eval,h5'];exact⟨_,rfl,br,rfl⟩
     | 7,_=>cases hq;have h42':=gq (i:=42) (gd hG 5 rfl);have h43':=gq (i:=43) (gd hG 6 rfl);unfold Oper.wp;simp [go_sem,Act.eval,h42',h43',hiz,hi0];exact⟨_,rfl,br,rfl⟩
     | 8,_ =>
       cases hq;have h44':=gq (i:=44) (gd hG 7 rfl);have c3:w7.cell? ⟨b,o+i,none⟩=some (.int .i64 x):=HX.out w7 hC;unfold Oper.wp;simp [go_sem,Act.eval,h44',c3];exact⟨_,rfl,br,rfl⟩
     | 9,_ =>
       cases hq;have h45':=gq (i:=45) (gd hG 8 rfl);unfold Oper.wp;simp [go_sem,Act.eval,h45'];exact⟨_,rfl,br.alloc aH _,fun _=>⟨_,rfl,ai _ _⟩⟩
     | 10,_=>exact absurd rfl hne
     | 11,_=>cases hq;have h37':=gq (i:=37) (gd hG 0 rfl);unfold Oper.wp;simp [go_sem,Act.eval,h37'];exact⟨_,rfl,br,rfl⟩
     | 12,_=>cases hq;have h48':=gq (i:=48) (gd hG 11 rfl);unfold Oper.wp;simp [go_sem,Act.eval,h48'];exact⟨_,rfl,br,rfl⟩
    ·intro q a w7 hq hC hG;have hC:=hC rfl;cases hq;have h41:a.tmps.getD 41 undef=u:=gd hG 4 rfl;have h41':a.tmps[41]?.getD undef=u:=gq h41;have p46:(∃ b',(a.tmps.getD 46 undef)=.slice (some ⟨b',0,none⟩) 1 1/\w7.heap[b']? = some (.cells #[J x] 3 (0,0))):=hG.dep ⟨9,.data⟩ (by simp) rfl _ rfl rfl;obtain⟨b',e46,hb46⟩:=p46;obtain⟨iv,hi',hz,i1,i2⟩:=info_parts iM;refine cD (.tmp 41) (.tmp 46) 64 rfl w.heap.size 3 iv (J 0) 1 8 Tryz.underlying64 hi' hz i1 i2 rfl (by decide) u ys.length _ h41 (lz HRow.out hC) ⟨b',0,none⟩ 1 1 [J x] e46 rfl (fun jj y hj=>?_) (fun y hy=>?_) (by have:=HLn.out;unfold maxLen;omega) (by have:=HLn.out;omega) (Nat.le_trans HWs.out hC.size) ?_
     ·rw [Addr.add_lit,Nat.zero_add,ag hb46];simpa using hj
     ·rw [List.mem_singleton.1 hy];rfl
     ·intro v' w' r1 r2 r4;exact⟨v',rfl,(fun h=>by cases h),fun _=>⟨by simpa using r1,(Keeps.of_below hC).trans (Keeps.of_grown r2 (S:=fun b=>u.ownBlock=some b) fun y hy=>hy) (fun _ _ h=>h) (fun _ _ h=>h),r4.imp id fun h=>⟨_,h,hC.size⟩⟩,fun k y hk h=>NaP.turn k y w7 w' hk h⟩
    ·intro j q a w7 hl hq hC hG;have hj:j<13:=ji hq
     match j,hj with
     | 0,_ =>
       cases hq;have h4':a.tmps[4]?.getD undef=P_ q:=gq (hG.fr 4 (by simp));refine aT (R:=fun x y=>y=x) (P_ q) ?_ rfl rfl;simp [execOp,go_sem,Act.eval,h4']
     | 1,_=>exact absurd hl (by decide)
     | 2,_=>exact absurd hl (by decide)
     | 3,_=>exact absurd hl (by decide)
     | 4,_=>exact absurd hl (by decide)
     | 5,_=>exact absurd hl (by decide)
     | 6,_=>exact absurd hl (by decide)
     | 7,_=>exact absurd hl (by decide)
     | 8,_=>exact absurd hl (by decide)
     | 9,_=>exact absurd hl (by decide)
     | 10,_=>exact absurd hl (by decide)
     | 11,_ =>
       cases hq;have h37':=gq (i:=37) (gd hG 0 rfl);refine aT (R:=fun x y=>y=x) (P_ q) ?_ rfl rfl;simp [execOp,go_sem,Act.eval,h37']
     | 12,_ =>
       cases hq;have h48':=gq (i:=48) (gd hG 11 rfl);refine aT (R:=fun x y=>y=x) (P_ q) ?_ rfl rfl;simp [execOp,go_sem,Act.eval,h48']
    ·intro a w7 hC hdf hsz hfr hphi;have e0:a.tmps.getD 37 undef=_:=hphi 0 _ rfl;have e1:a.tmps.getD 38 undef=_:=hphi 1 _ rfl;have e2:a.tmps.getD 39 undef=_:=hphi 2 _ rfl;have e3:a.tmps.getD 40 undef=_:=hphi 3 _ rfl;have e4:a.tmps.getD 41 undef=u:=hphi 4 _ rfl;have e5:a.tmps.getD 42 undef=_:=hphi 5 _ rfl;have e6:a.tmps.getD 43 undef=J i:=hphi 6 _ rfl;have e7:a.tmps.getD 44 undef=_:=hphi 7 _ rfl;have e8:a.tmps.getD 45 undef=J x:=hphi 8 _ rfl;obtain⟨u9,e9⟩:∃ u,a.tmps.getD 46 undef=u:=⟨_,rfl⟩;have p10:zA wr w.heap.size u ys x (a.tmps.getD 47 undef) w7:=hphi 10 _ rfl rfl;obtain⟨u10,e10⟩:∃ u,a.tmps.getD 47 undef=u:=⟨_,rfl⟩;rw [e10]at p10;have e11:a.tmps.getD 48 undef=_:=hphi 11 _ rfl;have e12:a.tmps.getD 49 undef=_:=hphi 12 _ rfl;have ha:=bq hdf hsz hfr;simp only [List.take_succ_cons,List.take_zero,List.filterMap_cons,List.filterMap_nil,List.foldl_cons,List.foldl_nil,List.setIfInBounds_toArray,List.set_cons_zero,List.set_cons_succ,e0,e1,e2,e3,e4,e5,e6,e7,e8,e9,e10,e11,e12]at ha;clear hdf hsz hfr hphi hC e0 e1 e2 e3 e4 e5 e6 e7 e8 e9 e10 e11 e12;subst ha;have HT7:Hid (NL w q gc gm n (xs.take (i+1)) u10 (w7.setCell ⟨q,0,none⟩ u10)):=by rw [HNt.out];exact HL.out.next p10
     have hq7:w7.heap[q]? = _:=p10.2.1.none HQ.out (fun e=>(HL.out.apart q e).1 rfl);have d0:w7.cell? ⟨q,0,none⟩=some u:=by rw [ag hq7];rfl
     have f0:=av hq7 0
     obtain⟨p8,n8,c8,hu8⟩:∃ p n c,u10=.slice p n c:=by
      obtain⟨h1,⟨h2,-⟩ | ⟨g',cap,cur,h2,-⟩⟩:=p10.1
      ·exact⟨_,_,_,h2⟩
      ·exact⟨_,_,_,h2⟩
     subst hu8;clear p10 hq7 HQ HRow HX HL;refine⟨rfl,?_⟩;unfold Oper.wp;simp [execOp,go_sem,Act.eval,aV,d0,f0];refine ‹∀ (a:Act) (w:World),Code.wp Tryz.prog _ _ a w->_› _ _ ?_;clear d0 f0;revert HT7;generalize World.setCell _ _ _=w8;intro HT7
     go_wp2_with fail
     go_roundw
     case rel=>exact⟨i+1,_,by go_num,by omega,HT7.out⟩
     case measure=>simp [intOf];omega
   ·have hiz:¬ (i:Int)<(n:Int):=by omega
    obtain rfl:i=n:=by omega
    have hkk:¬ (i:Int)<(i:Int):=by omega
    have HF:Hid (∃ G,IsR wr q (WM.new xs) G/\(∀ b,G b->w.heap.size≤b)/\Bl w wr):=by
     have h:=HL.out;have hlt:xs.length<16:=HA.out.2.1.1;rw [HA.out.2.2.1,List.take_length]at h;exact⟨_,h.isR hlt,fun b hb=>hb.1,h.bel⟩
    go_wp2_with fail
    go_returns
    obtain⟨G,h1,h2,h3⟩:=HF.out;exact⟨q,rfl,G,h1,h2,h3⟩
end
section
variable {w:World} {p:Nat} {M:WM} {F:Nat->Prop}
end
section
variable {w:World} {p:Nat} {M:WM} {F:Nat->Prop}
end
end Go.Proofs.YthaliljaglldjaaGreat
