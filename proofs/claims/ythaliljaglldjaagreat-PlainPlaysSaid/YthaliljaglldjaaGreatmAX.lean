/- Part of the proof. -/
import Derived.Test.YthaliljaglldjaaGreatmAW
namespace Go.Proofs.YthaliljaglldjaaGreat
set_option maxHeartbeats 16000000
set_option maxRecDepth 20000
open Go.RowKit Go.ChangeMaps Go.MapKept
section
theorem xi {n:Nat} (h:(n:Int)≤maxLen):n≤9223372036854775807:=by
 have e:maxLen=9223372036854775807:=rfl;rw [e]at h;omega
theorem oJ {s s2:ByteArray} (h:¬ s=s2):¬ s.toList=s2.toList:=fun e=>h (by
 rw [ByteArray.toList_eq,ByteArray.toList_eq]at e
 rcases s with ⟨⟨l⟩⟩
 rcases s2 with ⟨⟨l2⟩⟩
 simp at e
 rw [e])
theorem mG {w w':World} {b o:Nat} {x:Val} {raw:Value} (h:w.rangeAt b o (au x raw).toList) (hb:Bl w w') (hlt:b<w.heap.size):(bp (R_ b o)).run Tryz.prog w'=.ok (.value (.agg (au x raw))) w':=by
 have:=aY (show w'.rangeAt b o (au x raw).toList from fun j v hv=>(hb.cell (p:=⟨b,o+j,none⟩) hlt).trans (h j v hv)) (by simp [au])
 rwa [Array.toArray_toList]at this
def yY (w:World) (a b:Val) (e:Ending) (w':World):Prop:=∃ B,e=.returned (.bool B)/\(B=true ↔ a=b)/\Bl w w'
def fs (f:Nat) (a b:Val):Prop:=∀ (raw1 raw2:Value) (w:World) (F1 F2:Nat->Prop),SlAt w F1 raw1 a.l->SlAt w F2 raw2 b.l ->
 Calls Tryz.prog f #[.agg (au a raw1),.agg (au b raw2)] w (yY w a b)
theorem fo:bX 52 27 51 bp:=fun _ _ _ _ _=>rfl
theorem fw:bX 57 27 56 bp:=fun _ _ _ _ _=>rfl
def AI (r0 b o c b2 o2 c2 i m:Nat) (rc rl:Value) (j:Nat) (v:Value) (_:World):Prop :=
 match j with
 | 0=>v=R_ r0 3
 | 1=>v=.slice (some ⟨b,o,none⟩) m c
 | 2=>v=J i
 | 3=>v=R_ b (o+i * 5)
 | 4=>v=rc
 | 5=>v=R_ (r0+1) 3
 | 6=>v=.slice (some ⟨b2,o2,none⟩) m c2
 | 7=>v=J i
 | 8=>v=R_ b2 (o2+i * 5)
 | 9=>v=rl
 | _=>True
theorem pO {f:Nat} (hf:f=178\/f=88) (a b:Val) (hr:∀ x ∈ a.l,∀ y,fs f x y) (hl:(a.l.length:Int)≤maxLen):fs f a b:=by
 intro raw1 raw2 w F1 F2 hS1 hS2;obtain⟨k,nn,s,l,r⟩:=a;obtain⟨k2,nn2,s2,l2,r2⟩:=b;simp only at hr hl hS1 hS2;obtain⟨pa,c,rfl⟩:=hS1.form;obtain⟨pa2,c2,rfl⟩:=hS2.form;have HL:Hid (l.length≤9223372036854775807):=xi hl;have HS:Hid (∀ w',Bl w w'->SlAt w' F1 (.slice pa l.length c) l/\SlAt w' F2 (.slice pa2 l2.length c2) l2):=fun w' hb=>⟨hS1.on hb,hS2.on hb⟩;have HR:Hid (∀ x ∈ l,∀ y,fs f x y):=hr;clear hS1 hS2 hr hl;simp only [au]
 have HB0:Hid (Bl w ((w.alloc (.cells (V_ k nn s (.slice pa l.length c) r) 27)).alloc (.cells (V_ k2 nn2 s2 (.slice pa2 l2.length c2) r2) 27)) /\
  ((w.alloc (.cells (V_ k nn s (.slice pa l.length c) r) 27)).alloc (.cells (V_ k2 nn2 s2 (.slice pa2 l2.length c2) r2) 27)).heap[w.heap.size]? = some (.cells (V_ k nn s (.slice pa l.length c) r) 27 (0,0)) /\
  ((w.alloc (.cells (V_ k nn s (.slice pa l.length c) r) 27)).alloc (.cells (V_ k2 nn2 s2 (.slice pa2 l2.length c2) r2) 27)).heap[w.heap.size+1]? = some (.cells (V_ k2 nn2 s2 (.slice pa2 l2.length c2) r2) 27 (0,0))) :=
  ⟨((Below.refl _ w).alloc aH _).alloc (by simp) _,aL w _ _,aK w _ _⟩
 rcases hf with rfl | rfl
 all_goals
  by_cases hk:k=k2
  rotate_left
  ·have HN:Hid (¬ ((⟨k,nn,s,l,r⟩:Val)=⟨k2,nn2,s2,l2,r2⟩)):=fun e=>hk (by injection e)
   first | go_enter Tryz.func178,Tryz.ntmps178 | go_enter Tryz.func88,Tryz.ntmps88
   go_wp2_with fail
   go_ret
   exact⟨false,rfl,⟨(fun h=>by cases h),fun h=>absurd h HN.out⟩,HB0.out.1⟩
  subst hk
  by_cases hn:nn=nn2
  rotate_left
  ·have HN:Hid (¬ ((⟨k,nn,s,l,r⟩:Val)=⟨k,nn2,s2,l2,r2⟩)):=fun e=>hn (by injection e)
   first | go_enter Tryz.func178,Tryz.ntmps178 | go_enter Tryz.func88,Tryz.ntmps88
   go_wp2_with fail
   go_ret
   exact⟨false,rfl,⟨(fun h=>by cases h),fun h=>absurd h HN.out⟩,HB0.out.1⟩
  subst hn
  by_cases hs:s=s2
  rotate_left
  ·have HN:Hid (¬ ((⟨k,nn,s,l,r⟩:Val)=⟨k,nn,s2,l2,r2⟩)):=fun e=>hs (by injection e);have hsl:=oJ hs
   first | go_enter Tryz.func178,Tryz.ntmps178 | go_enter Tryz.func88,Tryz.ntmps88
   go_wp2_with fail
   go_ret
   exact⟨false,rfl,⟨(fun h=>by cases h),fun h=>absurd h HN.out⟩,HB0.out.1⟩
  subst hs
  by_cases hr:r=r2
  rotate_left
  ·have HN:Hid (¬ ((⟨k,nn,s,l,r⟩:Val)=⟨k,nn,s,l2,r2⟩)):=fun e=>hr (by injection e)
   first | go_enter Tryz.func178,Tryz.ntmps178 | go_enter Tryz.func88,Tryz.ntmps88
   go_wp2_with fail
   go_ret
   exact⟨false,rfl,⟨(fun h=>by cases h),fun h=>absurd h HN.out⟩,HB0.out.1⟩
  subst hr
  by_cases hlen:l.length=l2.length
  rotate_left
  ·have HN:Hid (¬ ((⟨k,nn,s,l,r⟩:Val)=⟨k,nn,s,l2,r⟩)):=fun e=>hlen (by injection e with _ _ _ e;rw [e])
   have hz:¬ (l.length:Int)=(l2.length:Int):=by omega
   first | go_enter Tryz.func178,Tryz.ntmps178 | go_enter Tryz.func88,Tryz.ntmps88
   go_wp2_with fail
   go_ret
   exact⟨false,rfl,⟨(fun h=>by cases h),fun h=>absurd h HN.out⟩,HB0.out.1⟩
  obtain⟨m,hm⟩:∃ m,m=l.length:=⟨_,rfl⟩;have HM:Hid (m=l.length/\m=l2.length):=⟨hm,by omega⟩;rw [<- hlen]at HS HB0 ⊢;rw [<- hm]at HL HS HB0 ⊢;clear hlen hm
  first | go_enter Tryz.func178,Tryz.ntmps178 | go_enter Tryz.func88,Tryz.ntmps88
  go_wp2_with fail
  go_loopw [5] (fun vi wr=>∃ i:Nat,vi=J i/\i≤m/\Hid ((∀ j,j<i->l[j]? = l2[j]?)/\Bl w wr/\wr.heap[w.heap.size]? = some (.cells (V_ k nn s (.slice pa m c) r) 27 (0,0))/\wr.heap[w.heap.size+1]? = some (.cells (V_ k nn s (.slice pa2 m c2) r) 27 (0,0)))) (fun vi _=>m - (intOf vi).toNat)
  case atStart=>exact⟨0,rfl,Nat.zero_le _,fun j h=>absurd h (Nat.not_lt_zero j),HB0.out⟩
  case round =>
   obtain⟨i,rfl,hi,HI⟩:=hrel;have d3:wr.cell? ⟨w.heap.size,3,none⟩=some (.slice pa m c):=by rw [ag HI.out.2.2.1];rfl
   have d4:wr.cell? ⟨w.heap.size+1,3,none⟩=some (.slice pa2 m c2):=by rw [ag HI.out.2.2.2];rfl
   by_cases him:i<m
   ·have hiz:(i:Int)<(m:Int):=by omega
    obtain⟨x,hx⟩:∃ x,l[i]? = some x:=⟨_,List.getElem?_eq_getElem (by have:=HM.out.1;omega)⟩;obtain⟨y,hy⟩:∃ y,l2[i]? = some y:=⟨_,List.getElem?_eq_getElem (by have:=HM.out.2;omega)⟩;obtain⟨b,o,cq,raw,hpe,hrg,hlt,-,hSx⟩:=(HS.out wr HI.out.2.1).1.range hx;have hpa:pa=some ⟨b,o,none⟩:=by injection hpe
    subst hpa;obtain⟨b2,o2,cq2,raw2,hpe2,hrg2,hlt2,-,hSx2⟩:=(HS.out wr HI.out.2.1).2.range hy;have hpa2:pa2=some ⟨b2,o2,none⟩:=by injection hpe2
    subst hpa2;have Hx:Hid (SlAt wr F1 raw x.l/\SlAt wr F2 raw2 y.l/\fs _ x y/\(∀ w',Bl wr w'->(bp (R_ b (o+i * 5))).run Tryz.prog w'=.ok (.value (.agg (au x raw))) w')/\(∀ w',Bl wr w'->(bp (R_ b2 (o2+i * 5))).run Tryz.prog w'=.ok (.value (.agg (au y raw2))) w')):=⟨hSx,hSx2,HR.out x (List.mem_of_getElem? hx) y,fun w' h=>mG hrg h hlt,fun w' h=>mG hrg2 h hlt2⟩;have Hxy:Hid (l[i]? = some x/\l2[i]? = some y):=⟨hx,hy⟩;have hwk:wrap64 ((i:Int)+1)=(i:Int)+1:=by have:=HL.out;unfold wrap64;omega
    clear hx hy hrg hrg2 hSx hSx2 hlt hlt2 hpe hpe2
    go_upto_region 6 with fail
    clear d3 d4;refine aR 10 (by kernel_rfl) rfl (by kernel_rfl) (by kernel_rfl) (fun a b=>Bl a b) (AI w.heap.size b o c b2 o2 c2 i m (.agg (au x raw)) (.agg (au y raw2))) (fun w'=>Bl wr w') (fun j v w w' _ h=>h) below_drew (fun a b h hR=>h.trans (hR.mono h.size)) ?_ ?_ ?_
    ·exact fun _ _ _ _ h1 h2=>bC (by kernel_rfl) h1 h2
    ·intro j q a w7 hq hC hG;have hj:j<10:=ji hq
     match j,hj with
     | 0,_=>cases hq;have h2':a.tmps[2]?.getD undef=P_ w.heap.size:=gq (hG.fr 2 (by simp));unfold Oper.wp;simp [go_sem,Act.eval,h2'];exact⟨_,rfl,br,rfl⟩
     | 1,_ =>
       cases hq;have h48':=gq (i:=48) (gd hG 0 rfl);have c3:w7.cell? ⟨w.heap.size,3,none⟩=some (.slice (some ⟨b,o,none⟩) m c):=by rw [ag (ae hC HI.out.2.2.1)];rfl
       unfold Oper.wp;simp [go_sem,Act.eval,h48',c3];exact⟨_,rfl,br,rfl⟩
     | 2,_=>cases hq;have h5':a.tmps[5]?.getD undef=J i:=gq (hG.fr 5 (by simp));unfold Oper.wp;simp [go_sem,Act.eval,h5'];exact⟨_,rfl,br,rfl⟩
     | 3,_=>cases hq;have h49':=gq (i:=49) (gd hG 1 rfl);have h50':=gq (i:=50) (gd hG 2 rfl);unfold Oper.wp;simp [go_sem,Act.eval,h49',h50',hiz];exact⟨_,rfl,br,rfl⟩
     | 4,_ =>
       cases hq;have h51:a.tmps.getD 51 undef=R_ b (o+i * 5):=gd hG 3 rfl;refine aT (.agg (au x raw)) ?_ br rfl;rw [fo];show (bp (a.tmps.getD 51 undef)).run _ _=_;rw [h51];exact Hx.out.2.2.2.1 _ hC
     | 5,_=>cases hq;have h3':a.tmps[3]?.getD undef=P_ (w.heap.size+1):=gq (hG.fr 3 (by simp));unfold Oper.wp;simp [go_sem,Act.eval,h3'];exact⟨_,rfl,br,rfl⟩
     | 6,_ =>
       cases hq;have h53':=gq (i:=53) (gd hG 5 rfl);have c3:w7.cell? ⟨w.heap.size+1,3,none⟩=some (.slice (some ⟨b2,o2,none⟩) m c2):=by rw [ag (ae hC HI.out.2.2.2)];rfl
       unfold Oper.wp;simp [go_sem,Act.eval,h53',c3];exact⟨_,rfl,br,rfl⟩
     | 7,_=>cases hq;have h5':a.tmps[5]?.getD undef=J i:=gq (hG.fr 5 (by simp));unfold Oper.wp;simp [go_sem,Act.eval,h5'];exact⟨_,rfl,br,rfl⟩
     | 8,_=>cases hq;have h54':=gq (i:=54) (gd hG 6 rfl);have h55':=gq (i:=55) (gd hG 7 rfl);unfold Oper.wp;simp [go_sem,Act.eval,h54',h55',hiz];exact⟨_,rfl,br,rfl⟩
     | 9,_ =>
       cases hq;have h56:a.tmps.getD 56 undef=R_ b2 (o2+i * 5):=gd hG 8 rfl;refine aT (.agg (au y raw2)) ?_ br rfl;rw [fw];show (bp (a.tmps.getD 56 undef)).run _ _=_;rw [h56];exact Hx.out.2.2.2.2 _ hC
    intro a w7 hC hdf hsz hfr hphi;have e0:a.tmps.getD 48 undef=_:=hphi 0 _ rfl;have e1:a.tmps.getD 49 undef=_:=hphi 1 _ rfl;have e2:a.tmps.getD 50 undef=J i:=hphi 2 _ rfl;have e3:a.tmps.getD 51 undef=_:=hphi 3 _ rfl;have e4:a.tmps.getD 52 undef=_:=hphi 4 _ rfl;have e5:a.tmps.getD 53 undef=_:=hphi 5 _ rfl;have e6:a.tmps.getD 54 undef=_:=hphi 6 _ rfl;have e7:a.tmps.getD 55 undef=J i:=hphi 7 _ rfl;have e8:a.tmps.getD 56 undef=_:=hphi 8 _ rfl;have e9:a.tmps.getD 57 undef=_:=hphi 9 _ rfl;have ha:=bq hdf hsz hfr;simp only [List.take_succ_cons,List.take_zero,List.filterMap_cons,List.filterMap_nil,List.foldl_cons,List.foldl_nil,List.setIfInBounds_toArray,List.set_cons_zero,List.set_cons_succ,e0,e1,e2,e3,e4,e5,e6,e7,e8,e9]at ha;clear hdf hsz hfr hphi e0 e1 e2 e3 e4 e5 e6 e7 e8 e9;subst ha;refine⟨rfl,?_⟩;unfold Oper.wp;simp [go_sem,callFunc,Act.eval,Tryz.func178,Tryz.func88];refine(Hx.out.2.2.1 _ _ _ _ _ (Hx.out.1.on hC) (Hx.out.2.1.on hC)).mono ?_;rintro e w8 ⟨B,rfl,hB,hb8⟩;have HBx:Hid (B=true ↔ x=y):=hB;have hC8:Bl wr w8:=hC.trans (hb8.mono hC.size);have HI8:Hid (Bl w w8/\_/\_):=⟨HI.out.2.1.trans (hC8.mono HI.out.2.1.size),ae hC8 HI.out.2.2.1,ae hC8 HI.out.2.2.2⟩;have HJ:Hid (∀ j,j<i->l[j]? = l2[j]?):=HI.out.1;clear hC8 hC hb8 hB HI Hx
    cases B with
    | true =>
      have HJ2:Hid (∀ j,j<i+1->l[j]? = l2[j]?):=fun j hj=>by
       by_cases e:j=i
       ·subst e;rw [Hxy.out.1,Hxy.out.2,HBx.out.1 rfl]
       ·exact HJ.out j (by omega)
      refine⟨rfl,?_⟩;unfold Oper.wp;simp [execOp,go_sem,Act.eval,aV];refine ‹∀ (a:Act) (w:World),Code.wp Tryz.prog _ _ a w->_› _ _ ?_
      go_wp2_with fail
      go_roundw
      case rel=>exact⟨i+1,by go_num,by omega,HJ2.out,HI8.out⟩
      case measure=>rw [hwk];exact nk him
    | false =>
      have HN:Hid (¬ ((⟨k,nn,s,l,r⟩:Val)=⟨k,nn,s,l2,r⟩)):=fun e=>by
       injection e with _ _ _ e
       have h1:=Hxy.out.1;rw [e,Hxy.out.2]at h1;injection h1 with h1
       have:=HBx.out.2 h1.symm
       cases this
      refine⟨rfl,?_⟩;unfold Oper.wp;simp [execOp,go_sem,Act.eval,aV];refine ‹∀ (a:Act) (w:World),Code.wp Tryz.prog _ _ a w->_› _ _ ?_
      go_wp2_with fail
      go_ret
      exact⟨false,rfl,⟨(fun h=>by cases h),fun h=>absurd h HN.out⟩,HI8.out.1⟩
   ·have hiz:¬ (i:Int)<(m:Int):=by omega
    obtain rfl:i=m:=by omega
    have HE:Hid ((⟨k,nn,s,l,r⟩:Val)=⟨k,nn,s,l2,r⟩):=by
     have e:l=l2:=List.ext_getElem? fun j=>by
      by_cases hj:j<i
      ·exact HI.out.1 j hj
      ·rw [List.getElem?_eq_none (by have:=HM.out.1;omega),List.getElem?_eq_none (by have:=HM.out.2;omega)]
     show _=_;rw [e]
    have HB:Hid (Bl w wr):=HI.out.2.1;have hkk:¬ (i:Int)<(i:Int):=by omega
    clear HI
    go_wp2_with fail
    go_ret
    exact⟨true,rfl,⟨fun _=>HE.out,fun _=>rfl⟩,HB.out⟩
theorem lS {f:Nat} (hf:f=178\/f=88) (a:Val) (h:a.wf) (b:Val):fs f a b:=pO hf a b (fun x hx y=>lS hf x (h.sub x hx) y) h.len
termination_by SizeOf.sizeOf a
decreasing_by
 have:=List.sizeOf_lt_of_mem hx
 cases a
 simp at this ⊢;omega
theorem iO (a:Val) (h:a.wf) (b:Val):fs 178 a b:=lS (.inl rfl) a h b
theorem iS (a:Val) (h:a.wf) (b:Val):fs 88 a b:=lS (.inr rfl) a h b
end
section
theorem cG:(⟨0,0,⟨#[]⟩,[],0⟩:Val).wf:=.mk _ _ _ _ _ ⟨by decide,by decide⟩ (by simp [maxLen]) (fun x hx=>by cases hx) ⟨rfl,rfl⟩
theorem dP (w:World):Calls Tryz.prog 174 #[.agg O] w fun e w'=>e=.returned (.bool true)/\Bl w w':=by
 have h:=Ar (w:=w) (F:=fun _=>False) (v:=⟨0,0,⟨#[]⟩,[],0⟩) (raw:=S_) cG (SlAt.nil _ _ _ _);rw [(by rfl:ay ⟨0,0,⟨#[]⟩,[],0⟩=true)]at h;exact h
theorem dk (w:World):Calls Tryz.prog 178 #[.agg O,.agg O] w fun e w'=>e=.returned (.bool true)/\Bl w w':=by
 refine(iO ⟨0,0,⟨#[]⟩,[],0⟩ cG ⟨0,0,⟨#[]⟩,[],0⟩ (S_) (S_) w (fun _=>False) (fun _=>False) (SlAt.nil _ _ _ _) (SlAt.nil _ _ _ _)).mono ?_;rintro e w' ⟨B,rfl,hB,hb⟩;rw [hB.2 rfl];exact⟨rfl,hb⟩
theorem iR (w:World) (p:Option Addr) (n c:Nat):Calls Tryz.prog 175 #[.slice p n c] w fun e w'=>e=.returned (.agg (V_ 3 0 ⟨#[]⟩ (.slice p n c) 0))/\Below w.heap.size w w':=by
 go_enter Tryz.func175,Tryz.ntmps175
 go_wp2_with fail
 go_returns
 exact⟨rfl,by go_grown⟩
theorem cV (w:World) (A B:Array Value):∀ wx,wx=(w.alloc (.cells A 46)).alloc (.cells B 46)\/wx=((w.alloc (.cells A 46)).alloc (.cells B 46)).drew->Bl w wx/\wx.heap[w.heap.size]? = some (.cells A 46 (0,0))/\wx.heap[w.heap.size+1]? = some (.cells B 46 (0,0)):=by
 intro wx e;have key:=And.intro (((Below.refl _ w).alloc aH (.cells A 46)).alloc (by simp) (.cells B 46)) (And.intro (aL w (.cells A 46) (.cells B 46)) (aK w (.cells A 46) (.cells B 46)))
 rcases e with e | e
 ·subst e;exact key
 ·subst e;exact⟨key.1.trans (below_drew.mono key.1.size),key.2⟩
def f7 (t:Th):Th where
 kind:=t.kind
 home:=if t.kind=14 then 0 else t.home
 v:=if t.kind=1\/t.kind=7\/t.kind=10 then t.v else ⟨0,0,⟨#[]⟩,[],0⟩
 vl:=if t.kind=1\/t.kind=7\/t.kind=10 then t.vl else S_
 vs:=[]
 vals:=S_
 n:=if t.kind=3\/t.kind=8\/t.kind=9 then t.n else 0
 lost:=if t.kind=8 then t.lost else 0
 tgt:=if t.kind=6\/t.kind=7\/t.kind=9\/t.kind=11\/13≤t.kind then t.tgt else 0
 bi:=if 15≤t.kind then t.bi else 0
 set:=if t.kind=14 then t.set else 0
 full:=if t.kind=10\/t.kind=13 then t.full else false
 code:=S_
 names:=S_
end
section
theorem bP {w:World} {n:Nat} {v:Value} {xs:List Int} {base:Nat} {e:TypeId} (h:w.ownsRow base e 1 v n (xs.map (Value.int .i64))) {j:Nat} {x:Int} (hx:xs[j]? = some x) :
 ∃ g c,v=.slice (some ⟨g,0,none⟩) n c/\w.cell? ⟨g,j,none⟩=some (.int .i64 x)/\w.frozen? ⟨g,j,none⟩=false/\g<w.heap.size:=by
 obtain⟨h1,⟨rfl,h0⟩ | ⟨g,cap,cur,rfl,hg,hb,hc,hm,hcs,ht⟩⟩:=h
 ·subst h0;simp at h1;subst h1;simp at hx
 ·refine⟨g,cap,rfl,?_,av hb j,aw hb⟩;rw [ag hb,← Array.getElem?_toList];have h2:(xs.map (Value.int .i64))[j]? = some (.int .i64 x):=by rw [List.getElem?_map,hx];rfl
  rw [<- ht,List.getElem?_take]at h2;split at h2
  ·exact h2
  ·cases h2
theorem mW {w:World} {n c g:Nat} {xs:List Value} {base:Nat} {e:TypeId} (h:w.ownsRow base e 1 (.slice (some ⟨g,0,none⟩) n c) n xs) (j:Nat) (y:Value) :
 (w.setCell ⟨g,j,none⟩ y).ownsRow base e 1 (.slice (some ⟨g,0,none⟩) n c) n (xs.set j y):=by
 obtain⟨h1,⟨h2,-⟩ | ⟨g',cap,cur,h2,hg,hb,hc,hm,hcs,ht⟩⟩:=h
 ·cases h2
 ·cases h2
  refine⟨by simpa using h1,.inr ⟨g,c,cur.setIfInBounds j y,rfl,hg,aA hb j y,hc,hm,by simpa using hcs,?_⟩⟩;rw [Array.toList_setIfInBounds,List.take_set,ht]
theorem RVw.count {w:World} {q:Nat} {M:WM} {G:Nat->Prop} {sP sC sT sM:Value} (h:RVw w q M G sP sC sT sM) {g c:Nat} (hs:sM=.slice (some ⟨g,0,none⟩) M.made.length c) (j:Nat) (y:Int) :
 RVw (w.setCell ⟨g,j,none⟩ (J y)) q { M with made:=M.made.set j y } G sP sC sT sM/\Keeps G w (w.setCell ⟨g,j,none⟩ (J y)):=by
 have hG:G g:=h.own g (.inr (.inr (.inr (.inr (by rw [hs];rfl)))));have hk:=Keeps.setCell (S:=fun b=>b=g) w ⟨g,j,none⟩ (J y) rfl;have hown:sM.ownBlock=some g:=by rw [hs];rfl
 have hqg:q≠g:=fun e=>h.apq.2.2.2 (by rw [hown,e]);refine⟨?_,hk.mono fun b _ e=>by subst e;exact hG⟩
 exact {
  blk:=hk.none h.blk hqg
  rp:=ownsRow_keeps h.rp hk fun b hb e=>(h.app b hb).2.2 (by rw [hown,e])
  rc:=ownsRow_keeps h.rc hk fun b hb e=>(h.apc b hb).2 (by rw [hown,e])
  rt:=ownsRow_keeps h.rt hk fun b hb e=>h.apt b hb (by rw [hown,e])
  rm:=by
   have hr:=h.rm;subst hs;have:=mW hr j (J y);rw [<- List.map_set]at this
   simpa using this
  own:=h.own
  lt:=fun b hb=>by simpa [World.setCell]using h.lt b hb
  deep:=fun r t ht=>((h.deep r t ht).keeps hk fun b hb _ e=>hb.2.2.2.2.2 (by rw [hown,e])).mono fun b hb=>hb.1
  apq:=h.apq
  app:=h.app
  apc:=h.apc
  apt:=h.apt }
def MakeR (w:World) (q:Nat) (N:WM) (G:Nat->Prop) (t:Th) (aE:Int) (e:Ending) (w':World):Prop :=
 (aE≠0/\e=.returned (.tuple #[J 0,J aE])/\Bl w w') \/
 (aE=0/\¬ N.made.getD t.home.toNat 0<512/\e=.returned (.tuple #[J 0,J 8])/\Bl w w') \/
 (aE=0/\N.made.getD t.home.toNat 0<512/\e=.returned (.tuple #[J (N.last+1),J 0])/\∃ vl' vals' G',IsR w' q (N.add { t with vl:=vl',vals:=vals' }) G'/\Keeps G w w'/\(∀ b,G' b->G b\/w.heap.size≤b)/\(t.v.l = []->vl'=.slice none 0 0)/\(t.vs = []->vals'=.slice none 0 0))
theorem lV {w:World} {q:Nat} {N:WM} {G F:Nat->Prop} (hR:IsR w q N G) (hl:N.things.length≤100000) (hla:0≤N.last/\N.last≤1099511627776) (hmade:∀ (i:Nat) (x:Int),N.made[i]? = some x->0≤x/\x≤512)
 (t:Th) (h1:SlAt w F t.vl t.v.l) (h2:SlAt w F t.vals t.vs) (hc:t.code=.slice none 0 0) (hn:t.names=.slice none 0 0) (hd:bY 16 t.v) (hds:∀ x ∈ t.vs,bY 16 x) (hvl:t.vs.length≤1000) (hF:∀ b,F b->¬ G b)
 (hhome:0≤t.home/\t.home<N.made.length) (hk:0≤t.kind/\t.kind≤255) (hk13:t.kind≠13/\t.kind≠14/\t.kind≠15) (aE:Int)
 (hform:∀ w',Bl w w'->Calls Tryz.prog 81 #[.agg (aF t),J N.made.length] w' fun e w''=>e=.returned (.bool true)/\Bl w' w'')
 (hask:∀ w',Bl w w'->Calls Tryz.prog 82 #[P_ q,J 0,.agg (aF t)] w' fun e w''=>e=.returned (J aE)/\Bl w' w'') :
 Calls Tryz.prog 15 #[P_ q,.agg (aF t)] w (MakeR w q N G t aE):=by
 have hwk:IntKind.i64.wrap t.kind=t.kind:=by simp [IntKind.wrap,IntKind.signed,IntKind.bits];omega
 obtain⟨hk13,hk14,hk15⟩:=hk13;have k13:(t.kind==13)=false:=by simpa using hk13
 have k14:(t.kind==14)=false:=by simpa using hk14
 have k15:(t.kind==15)=false:=by simpa using hk15
 obtain⟨pv,cv,hv⟩:=h1.form;obtain⟨ps,cs,hvals⟩:=h2.form;obtain⟨j,hj⟩:∃ j:Nat,t.home=j:=⟨t.home.toNat,by omega⟩;have hjn:j<N.made.length:=by omega
 obtain⟨m,hm⟩:∃ m,N.made[j]? = some m:=⟨_,List.getElem?_eq_getElem hjn⟩;have hm512:=hmade j m hm;have hgd:N.made.getD t.home.toNat 0=m:=by rw [hj];simp [List.getD_eq_getElem?_getD,hm]
 have HADD:Hid (∀ (w':World),Keeps G w w'->IsR w' q { N with made:=N.made.set j (m+1) } G->Calls Tryz.prog 83 #[P_ q,.agg (aF t)] w' (xS w' q { N with made:=N.made.set j (m+1) } G t)):=fun w' hk' hR' =>
  xN hR' hl hla t (h1.lt.keeps hk' fun b e h=>hF b h.1 e) (h2.lt.keeps hk' fun b e h=>hF b h.1 e) hc hn hd hds hvl (fun b h=>hF b h.1)
 obtain⟨sP,sC,sT,sM,hV⟩:=hR;obtain⟨g,cM,hsM,hcm,hfm,hgl⟩:=bP hV.rm hm
 have hone:(aF t).all (·.oneCell')=true:=by
  simp only [aF,hc,hn,hv,hvals];simp [go_sem]
 obtain⟨ln,hln⟩:∃ ln,ln=N.made.length:=⟨_,rfl⟩;rw [<- hln]at hsM;have HV:Hid (RVw w q N G sP sC sT sM):=hV;have HFM:Hid _:=hform;have HAK:Hid _:=hask;have HI:Hid (N.made.getD t.home.toNat 0=m/\t.home=j/\0≤m/\m≤512/\j<ln/\ln=N.made.length):=⟨hgd,hj,hm512.1,hm512.2,by omega,hln⟩;have hwm:wrap64 (m+1)=m+1:=by unfold wrap64;omega
 have DS:Hid (∀ w',Bl w w'->w'.heap[w.heap.size]? = some (.cells (aF t) 46 (0,0))->w'.cell? ⟨q,4,none⟩=some sM/\w'.cell? ⟨w.heap.size,0,none⟩=some (.int .u8 t.kind)/\w'.cell? ⟨w.heap.size,1,none⟩=some (.int .i64 j) /\
  (dZ (P_ w.heap.size)).run Tryz.prog w'=.ok (.value (.agg (aF t))) w'/\w'.cell? ⟨g,j,none⟩=some (.int .i64 m)/\w'.frozen? ⟨g,j,none⟩=false):=fun w' hb hx=>by
  have hq:=ae hb hV.blk;have hb':w'.heap[g]? = w.heap[g]?:=hb.block g hgl;refine⟨by rw [ag hq];rfl,by rw [ag hx];rfl,by rw [ag hx,← hj];rfl,aD hx rfl,?_,?_⟩
  ·exact(World.cell?_of_block (a:=⟨g,j,none⟩) hb').trans hcm
  ·exact(World.frozen?_of_block (a:=⟨g,j,none⟩) hb').trans hfm
 clear hV hform hask hgd hj hm512 hln h1 h2 hc hn hd hds hvl hF hl hla hmade hhome hk hm hjn hcm hfm hgl hv hvals hone
 go_enter Tryz.func15,Tryz.ntmps15
 go_upto_region 1 with fail
 have H0:Hid (Bl w (w.alloc (.cells (aF t) 46))/\(w.alloc (.cells (aF t) 46)).heap[w.heap.size]? = some (.cells (aF t) 46 (0,0))):=⟨(Below.refl _ w).alloc aH _,ai _ _⟩;revert H0;generalize w.alloc _=w0;intro H0
 have ds:Hid (∀ w',Bl w0 w'->w'.cell? ⟨q,4,none⟩=some (.slice (some ⟨g,0,none⟩) ln cM)/\w'.cell? ⟨w.heap.size,0,none⟩=some (.int .u8 t.kind)/\(dZ (P_ w.heap.size)).run Tryz.prog w'=.ok (.value (.agg (aF t))) w'/\Bl w w'):=fun w' hb=>by
  have hb':=H0.out.1.trans (hb.mono H0.out.1.size);obtain⟨q1,q2,q3,q4,-⟩:=DS.out w' hb' (ae hb H0.out.2);rw [hsM]at q1;exact⟨q1,q2,q4,hb'⟩
 have Hf:Hid (∀ w',Bl w w'->Calls Tryz.prog 81 #[.agg (aF t),J ln] w' fun e w''=>e=.returned (.bool true)/\Bl w' w''):=by rw [HI.out.2.2.2.2.2];exact HFM.out
 have k0:=(ds.out w0 br).2.1
 go_upto_region 2 with fail
 clear k0;refine cZ (C:=fun w'=>Bl w0 w') (by kernel_rfl) (by kernel_rfl) below_drew ?_
 repeat (first
  | go_big_quiet_step (fail)
  | quiet_step (fail)
  | (refine wpQuiet_step (fun K hK=>?_);go_simp;first
   | (refine hK _ ?_;clear hK K)
   | (apply Exists.intro
      refine⟨fun w' hC=>?_,hK _ ?_⟩
      ·obtain⟨q1,q2,q3,q4⟩:=ds.out w' hC
       first
        | exact rfl
        | (go_simp;exact rfl)
        | (go_simp;exact⟨rfl,rfl⟩)
        | exact(Hf.out w' q4).mono fun e w'' ⟨he,hb⟩=>⟨he,hC.trans (hb.mono hC.size)⟩
      clear hK K)))
 refine wpQuiet_nil ?_;intro w5 hC5;have H5:Hid (Bl w w5/\w5.heap[w.heap.size]? = some (.cells (aF t) 46 (0,0))):=⟨(ds.out w5 hC5).2.2.2,ae hC5 H0.out.2⟩;have l5:=(ds.out w5 hC5).2.2.1;clear hC5 ds Hf H0
 go_wp2_with fail
 refine Calls.mono (HAK.out w5 H5.out.1) ?_;rintro e w6 ⟨rfl,hb6⟩;have H6:Hid (Bl w w6/\w6.heap[w.heap.size]? = some (.cells (aF t) 46 (0,0))):=⟨H5.out.1.trans (hb6.mono H5.out.1.size),ae hb6 H5.out.2⟩;clear hb6 H5 l5 HAK HFM
 by_cases ha:aE=0
 rotate_left
 ·have HR:Hid (MakeR w q N G t aE (.returned (.tuple #[J 0,J aE])) w6):=.inl ⟨ha,rfl,H6.out.1⟩;have hab:(aE==0)=false:=by simpa using ha
  go_wp2_with fail
  go_returns
  exact HR.out
 subst ha;obtain⟨c4,-,c1,l6,cm,fm⟩:=DS.out w6 H6.out.1 H6.out.2;rw [hsM]at c4;have hj0:(0:Int)≤(j:Int):=by omega
 have hjl:(j:Int)<(ln:Int):=by have:=HI.out.2.2.2.2.1;omega
 have hjl':j<ln:=HI.out.2.2.2.2.1
 by_cases hm5:m ≥ 512
 ·have HR:Hid (∀ wx,wx=w6.drew\/wx=w6->MakeR w q N G t 0 (.returned (.tuple #[J 0,J 8])) wx):=fun wx e=>.inr (.inl ⟨rfl,by rw [HI.out.1];omega,rfl,by
   rcases e with rfl | rfl
   ·exact H6.out.1.trans (below_drew.mono H6.out.1.size)
   ·exact H6.out.1⟩)
  go_upto_region 7 with fail
  go_region
  all_goals
   go_wp2_with fail
   go_returns
   exact HR.out _ (.inl rfl)
 have HM5:Hid (m<512):=by show _<_;omega
 have hm5':¬ m ≥ 512:=hm5
 have HC:Hid (∀ wx,wx=(w6.drew.setCell ⟨g,j,none⟩ (J (m+1))).drew ->
  wx.heap[w.heap.size]? = some (.cells (aF t) 46 (0,0))/\Keeps G w wx/\IsR wx q { N with made:=N.made.set j (m+1) } G/\w.heap.size≤wx.heap.size):=fun wx e=>by
  have hv6:=(HV.out.below H6.out.1).below below_drew;have hs:=hsM;rw [HI.out.2.2.2.2.2]at hs;obtain⟨h1,h2⟩:=hv6.count hs j (m+1);have hgw:g<w.heap.size:=HV.out.lt g (HV.out.own g (.inr (.inr (.inr (.inr (by rw [hsM];rfl))))));have hx:(w6.drew.setCell ⟨g,j,none⟩ (J (m+1))).heap[w.heap.size]? = some (.cells (aF t) 46 (0,0)):=eK (w:=w6.drew) H6.out.2 _ _ (by show w.heap.size≠g;omega);have hk:=(Keeps.of_below (S:=G) H6.out.1).drew.trans h2 (fun _ _ h=>h) (fun _ _ h=>h);have hi:IsR (w6.drew.setCell ⟨g,j,none⟩ (J (m+1))) q { N with made:=N.made.set j (m+1) } G:=⟨sP,sC,sT,sM,h1⟩
  subst e;exact⟨hx,hk.drew,hi.below below_drew,hk.size⟩
 have d4:w6.drew.cell? ⟨q,4,none⟩=_:=c4;have d1:w6.drew.cell? ⟨w.heap.size,1,none⟩=_:=c1;have dm:w6.drew.cell? ⟨g,j,none⟩=_:=cm;have dfm:w6.drew.frozen? ⟨g,j,none⟩=_:=fm;clear hm5
 go_upto_region 7 with fail
 go_region
 all_goals (go_upto_region 9 with fail)
 clear d4 d1 dm dfm c4 c1 cm fm l6
 have c4:w6.drew.cell? ⟨q,4,none⟩=some (.slice (some ⟨g,0,none⟩) ln cM):=by
  have:=(DS.out w6 H6.out.1 H6.out.2).1;rw [hsM]at this;exact this
 have c1:w6.drew.cell? ⟨w.heap.size,1,none⟩=some (.int .i64 j):=(DS.out w6 H6.out.1 H6.out.2).2.2.1;have cm:w6.drew.cell? ⟨g,j,none⟩=some (.int .i64 m):=(DS.out w6 H6.out.1 H6.out.2).2.2.2.2.1;have fm:w6.drew.frozen? ⟨g,j,none⟩=false:=(DS.out w6 H6.out.1 H6.out.2).2.2.2.2.2;generalize hwd:w6.drew=wd at *
 go_region
 all_goals (go_upto_region 10 with fail)
 obtain⟨wx,hwx⟩:∃ wx,wx=(wd.setCell ⟨g,j,none⟩ (J (m+1))).drew:=⟨_,rfl⟩;have HX:Hid (wx.heap[w.heap.size]? = some (.cells (aF t) 46 (0,0))/\Keeps G w wx/\IsR wx q { N with made:=N.made.set j (m+1) } G/\w.heap.size≤wx.heap.size):=HC.out wx hwx
 rw [<- hwx];have l9:=aD HX.out.1 rfl;clear hwx hwd c4 c1 cm fm HC DS
 go_wp2_with fail
 refine Calls.mono (HADD.out wx HX.out.2.1 HX.out.2.2.1) ?_;rintro e w9 ⟨vl',vals',G',rfl,hr9,hk9,hg9,n1,n2⟩
 have HR:Hid (MakeR w q N G t 0 (.returned (.tuple #[J (N.last+1),J 0])) w9):=by
  refine .inr (.inr ⟨rfl,by rw [HI.out.1];exact HM5.out,rfl,vl',vals',G',?_,HX.out.2.1.trans hk9 (fun _ _ h=>h) (fun _ _ h=>h),fun b hb=>(hg9 b hb).imp id fun h=>Nat.le_trans HX.out.2.2.2 h,n1,n2⟩)
  have e:(N.add { t with vl:=vl',vals:=vals' }) = { N with made:=N.made.set j (m+1),things:=N.things ++ [(N.last+1,{ t with vl:=vl',vals:=vals' })],last:=N.last+1 }:=by
   unfold WM.add;rw [if_neg hk14];show WM.mk _ _ _ _ (N.made.set t.home.toNat (N.made.getD t.home.toNat 0+1))=_;rw [HI.out.1,HI.out.2.1];rfl
  rw [e];exact hr9
 clear hr9 hk9 hg9 n1 n2 HX HADD l9
 go_wp2_with fail
 go_returns
 exact HR.out
end
section
structure ROk (N:WM):Prop where
 len:N.things.length≤100000
 cell:∀ x ∈ N.things,(aF x.2).all (·.oneCell')=true/\1≤x.2.kind/\x.2.kind≤255
theorem ROk.kd {N:WM} (h:ROk N):∀ x ∈ N.things,(aF x.2).all (·.oneCell')=true/\0≤x.2.kind/\x.2.kind≤255:=fun x hx=>⟨(h.cell x hx).1,by have:=(h.cell x hx).2.1;omega,(h.cell x hx).2.2⟩
theorem ROk.one {N:WM} (h:ROk N) (r:Int):(aF (at7 N r)).all (·.oneCell')=true:=by
 rcases lM (M:=N) (r:=r)with e | ⟨x,hx,e⟩
 ·rw [e,bS];simp [go_sem]
 ·rw [e];exact(h.cell x hx).1
theorem tT (w:World) (k:Int) (h14:k≠14) (h15:k≠15) (h16:k≠16):Calls Tryz.prog 146 #[J k] w fun e w'=>e=.returned (.bool false)/\w=w':=by
 have b14:(k==14)=false:=by simpa using h14
 have b15:(k==15)=false:=by simpa using h15
 have b16:(k==16)=false:=by simpa using h16
 go_enter Tryz.func146,Tryz.ntmps146
 go_wp2_with fail
 go_ret
 exact⟨rfl,rfl⟩
theorem oF {w:World} {q:Nat} {N:WM} {G:Nat->Prop} (hR:IsR w q N G) (hN:ROk N) (t:Th) (r:Int) (hk:0≤t.kind/\t.kind≤255)
 (hks:t.kind≠6/\t.kind≠7/\t.kind≠9/\t.kind≠11/\t.kind≠13/\t.kind≠14/\t.kind≠15/\t.kind≠16) (rs:List Int) (hrl:rs.length≤100000)
 (hrefs:∀ w',Bl w w'->Calls Tryz.prog 179 #[.agg (aF t)] w' fun e w''=>∃ u,e=.returned u/\bF w'' w'.heap.size u rs/\Bl w' w'')
 (hall:∀ x ∈ rs,(N.at x).isSome=true) :
 Calls Tryz.prog 82 #[P_ q,J r,.agg (aF t)] w fun e w'=>e=.returned (J 0)/\Bl w w':=by
 have hwk:IntKind.i64.wrap t.kind=t.kind:=by simp [IntKind.wrap,IntKind.signed,IntKind.bits];omega
 obtain⟨h6,h7,h9,h11,h13,h14,h15,h16⟩:=hks;have b6:(t.kind==6)=false:=by simpa using h6
 have b7:(t.kind==7)=false:=by simpa using h7
 have b9:(t.kind==9)=false:=by simpa using h9
 have b11:(t.kind==11)=false:=by simpa using h11
 have b13:(t.kind==13)=false:=by simpa using h13
 have b14:(t.kind==14)=false:=by simpa using h14
 have b15:(t.kind==15)=false:=by simpa using h15
 have b16:(t.kind==16)=false:=by simpa using h16
 have HRf:Hid _:=hrefs
 have HKd:Hid (∀ w',Bl w w'->∀ x ∈ rs,Calls Tryz.prog 147 #[P_ q,J x] w' fun e w''=>∃ k,e=.returned (J k)/\(k==0)=false/\Bl w' w''):=fun w' hb x hx=>by
  refine(mD (hR.below hb) hN.len x hN.kd).mono ?_;rintro e w'' ⟨rfl,hb'⟩;refine⟨_,rfl,?_,hb'⟩;obtain⟨u,hu⟩:=Option.isSome_iff_exists.1 (hall x hx);have h1:=(hN.cell (x,u) (cK hu)).2.1;have:(at7 N x).kind≠0:=by unfold at7;rw [hu];simp only [Option.getD_some]at *;omega
  simpa using this
 have HAt:Hid (∀ w',Bl w w'->∀ x,Calls Tryz.prog 47 #[P_ q,J x] w' fun e w''=>e=.returned (.tuple #[.agg (aF (at7 N x)),.bool (N.at x).isSome])/\Bl w' w''):=fun w' hb x=>fH (hR.below hb) hN.len x fun y hy=>(hN.cell y hy).1;have HL:Hid (rs.length≤100000/\∀ x,(aF (at7 N x)).all (·.oneCell')=true):=⟨hrl,hN.one⟩;have H0:Hid (Bl w (w.alloc (.cells (aF t) 46))/\(w.alloc (.cells (aF t) 46)).heap[w.heap.size]? = some (.cells (aF t) 46 (0,0))):=⟨(Below.refl _ w).alloc aH _,ai _ _⟩;clear hR hN hrefs hall hrl h6 h7 h9 h11 h13 h14 h15 h16 hk
 go_enter Tryz.func82,Tryz.ntmps82
 go_upto_region 1 with fail
 revert H0;generalize w.alloc _=w0;intro H0;have l0:=aD H0.out.2 rfl
 go_wp2_with fail
 refine Calls.mono (HRf.out w0 H0.out.1) ?_;rintro e w1 ⟨u,rfl,hr1,hb1⟩;have H1:Hid (Bl w w1/\w1.heap[w.heap.size]? = some (.cells (aF t) 46 (0,0))/\bF w1 w0.heap.size u rs):=⟨H0.out.1.trans (hb1.mono H0.out.1.size),ae hb1 H0.out.2,hr1⟩;obtain⟨n,hn⟩:∃ n,n=rs.length:=⟨_,rfl⟩
 obtain⟨p,c,rfl⟩:∃ p c,u=.slice p n c:=by
  obtain⟨h1,⟨rfl,h0⟩ | ⟨g,cap,cur,rfl,-⟩⟩:=hr1
  ·exact⟨none,0,by rw [hn,h0]⟩
  ·exact⟨_,_,by rw [hn]⟩
 have HN:Hid (n=rs.length):=hn;clear hr1 hb1 H0 l0 HRf hn
 go_wp2_with fail
 go_loopw [8] (fun vi wr=>∃ i:Nat,vi=J i/\i≤n/\Hid (Bl w1 wr)) (fun vi _=>n - (intOf vi).toNat)
 case atStart=>exact⟨0,rfl,Nat.zero_le _,br⟩
 case round =>
  obtain⟨i,rfl,hi,HB⟩:=hrel;have HBw:Hid (Bl w wr):=H1.out.1.trans (HB.out.mono H1.out.1.size)
  by_cases hin:i<n
  ·have hiz:(i:Int)<(n:Int):=by omega
   have hi0:(0:Int)≤(i:Int):=by omega
   obtain⟨x,hx⟩:∃ x,rs[i]? = some x:=⟨_,List.getElem?_eq_getElem (by have:=HN.out;omega)⟩;have hrow:wr.ownsRow w0.heap.size 25 1 (.slice p n c) rs.length (rs.map (Value.int .i64)):=dj H1.out.2.2 HB.out;obtain⟨g,c',hs,hcx,-,-⟩:=bP hrow hx;have hp:p=some ⟨g,0,none⟩:=by injection hs
   subst hp;have HC:Hid _:=HKd.out wr HBw.out x (List.mem_of_getElem? hx);have hwi:wrap64 ((i:Int)+1)=(i:Int)+1:=by have:=HL.out.1;have:=HN.out;unfold wrap64;omega
   clear hrow hs hx
   go_wp2_with fail
   refine Calls.mono HC.out ?_;rintro e w3 ⟨k,rfl,hk0,hb3⟩;have HB3:Hid (Bl w1 w3):=HB.out.trans (hb3.mono HB.out.size);clear hb3 HB HBw HC hcx
   go_wp2_with fail
   go_roundw
   case rel=>exact⟨i+1,by go_num,by omega,HB3.out⟩
   case measure=>rw [hwi];simp [intOf];omega
  ·have hiz:¬ (i:Int)<(n:Int):=by omega
   obtain rfl:i=n:=by omega
   have hkk:¬ (i:Int)<(i:Int):=by omega
   have H4:Hid (Bl w wr/\wr.heap[w.heap.size]? = some (.cells (aF t) 46 (0,0))):=⟨HBw.out,ae HB.out H1.out.2.1⟩;clear HB HBw H1 HKd;have c0:wr.cell? ⟨w.heap.size,0,none⟩=some (.int .u8 t.kind):=by rw [ag H4.out.2];rfl
   have c10:wr.cell? ⟨w.heap.size,10,none⟩=some (.int .i64 t.tgt):=by rw [ag H4.out.2];rfl
   go_wp2_with fail
   refine Calls.mono (HAt.out wr H4.out.1 t.tgt) ?_;rintro e w5 ⟨rfl,hb5⟩;have H5:Hid (Bl w w5/\w5.heap[w.heap.size]? = some (.cells (aF t) 46 (0,0))):=⟨H4.out.1.trans (hb5.mono H4.out.1.size),ae hb5 H4.out.2⟩;clear hb5 H4 c0 c10;have ho:=HL.out.2 t.tgt;generalize at7 N t.tgt=o at ho ⊢;generalize (N.at t.tgt).isSome=B1;obtain⟨w6,hst,hb6,hg6,-⟩:=bh w5 (aF o) rfl ho;have H6:Hid (Bl w w6/\w6.heap[w.heap.size]? = some (.cells (aF t) 46 (0,0))):=⟨H5.out.1.trans (hb6.mono H5.out.1.size),ae hb6 H5.out.2⟩;have c11:w6.cell? ⟨w.heap.size,11,none⟩=some (.int .i64 t.bi):=by rw [ag H6.out.2];rfl
   clear hb6 hg6 ho H5
   go_wp2_with fail
   refine Calls.mono (HAt.out w6 H6.out.1 t.bi) ?_;rintro e w7 ⟨rfl,hb7⟩;have H7:Hid (Bl w w7/\w7.heap[w.heap.size]? = some (.cells (aF t) 46 (0,0))):=⟨H6.out.1.trans (hb7.mono H6.out.1.size),ae hb7 H6.out.2⟩;clear hb7 H6 c11 hst HAt;have ho:=HL.out.2 t.bi;generalize at7 N t.bi=o2 at ho ⊢;generalize (N.at t.bi).isSome=B2;obtain⟨w8,hst,hb8,hg8,-⟩:=bh w7 (aF o2) rfl ho;have HB8:Hid (Bl w w8):=H7.out.1.trans (hb8.mono H7.out.1.size);clear hb8 hg8 ho H7
   go_wp2_with fail
   refine(tT _ _ (by simpa using b14) (by simpa using b15) (by simpa using b16)).mono ?_;rintro e _ ⟨rfl,rfl⟩
   go_wp2_with fail
   go_ret
   exact⟨rfl,HB8.out⟩
theorem rL {w:World} {q:Nat} {N:WM} {G:Nat->Prop} (hR:IsR w q N G) (hN:ROk N) (r k of:Int) (hno:∀ x ∈ N.things,x.1≠r/\(x.2.kind=k->x.2.tgt≠of)) :
 Calls Tryz.prog 180 #[P_ q,J r,J k,J of,.bool false] w fun e w'=>e=.returned (.bool false)/\Bl w w':=by
 obtain⟨sP,sC,sT,sM,hV⟩:=hR;obtain⟨n,hn⟩:∃ n,n=N.things.length:=⟨_,rfl⟩
 obtain⟨p0,c0,hsT⟩:∃ p c,sT=.slice p n c:=by
  obtain⟨h1,⟨rfl,h0⟩ | ⟨g,cap,cur,rfl,-⟩⟩:=hV.rt
  ·exact⟨none,0,by rw [hn,h0]⟩
  ·exact⟨_,_,by rw [hn]⟩
 subst hsT;have HV:Hid (RVw w q N G sP sC (.slice p0 n c0) sM):=hV;have HN:Hid (n=N.things.length/\n≤100000):=⟨hn,by have:=hN.len;omega⟩;have HNO:Hid (∀ x ∈ N.things,(x.1≠r/\(x.2.kind=k->x.2.tgt≠of))/\(aF x.2).all (·.oneCell')=true/\IntKind.i64.wrap x.2.kind=x.2.kind):=fun x hx=>⟨hno x hx,(hN.cell x hx).1,by have:=(hN.cell x hx).2;simp [IntKind.wrap,IntKind.signed,IntKind.bits];omega⟩;clear hV hn hN hno
 go_enter Tryz.func180,Tryz.ntmps180
 go_wp2_with fail
 go_loopw [11] (fun vi wr=>∃ i:Nat,vi=J i/\i≤n/\Hid (Bl w wr)) (fun vi _=>n - (intOf vi).toNat)
 case atStart=>exact⟨0,rfl,Nat.zero_le _,br⟩
 case round =>
  obtain⟨i,rfl,hi,HB⟩:=hrel;have HV1:Hid _:=HV.out.below HB.out;have d2:wr.cell? ⟨q,2,none⟩=some (.slice p0 n c0):=by rw [ag HV1.out.blk];rfl
  by_cases hin:i<n
  ·have hiz:(i:Int)<(n:Int):=by omega
   obtain⟨x,hx⟩:∃ x,N.things[i]? = some x:=⟨_,List.getElem?_eq_getElem (by have:=HN.out.1;omega)⟩;obtain⟨⟨hr,hkt⟩,hone,hwk⟩:=HNO.out x (List.mem_of_getElem? hx);obtain⟨g,c,hs,hg,hc⟩:=HV1.out.ent hx;have hp0:p0=some ⟨g,0,none⟩:=by injection hs
   subst hp0
   have hldw:=cB (w:=wr) (b:=g) (o:=i * 17+1) (t:=x.2) (fun k v hv=>by
    have:=hc (k+1) v (by rw [<- hv];show (_ :: (aF x.2).toList)[k+1]? = _;simp);rw [show i * 17+1+k=i * 17+(k+1) by omega]
    exact this)
   obtain⟨w6,hst,hb6,hg6,-⟩:=bh wr (aF x.2) rfl hone;have k0:w6.cell? ⟨g,i * 17,none⟩=some (.int .i64 x.1):=(hb6.cell (p:=⟨g,i * 17,none⟩) hg).trans (hc 0 _ rfl);have k1:w6.cell? ⟨wr.heap.size,0,none⟩=some (.int .u8 x.2.kind):=by rw [ag hg6];rfl
   have k2:w6.cell? ⟨wr.heap.size,10,none⟩=some (.int .i64 x.2.tgt):=by rw [ag hg6];rfl
   have d6:w6.cell? ⟨q,2,none⟩=some (.slice (some ⟨g,0,none⟩) n c0):=by rw [ag (ae hb6 HV1.out.blk)];rfl
   have HB6:Hid (Bl w w6):=HB.out.trans (hb6.mono HB.out.size);have hwi:wrap64 ((i:Int)+1)=(i:Int)+1:=by have:=HN.out.2;unfold wrap64;omega
   have hrb:(x.1==r)=false:=by simpa using hr
   have hr':¬ x.1=r:=hr;clear hs hc hx hb6 hg6 HB HV1 hone hr
   by_cases hk:x.2.kind=k
   ·have htb:(x.2.tgt==of)=false:=by simpa using hkt hk
    have hkb:(x.2.kind==k)=true:=by simpa using hk
    clear hkt hk
    go_wp2_with fail
    go_roundw
    case rel=>exact⟨i+1,by go_num,by omega,HB6.out⟩
    case measure=>rw [hwi];simp [intOf];omega
   ·have hkb:(x.2.kind==k)=false:=by simpa using hk
    clear hkt hk
    go_wp2_with fail
    go_roundw
    case rel=>exact⟨i+1,by go_num,by omega,HB6.out⟩
    case measure=>rw [hwi];simp [intOf];omega
  ·have hiz:¬ (i:Int)<(n:Int):=by omega
   obtain rfl:i=n:=by omega
   have hkk:¬ (i:Int)<(i:Int):=by omega
   go_wp2_with fail
   go_ret
   exact⟨rfl,HB.out⟩
theorem ru {w:World} {q:Nat} {N:WM} {G:Nat->Prop} (hR:IsR w q N G) (hN:ROk N) (t:Th) (r:Int) 
 (hk11:t.kind=11) {u:Th} (hof:N.at t.tgt=some u) (hu:u.kind=10/\u.home=t.home) (hno:∀ x ∈ N.things,x.1≠r/\(x.2.kind=11->x.2.tgt≠t.tgt)) (rs:List Int) (hrl:rs.length≤100000)
 (hrefs:∀ w',Bl w w'->Calls Tryz.prog 179 #[.agg (aF t)] w' fun e w''=>∃ u,e=.returned u/\bF w'' w'.heap.size u rs/\Bl w' w'')
 (hall:∀ x ∈ rs,(N.at x).isSome=true) :
 Calls Tryz.prog 82 #[P_ q,J r,.agg (aF t)] w fun e w'=>e=.returned (J 0)/\Bl w w':=by
 have hwk:IntKind.i64.wrap t.kind=t.kind:=by simp [IntKind.wrap,IntKind.signed,IntKind.bits];omega
 have b6:(t.kind==6)=false:=by rw [hk11];rfl
 have b7:(t.kind==7)=false:=by rw [hk11];rfl
 have b9:(t.kind==9)=false:=by rw [hk11];rfl
 have b11:(t.kind==11)=true:=by rw [hk11];rfl
 have b13:(t.kind==13)=false:=by rw [hk11];rfl
 have b14:(t.kind==14)=false:=by rw [hk11];rfl
 have b15:(t.kind==15)=false:=by rw [hk11];rfl
 have b16:(t.kind==16)=false:=by rw [hk11];rfl
 have HOt:Hid (∀ w',Bl w w'->Calls Tryz.prog 180 #[P_ q,J r,J 11,J t.tgt,.bool false] w' fun e w''=>e=.returned (.bool false)/\Bl w' w''):=fun w' hb=>rL (hR.below hb) hN r 11 t.tgt hno;have HU:Hid (at7 N t.tgt=u/\(N.at t.tgt).isSome=true/\u.kind=10/\u.home=t.home):=⟨by unfold at7;rw [hof];rfl,by rw [hof];rfl,hu.1,hu.2⟩;have HRf:Hid _:=hrefs
 have HKd:Hid (∀ w',Bl w w'->∀ x ∈ rs,Calls Tryz.prog 147 #[P_ q,J x] w' fun e w''=>∃ k,e=.returned (J k)/\(k==0)=false/\Bl w' w''):=fun w' hb x hx=>by
  refine(mD (hR.below hb) hN.len x hN.kd).mono ?_;rintro e w'' ⟨rfl,hb'⟩;refine⟨_,rfl,?_,hb'⟩;obtain⟨u,hu⟩:=Option.isSome_iff_exists.1 (hall x hx);have h1:=(hN.cell (x,u) (cK hu)).2.1;have:(at7 N x).kind≠0:=by unfold at7;rw [hu];simp only [Option.getD_some]at *;omega
  simpa using this
 have HAt:Hid (∀ w',Bl w w'->∀ x,Calls Tryz.prog 47 #[P_ q,J x] w' fun e w''=>e=.returned (.tuple #[.agg (aF (at7 N x)),.bool (N.at x).isSome])/\Bl w' w''):=fun w' hb x=>fH (hR.below hb) hN.len x fun y hy=>(hN.cell y hy).1;have HL:Hid (rs.length≤100000/\∀ x,(aF (at7 N x)).all (·.oneCell')=true):=⟨hrl,hN.one⟩;have H0:Hid (Bl w (w.alloc (.cells (aF t) 46))/\(w.alloc (.cells (aF t) 46)).heap[w.heap.size]? = some (.cells (aF t) 46 (0,0))):=⟨(Below.refl _ w).alloc aH _,ai _ _⟩;clear hR hN hrefs hall hrl hk11 hof hu hno
 go_enter Tryz.func82,Tryz.ntmps82
 go_upto_region 1 with fail
 revert H0;generalize w.alloc _=w0;intro H0;have l0:=aD H0.out.2 rfl
 go_wp2_with fail
 refine Calls.mono (HRf.out w0 H0.out.1) ?_;rintro e w1 ⟨u,rfl,hr1,hb1⟩;have H1:Hid (Bl w w1/\w1.heap[w.heap.size]? = some (.cells (aF t) 46 (0,0))/\bF w1 w0.heap.size u rs):=⟨H0.out.1.trans (hb1.mono H0.out.1.size),ae hb1 H0.out.2,hr1⟩;obtain⟨n,hn⟩:∃ n,n=rs.length:=⟨_,rfl⟩
 obtain⟨p,c,rfl⟩:∃ p c,u=.slice p n c:=by
  obtain⟨h1,⟨rfl,h0⟩ | ⟨g,cap,cur,rfl,-⟩⟩:=hr1
  ·exact⟨none,0,by rw [hn,h0]⟩
  ·exact⟨_,_,by rw [hn]⟩
 have HN:Hid (n=rs.length):=hn;clear hr1 hb1 H0 l0 HRf hn
 go_wp2_with fail
 go_loopw [8] (fun vi wr=>∃ i:Nat,vi=J i/\i≤n/\Hid (Bl w1 wr)) (fun vi _=>n - (intOf vi).toNat)
 case atStart=>exact⟨0,rfl,Nat.zero_le _,br⟩
 case round =>
  obtain⟨i,rfl,hi,HB⟩:=hrel;have HBw:Hid (Bl w wr):=H1.out.1.trans (HB.out.mono H1.out.1.size)
  by_cases hin:i<n
  ·have hiz:(i:Int)<(n:Int):=by omega
   have hi0:(0:Int)≤(i:Int):=by omega
   obtain⟨x,hx⟩:∃ x,rs[i]? = some x:=⟨_,List.getElem?_eq_getElem (by have:=HN.out;omega)⟩;have hrow:wr.ownsRow w0.heap.size 25 1 (.slice p n c) rs.length (rs.map (Value.int .i64)):=dj H1.out.2.2 HB.out;obtain⟨g,c',hs,hcx,-,-⟩:=bP hrow hx;have hp:p=some ⟨g,0,none⟩:=by injection hs
   subst hp;have HC:Hid _:=HKd.out wr HBw.out x (List.mem_of_getElem? hx);have hwi:wrap64 ((i:Int)+1)=(i:Int)+1:=by have:=HL.out.1;have:=HN.out;unfold wrap64;omega
   clear hrow hs hx
   go_wp2_with fail
   refine Calls.mono HC.out ?_;rintro e w3 ⟨k,rfl,hk0,hb3⟩;have HB3:Hid (Bl w1 w3):=HB.out.trans (hb3.mono HB.out.size);clear hb3 HB HBw HC hcx
   go_wp2_with fail
   go_roundw
   case rel=>exact⟨i+1,by go_num,by omega,HB3.out⟩
   case measure=>rw [hwi];simp [intOf];omega
  ·have hiz:¬ (i:Int)<(n:Int):=by omega
   obtain rfl:i=n:=by omega
   have hkk:¬ (i:Int)<(i:Int):=by omega
   have H4:Hid (Bl w wr/\wr.heap[w.heap.size]? = some (.cells (aF t) 46 (0,0))):=⟨HBw.out,ae HB.out H1.out.2.1⟩;clear HB HBw H1 HKd;have c0:wr.cell? ⟨w.heap.size,0,none⟩=some (.int .u8 t.kind):=by rw [ag H4.out.2];rfl
   have c10:wr.cell? ⟨w.heap.size,10,none⟩=some (.int .i64 t.tgt):=by rw [ag H4.out.2];rfl
   go_wp2_with fail
   refine Calls.mono (HAt.out wr H4.out.1 t.tgt) ?_;rintro e w5 ⟨rfl,hb5⟩;have H5:Hid (Bl w w5/\w5.heap[w.heap.size]? = some (.cells (aF t) 46 (0,0))):=⟨H4.out.1.trans (hb5.mono H4.out.1.size),ae hb5 H4.out.2⟩;clear hb5 H4 c0 c10;have ho:=HL.out.2 t.tgt;rw [HU.out.1]at ho ⊢;rw [HU.out.2.1];obtain⟨w6,hst,hb6,hg6,-⟩:=bh w5 (aF u) rfl ho;have H6:Hid (Bl w w6/\w6.heap[w.heap.size]? = some (.cells (aF t) 46 (0,0))/\w6.heap[w5.heap.size]? = some (.cells (aF u) 46 (0,0))):=⟨H5.out.1.trans (hb6.mono H5.out.1.size),ae hb6 H5.out.2,hg6⟩;have c11:w6.cell? ⟨w.heap.size,11,none⟩=some (.int .i64 t.bi):=by rw [ag H6.out.2.1];rfl
   clear hb6 hg6 ho H5
   go_wp2_with fail
   refine Calls.mono (HAt.out w6 H6.out.1 t.bi) ?_;rintro e w7 ⟨rfl,hb7⟩;have H7:Hid (Bl w w7/\w7.heap[w.heap.size]? = some (.cells (aF t) 46 (0,0))/\w7.heap[w5.heap.size]? = some (.cells (aF u) 46 (0,0))):=⟨H6.out.1.trans (hb7.mono H6.out.1.size),ae hb7 H6.out.2.1,ae hb7 H6.out.2.2⟩;clear hb7 H6 c11 hst HAt;have ho:=HL.out.2 t.bi;generalize at7 N t.bi=o2 at ho ⊢;generalize (N.at t.bi).isSome=B2;obtain⟨w8,hst,hb8,hg8,-⟩:=bh w7 (aF o2) rfl ho;have HB8:Hid (Bl w w8):=H7.out.1.trans (hb8.mono H7.out.1.size);have c10:w8.cell? ⟨w.heap.size,10,none⟩=some (.int .i64 t.tgt):=by rw [ag (ae hb8 H7.out.2.1)];rfl
   have c1:w8.cell? ⟨w.heap.size,1,none⟩=some (.int .i64 t.home):=by rw [ag (ae hb8 H7.out.2.1)];rfl
   have e0:w8.cell? ⟨w5.heap.size,0,none⟩=some (.int .u8 10):=by rw [ag (ae hb8 H7.out.2.2),← HU.out.2.2.1];rfl
   have e1:w8.cell? ⟨w5.heap.size,1,none⟩=some (.int .i64 t.home):=by rw [ag (ae hb8 H7.out.2.2),← HU.out.2.2.2];rfl
   clear hb8 hg8 ho H7
   go_wp2_with fail
   refine Calls.mono (HOt.out w8 HB8.out) ?_;rintro e w9 ⟨rfl,hb9⟩;have HB9:Hid (Bl w w9):=HB8.out.trans (hb9.mono HB8.out.size);clear hb9 HB8 HOt c10 c1 e0 e1 hst
   go_wp2_with fail
   go_ret
   exact⟨rfl,HB9.out⟩
end
end Go.Proofs.YthaliljaglldjaaGreat
