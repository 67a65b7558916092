/- Part of the proof. -/
import Derived.Test.YthaliljaglldjaaGreatmBM
namespace Go.Proofs.YthaliljaglldjaaGreat
set_option maxHeartbeats 16000000
set_option maxRecDepth 20000
open Go.RowKit Go.ChangeMaps Go.MapKept
section
theorem eE:∀ l,Op.bytesLess l l=false
 | []=>rfl
 | x :: l=>by
   have:=eE l;simp [Op.bytesLess,this]
end
section
def sG (v:Val):Prop:=∀ (raw1 raw2:Value) (w:World) (F1 F2:Nat->Prop),SlAt w F1 raw1 v.l->SlAt w F2 raw2 v.l ->
 Calls Tryz.prog 225 #[.agg (au v raw1),.agg (au v raw2)] w fun e w'=>e=.returned (J 0)/\Bl w w'
theorem gW:bX 73 27 72 bp:=fun _ _ _ _ _=>rfl
theorem gU:bX 78 27 77 bp:=fun _ _ _ _ _=>rfl
def zm (r0 b o c b2 o2 c2 i ln:Nat) (rc rl:Value) (j:Nat) (v:Value) (_:World):Prop :=
 match j with
 | 0=>v=R_ r0 3
 | 1=>v=.slice (some ⟨b,o,none⟩) ln c
 | 2=>v=J i
 | 3=>v=R_ b (o+i * 5)
 | 4=>v=rc
 | 5=>v=R_ (r0+1) 3
 | 6=>v=.slice (some ⟨b2,o2,none⟩) ln c2
 | 7=>v=J i
 | 8=>v=R_ b2 (o2+i * 5)
 | 9=>v=rl
 | _=>True
theorem kM (v:Val) (hr:∀ x ∈ v.l,sG x) (hl:v.l.length≤512):sG v:=by
 intro raw1 raw2 w F1 F2 hS1 hS2;obtain⟨k,nn,s,l,r⟩:=v;simp only at hr hl hS1 hS2;obtain⟨pa,c,rfl⟩:=hS1.form;obtain⟨pa2,c2,rfl⟩:=hS2.form;have hsl:=eE s.toList;have HS:Hid (∀ w',Bl w w'->SlAt w' F1 (.slice pa l.length c) l/\SlAt w' F2 (.slice pa2 l.length c2) l):=fun w' hb=>⟨hS1.on hb,hS2.on hb⟩;have HR:Hid (∀ x ∈ l,sG x):=hr;have HL:Hid (l.length≤512):=hl;clear hS1 hS2 hr hl;simp only [au]
 go_enter Tryz.func225,Tryz.ntmps225
 go_wp2_with fail
 have HB0:Hid (Bl w ((w.alloc (.cells (V_ k nn s (.slice pa l.length c) r) 27)).alloc (.cells (V_ k nn s (.slice pa2 l.length c2) r) 27)) /\
  ((w.alloc (.cells (V_ k nn s (.slice pa l.length c) r) 27)).alloc (.cells (V_ k nn s (.slice pa2 l.length c2) r) 27)).heap[w.heap.size]? = some (.cells (V_ k nn s (.slice pa l.length c) r) 27 (0,0)) /\
  ((w.alloc (.cells (V_ k nn s (.slice pa l.length c) r) 27)).alloc (.cells (V_ k nn s (.slice pa2 l.length c2) r) 27)).heap[w.heap.size+1]? = some (.cells (V_ k nn s (.slice pa2 l.length c2) r) 27 (0,0))) :=
  ⟨((Below.refl _ w).alloc aH _).alloc (by simp) _,aL w _ _,aK w _ _⟩
 go_loopw [5] (fun vi wr=>∃ i:Nat,vi=J i/\i≤l.length/\Hid (Bl w wr/\wr.heap[w.heap.size]? = some (.cells (V_ k nn s (.slice pa l.length c) r) 27 (0,0))/\wr.heap[w.heap.size+1]? = some (.cells (V_ k nn s (.slice pa2 l.length c2) r) 27 (0,0)))) (fun vi _=>l.length - (intOf vi).toNat)
 case atStart=>exact⟨0,rfl,Nat.zero_le _,HB0.out⟩
 case round =>
  obtain⟨i,rfl,hi,HI⟩:=hrel;have d3:wr.cell? ⟨w.heap.size,3,none⟩=some (.slice pa l.length c):=by rw [ag HI.out.2.1];rfl
  have d4:wr.cell? ⟨w.heap.size+1,3,none⟩=some (.slice pa2 l.length c2):=by rw [ag HI.out.2.2];rfl
  by_cases hjl:i<l.length
  ·have hjz:(i:Int)<(l.length:Int):=by omega
   obtain⟨x,hx⟩:∃ x,l[i]? = some x:=⟨_,List.getElem?_eq_getElem hjl⟩;obtain⟨b,o,cq,raw,hpe,hrg,hlt,-,hSx⟩:=(HS.out wr HI.out.1).1.range hx
   cases hpe
   obtain⟨b2,o2,cq2,raw2,hpe2,hrg2,hlt2,-,hSx2⟩:=(HS.out wr HI.out.1).2.range hx
   cases hpe2
   have Hx:Hid (SlAt wr F1 raw x.l/\SlAt wr F2 raw2 x.l/\sG x/\(∀ w',Bl wr w'->(bp (R_ b (o+i * 5))).run Tryz.prog w'=.ok (.value (.agg (au x raw))) w')/\(∀ w',Bl wr w'->(bp (R_ b2 (o2+i * 5))).run Tryz.prog w'=.ok (.value (.agg (au x raw2))) w')):=⟨hSx,hSx2,HR.out x (List.mem_of_getElem? hx),fun w' h=>mG hrg h hlt,fun w' h=>mG hrg2 h hlt2⟩;have hwk:wrap64 ((i:Int)+1)=(i:Int)+1:=by have:=HL.out;unfold wrap64;omega
   clear hx hrg hrg2 hSx hSx2 hlt hlt2
   go_upto_region 12 with fail
   clear d3 d4;refine aR 10 (by kernel_rfl) rfl (by kernel_rfl) (by kernel_rfl) (fun a b=>Bl a b) (zm w.heap.size b o c b2 o2 c2 i l.length (.agg (au x raw)) (.agg (au x raw2))) (fun w'=>Bl wr w') (fun j v w w' _ h=>h) below_drew (fun a b h hR=>h.trans (hR.mono h.size)) ?_ ?_ ?_
   ·exact fun _ _ _ _ h1 h2=>bC (by kernel_rfl) h1 h2
   ·intro j q a w7 hq hC hG;have hj:j<10:=ji hq
    match j,hj with
    | 0,_=>cases hq;have h2':a.tmps[2]?.getD undef=P_ w.heap.size:=gq (hG.fr 2 (by simp));unfold Oper.wp;simp [go_sem,Act.eval,h2'];exact⟨_,rfl,br,rfl⟩
    | 1,_ =>
      cases hq;have h69':=gq (i:=69) (gd hG 0 rfl);have c3:w7.cell? ⟨w.heap.size,3,none⟩=some (.slice (some ⟨b,o,none⟩) l.length c):=by rw [ag (ae hC HI.out.2.1)];rfl
      unfold Oper.wp;simp [go_sem,Act.eval,h69',c3];exact⟨_,rfl,br,rfl⟩
    | 2,_=>cases hq;have h5':a.tmps[5]?.getD undef=J i:=gq (hG.fr 5 (by simp));unfold Oper.wp;simp [go_sem,Act.eval,h5'];exact⟨_,rfl,br,rfl⟩
    | 3,_=>cases hq;have h70':=gq (i:=70) (gd hG 1 rfl);have h71':=gq (i:=71) (gd hG 2 rfl);unfold Oper.wp;simp [go_sem,Act.eval,h70',h71',hjz];exact⟨_,rfl,br,rfl⟩
    | 4,_ =>
      cases hq;have h72:a.tmps.getD 72 undef=R_ b (o+i * 5):=gd hG 3 rfl;refine aT (.agg (au x raw)) ?_ br rfl;rw [gW];show (bp (a.tmps.getD 72 undef)).run _ _=_;rw [h72];exact Hx.out.2.2.2.1 _ hC
    | 5,_=>cases hq;have h3':a.tmps[3]?.getD undef=P_ (w.heap.size+1):=gq (hG.fr 3 (by simp));unfold Oper.wp;simp [go_sem,Act.eval,h3'];exact⟨_,rfl,br,rfl⟩
    | 6,_ =>
      cases hq;have h74':=gq (i:=74) (gd hG 5 rfl);have c3:w7.cell? ⟨w.heap.size+1,3,none⟩=some (.slice (some ⟨b2,o2,none⟩) l.length c2):=by rw [ag (ae hC HI.out.2.2)];rfl
      unfold Oper.wp;simp [go_sem,Act.eval,h74',c3];exact⟨_,rfl,br,rfl⟩
    | 7,_=>cases hq;have h5':a.tmps[5]?.getD undef=J i:=gq (hG.fr 5 (by simp));unfold Oper.wp;simp [go_sem,Act.eval,h5'];exact⟨_,rfl,br,rfl⟩
    | 8,_=>cases hq;have h75':=gq (i:=75) (gd hG 6 rfl);have h76':=gq (i:=76) (gd hG 7 rfl);unfold Oper.wp;simp [go_sem,Act.eval,h75',h76',hjz];exact⟨_,rfl,br,rfl⟩
    | 9,_ =>
      cases hq;have h77:a.tmps.getD 77 undef=R_ b2 (o2+i * 5):=gd hG 8 rfl;refine aT (.agg (au x raw2)) ?_ br rfl;rw [gU];show (bp (a.tmps.getD 77 undef)).run _ _=_;rw [h77];exact Hx.out.2.2.2.2 _ hC
   intro a w7 hC hdf hsz hfr hphi;have e0:a.tmps.getD 69 undef=_:=hphi 0 _ rfl;have e1:a.tmps.getD 70 undef=_:=hphi 1 _ rfl;have e2:a.tmps.getD 71 undef=J i:=hphi 2 _ rfl;have e3:a.tmps.getD 72 undef=_:=hphi 3 _ rfl;have e4:a.tmps.getD 73 undef=_:=hphi 4 _ rfl;have e5:a.tmps.getD 74 undef=_:=hphi 5 _ rfl;have e6:a.tmps.getD 75 undef=_:=hphi 6 _ rfl;have e7:a.tmps.getD 76 undef=J i:=hphi 7 _ rfl;have e8:a.tmps.getD 77 undef=_:=hphi 8 _ rfl;have e9:a.tmps.getD 78 undef=_:=hphi 9 _ rfl;have ha:=bq hdf hsz hfr;simp only [List.take_succ_cons,List.take_zero,List.filterMap_cons,List.filterMap_nil,List.foldl_cons,List.foldl_nil,List.setIfInBounds_toArray,List.set_cons_zero,List.set_cons_succ,e0,e1,e2,e3,e4,e5,e6,e7,e8,e9]at ha;clear hdf hsz hfr hphi e0 e1 e2 e3 e4 e5 e6 e7 e8 e9;subst ha;refine⟨rfl,?_⟩;unfold Oper.wp;simp [go_sem,callFunc,Act.eval,Tryz.func225];refine(Hx.out.2.2.1 _ _ _ _ _ (Hx.out.1.on hC) (Hx.out.2.1.on hC)).mono ?_;rintro e w8 ⟨rfl,hb8⟩;have hC8:Bl wr w8:=hC.trans (hb8.mono hC.size);have HI8:Hid (Bl w w8/\_/\_):=⟨HI.out.1.trans (hC8.mono HI.out.1.size),ae hC8 HI.out.2.1,ae hC8 HI.out.2.2⟩;clear hC8 hC hb8 HI Hx;refine⟨rfl,?_⟩;unfold Oper.wp;simp [execOp,go_sem,Act.eval,aV];refine ‹∀ (a:Act) (w:World),Code.wp Tryz.prog _ _ a w->_› _ _ ?_
   go_wp2_with fail
   go_roundw
   case rel=>exact⟨i+1,by go_num,by omega,HI8.out⟩
   case measure=>rw [hwk];exact uE hjl
  ·have hjz:¬ (i:Int)<(l.length:Int):=by omega
   obtain rfl:i=l.length:=by omega
   have HB:Hid (Bl w wr):=HI.out.1;have hkk:¬ (l.length:Int)<(l.length:Int):=by omega
   clear HI
   go_wp2_with fail
   go_ret
   exact⟨rfl,HB.out⟩
theorem nQ:∀ (n:Nat) (v:Val),bY n v->sG v
 | 0,v,h=>kM v (fun x hx=>by rw [show v.l = []from h]at hx;cases hx) (by rw [show v.l = []from h];simp)
 | n+1,v,h=>kM v (fun x hx=>nQ n x (h.2 x hx)) h.1
theorem ub {w:World} {F1 F2:Nat->Prop} (v:Val) (raw1 raw2:Value) (hS1:SlAt w F1 raw1 v.l) (hS2:SlAt w F2 raw2 v.l) (hm:ay v=true):Calls Tryz.prog 157 #[.agg (au v raw1),.agg (au v raw2)] w fun e w'=>e=.returned (.tuple #[J 0,J 0])/\Bl w w':=by
 obtain⟨pa,c,rfl⟩:=hS1.form;obtain⟨pa2,c2,rfl⟩:=hS2.form
 have HM:Hid (∀ w',Bl w w'->Calls Tryz.prog 182 #[.agg (au v (.slice pa v.l.length c))] w' (fun e w''=>e=.returned (.bool true)/\Bl w' w'')/\Calls Tryz.prog 182 #[.agg (au v (.slice pa2 v.l.length c2))] w' (fun e w''=>e=.returned (.bool true)/\Bl w' w'') /\
  Calls Tryz.prog 225 #[.agg (au v (.slice pa v.l.length c)),.agg (au v (.slice pa2 v.l.length c2))] w' (fun e w''=>e=.returned (J 0)/\Bl w' w'')):=fun w' hb =>
  ⟨py (hS1.on hb) hm,py (hS2.on hb) hm,nQ 16 v (bA hm) _ _ w' _ _ (hS1.on hb) (hS2.on hb)⟩
 clear hS1 hS2 hm;obtain⟨k,n,s,l,r⟩:=v;simp only [au]at HM ⊢;generalize l.length=m at *
 go_enter Tryz.func157,Tryz.ntmps157
 go_wp2_with fail
 have HB0:Hid (Bl w ((w.alloc (.cells (V_ k n s (.slice pa m c) r) 27)).alloc (.cells (V_ k n s (.slice pa2 m c2) r) 27))):=((Below.refl _ w).alloc aH _).alloc (by simp) _;refine Calls.mono (HM.out _ HB0.out).1 ?_;rintro e w1 ⟨rfl,hb1⟩;have HB1:Hid (Bl w w1):=HB0.out.trans (hb1.mono HB0.out.size);obtain⟨⟨a0,a1,a2,a3,a4⟩,-⟩:=ax (ae hb1 (aL w _ _));obtain⟨⟨b0,b1,b2,b3,b4⟩,-⟩:=ax (ae hb1 (aK w _ _));have HA:Hid _:=ae hb1 (aL w _ _);have HC:Hid _:=ae hb1 (aK w _ _);clear hb1 HB0
 go_wp2_with fail
 refine Calls.mono (HM.out _ HB1.out).2.1 ?_;rintro e w2 ⟨rfl,hb2⟩;have HB2:Hid (Bl w w2):=HB1.out.trans (hb2.mono HB1.out.size);have hA2:=ae hb2 HA.out;have hC2:=ae hb2 HC.out;clear a0 a1 a2 a3 a4 b0 b1 b2 b3 b4;obtain⟨⟨a0,a1,a2,a3,a4⟩,-⟩:=ax hA2;obtain⟨⟨b0,b1,b2,b3,b4⟩,-⟩:=ax hC2;clear hb2 hA2 hC2 HA HC HB1
 go_wp2_with fail
 refine Calls.mono (HM.out _ HB2.out).2.2 ?_;rintro e w3 ⟨rfl,hb3⟩;have HB3:Hid (Bl w w3):=HB2.out.trans (hb3.mono HB2.out.size);clear hb3 a0 a1 a2 a3 a4 b0 b1 b2 b3 b4
 go_wp2_with fail
 go_ret2
 exact⟨rfl,HB3.out⟩
theorem uS {w:World} {F1 F2:Nat->Prop} (v:Val) (raw1 raw2:Value) (hS1:SlAt w F1 raw1 v.l) (hS2:SlAt w F2 raw2 v.l) (hm:ay v=true):Calls Tryz.prog 68 #[.agg (au v raw1),.agg (au v raw2)] w fun e w'=>e=.returned (.bool true)/\Bl w w':=by
 have HM:Hid (∀ w',Bl w w'->Calls Tryz.prog 157 #[.agg (au v raw1),.agg (au v raw2)] w' (fun e w''=>e=.returned (.tuple #[J 0,J 0])/\Bl w' w'')):=fun w' hb=>ub v raw1 raw2 (hS1.on hb) (hS2.on hb) hm;obtain⟨pa,c,rfl⟩:=hS1.form;obtain⟨pa2,c2,rfl⟩:=hS2.form;clear hS1 hS2 hm;obtain⟨k,n,s,l,r⟩:=v;simp only [au]at HM ⊢;generalize l.length=m at *
 go_enter Tryz.func68,Tryz.ntmps68
 go_wp2_with fail
 have HB0:Hid (Bl w ((w.alloc (.cells (V_ k n s (.slice pa m c) r) 27)).alloc (.cells (V_ k n s (.slice pa2 m c2) r) 27))):=((Below.refl _ w).alloc aH _).alloc (by simp) _;refine Calls.mono (HM.out _ HB0.out) ?_;rintro e w1 ⟨rfl,hb1⟩;have HB1:Hid (Bl w w1):=HB0.out.trans (hb1.mono HB0.out.size);clear hb1 HB0
 go_wp2_with fail
 go_ret
 exact⟨rfl,HB1.out⟩
end
section
theorem SlT.sp:∀ {n:Nat} {w:World} {F:Nat->Prop} {s:Value} {v:Val},SlT w F s v.l->bY n v->Sp w F (n+1) s:=by
 intro n
 induction n with
 | zero =>
   intro w F s v h hd;have hl:v.l = []:=hd;rw [hl]at h;obtain⟨pa,c,rfl⟩:=h.form;exact Sp.nil _ _ _ _ _
 | succ n ih =>
   intro w F s v h hd;obtain⟨hl,hx⟩:=hd;generalize v.l=l at h hl hx
   cases h with
   | zero pa c h0=>exact Sp.nil _ _ _ _ _
   | mk b c cs l raw hcp hF hb h hr =>
     refine .mk (n+1) _ _ c raw (by omega) (fun i hi=>?_) (fun i hi=>?_)
     ·obtain⟨y,hy⟩:∃ y,l[i]? = some y:=⟨_,List.getElem?_eq_getElem hi⟩;obtain⟨h0,h1,h2,h3,h4⟩:=h i y hy;have e:i * 5=5 * i:=Nat.mul_comm _ _;rw [e];have hc:∀ j,w.cell? ⟨b,5 * i+j,none⟩=cs[5 * i+j]?:=fun j=>ag hb _;refine⟨b,y.kind,y.n,y.s,y.r,rfl,hF,fun j u hj=>?_,fun j hj=>⟨?_,av hb _⟩⟩
      ·rw [hc]
       match j,hj with
       | 0,hj=>cases hj;exact h0
       | 1,hj=>cases hj;exact h1
       | 2,hj=>cases hj;exact h2
       | 3,hj=>cases hj;exact h3
       | 4,hj=>cases hj;exact h4
       | j+5,hj=>simp at hj
      ·rw [hc]
       match j,hj with
       | 0,_=>rw [show 5 * i+0=5 * i from rfl,h0];rfl
       | 1,_=>rw [h1];rfl
       | 2,_=>rw [h2];rfl
       | 3,_=>rw [h3];rfl
       | 4,_=>rw [h4];rfl
       | j+5,hj=>omega
     ·obtain⟨y,hy⟩:∃ y,l[i]? = some y:=⟨_,List.getElem?_eq_getElem hi⟩;exact ih (hr i y hy) (hx y (List.mem_of_getElem? hy))
theorem uA (n:Int):ay (cj n)=true:=(aZ 1 n (.inr rfl)).2
theorem uy:ay nilV=true:=(aZ 0 0 (.inl ⟨rfl,rfl⟩)).2
theorem qw:nilV.wf:=cG
theorem qS {n:Int} (h:(Lit.int .i64 n).wf=true):(cj n).wf:=.mk _ _ _ _ _ ⟨by decide,by decide⟩ (by simp [maxLen]) (fun x hx=>by cases hx) ⟨h,rfl⟩
theorem dV (k:Nat):ay (aJ (([]:List Val).take k))=true:=by rw [List.take_nil];exact co
theorem uW {M:WM} (hP:PlM M) (r a:Int) (v:Val):ay (dw M r a v).1=true:=by
 have h0:=uy;unfold dw
 by_cases h1:cS a=false
 ·rw [if_pos h1];exact h0
 rw [if_neg h1]
 by_cases h2:ay v=false
 ·rw [if_pos h2];exact h0
 rw [if_neg h2]
 cases ht:M.at r with
 | none=>exact h0
 | some t =>
   show ay (if knownB M v=false then _ else _:Val × Int × Option (Int × Th)).1=true
   by_cases h3:knownB M v=false
   ·rw [if_pos h3];exact h0
   rw [if_neg h3];have hp:=hP r t ht;unfold bG
   by_cases g1:bD t.kind=false
   ·rw [if_pos g1];exact h0
   rw [if_neg g1]
   by_cases g2:cW t.kind a=false
   ·rw [if_pos g2];exact h0
   rw [if_neg g2]
   by_cases g3:a=1
   ·rw [if_pos g3];show ay (dI t v).1=true;unfold dI
    by_cases e1:v.kind≠0
    ·rw [if_pos e1];exact h0
    rw [if_neg e1]
    by_cases e2:t.kind=2
    ·rw [if_pos e2]
     cases hp with
     | list k x vs vals _ _ h2 _=>exact h2
     | cell x v raw _ _ _ _=>exact co
     | tally x n _ _=>exact co
     | prom x v raw fu _ _ _ _ _=>exact co
     | keep x tg _ _ _=>exact co
     | mint x=>exact co
    rw [if_neg e2]
    by_cases e3:t.kind=3
    ·rw [if_pos e3];exact uA _
    rw [if_neg e3]
    by_cases e4:t.kind=10/\t.full=false
    ·rw [if_pos e4];exact h0
    rw [if_neg e4];exact hp.fair.1.1
   rw [if_neg g3]
   by_cases g4:a=2
   ·rw [if_pos g4];exact h0
   rw [if_neg g4]
   by_cases g5:a=4
   ·rw [if_pos g5];unfold bK
    by_cases e1:v.kind≠1\/v.n<0
    ·rw [if_pos e1];exact h0
    rw [if_neg e1]
    by_cases e2:(t.vs.length:Int)<v.n
    ·rw [if_pos e2];exact h0
    rw [if_neg e2]
    cases hp with
    | list k x vs vals _ _ h2 _=>exact ga h2 _
    | cell x v raw _ _ _ _=>exact dV _
    | tally x n _ _=>exact dV _
    | prom x v raw fu _ _ _ _ _=>exact dV _
    | keep x tg _ _ _=>exact dV _
    | mint x=>exact dV _
   rw [if_neg g5]
   by_cases g6:t.kind=3
   ·rw [if_pos g6];exact h0
   rw [if_neg g6]
   by_cases g7:t.kind=11
   ·rw [if_pos g7];exact h0
   rw [if_neg g7];exact h0
theorem AL {M:WM} (r:Int) {a:Int} (ha:a=2\/a=8) (v:Val):(dw M r a v).1=nilV:=by
 unfold dw
 by_cases h1:cS a=false
 ·rw [if_pos h1]
 rw [if_neg h1]
 by_cases h2:ay v=false
 ·rw [if_pos h2]
 rw [if_neg h2]
 cases ht:M.at r with
 | none=>rfl
 | some t =>
   show (if knownB M v=false then _ else _:Val × Int × Option (Int × Th)).1=nilV
   by_cases h3:knownB M v=false
   ·rw [if_pos h3]
   rw [if_neg h3];unfold bG
   by_cases g1:bD t.kind=false
   ·rw [if_pos g1]
   rw [if_neg g1]
   by_cases g2:cW t.kind a=false
   ·rw [if_pos g2]
   rw [if_neg g2,if_neg (by omega)]
   by_cases g4:a=2
   ·rw [if_pos g4]
   rw [if_neg g4,if_neg (by omega)]
   by_cases g6:t.kind=3
   ·rw [if_pos g6]
   rw [if_neg g6]
   by_cases g7:t.kind=11
   ·rw [if_pos g7]
   rw [if_neg g7]
structure AcW (n n7 n9 n11:Nat) (d k h on ab:Int) (v vx vb:Val) (raw raw' rawx rawb:Value) (F1 FX:Nat->Prop) (w:World):Prop where
 lt:n<n7/\n7<n9/\n9<n11
 b5:w.heap[n]? = some (.cells (aU d k h on ab v raw) 49 (0,0))
 b7:w.heap[n7]? = some (.cells (au v raw') 27 (0,0))
 b9:w.heap[n9]? = some (.cells (au vx rawx) 27 (0,0))
 b11:w.heap[n11]? = some (.cells (au vb rawb) 27 (0,0))
 sl:SlAt w (fun b=>n+1≤b/\b<n7) raw' v.l
 sp:Sp w (fun b=>n+1≤b/\b<n7) 42 raw'
 sv:SlAt w F1 raw v.l
 sb:SlAt w F1 rawb vb.l
 sx:SlT w FX rawx vx.l
 f1:∀ b,F1 b->b<n
 fx:∀ b,FX b->n11<b
section
variable {n n7 n9 n11:Nat} {d k h on ab:Int} {v vx vb:Val} {raw raw' rawx rawb:Value} {F1 FX:Nat->Prop} {w w':World}
theorem AcW.keeps {S:Nat->Prop} (m:AcW n n7 n9 n11 d k h on ab v vx vb raw raw' rawx rawb F1 FX w) (hk:Keeps S w w') (h1:∀ b,S b->b<n\/n11<b) (h2:∀ b,S b->¬ F1 b) (h3:∀ b,S b->¬ FX b):AcW n n7 n9 n11 d k h on ab v vx vb raw raw' rawx rawb F1 FX w' where
 lt:=m.lt
 b5:=hk.none m.b5 (fun e=>by have:=h1 _ e;have:=m.lt;omega)
 b7:=hk.none m.b7 (fun e=>by have:=h1 _ e;have:=m.lt;omega)
 b9:=hk.none m.b9 (fun e=>by have:=h1 _ e;have:=m.lt;omega)
 b11:=hk.none m.b11 (fun e=>by have:=h1 _ e;have:=m.lt;omega)
 sl:=m.sl.keeps hk fun b hb hF=>by have:=h1 b hb;have:=m.lt;omega
 sp:=m.sp.keeps hk fun b hb hF=>by have:=h1 b hb;have:=m.lt;omega
 sv:=m.sv.keeps hk fun b hb hF=>h2 b hb hF
 sb:=m.sb.keeps hk fun b hb hF=>h2 b hb hF
 sx:=m.sx.keeps hk fun b hb hF=>h3 b hb hF
 f1:=m.f1
 fx:=m.fx
theorem AcW.below (m:AcW n n7 n9 n11 d k h on ab v vx vb raw raw' rawx rawb F1 FX w) (hb:Bl w w'):AcW n n7 n9 n11 d k h on ab v vx vb raw raw' rawx rawb F1 FX w' :=
 m.keeps (S:=fun _=>False) (Keeps.of_below hb) (fun _ h=>h.elim) (fun _ h=>h.elim) (fun _ h=>h.elim)
theorem AcW.put (m:AcW n n7 n9 n11 d k h on ab v vx vb raw raw' rawx rawb F1 FX w) {x:Val} {rx:Value} {FY:Nat->Prop} (hx:SlT w FY rx x.l) (hf:∀ b,FY b->n11<b):AcW n n7 n9 n11 d k h on ab v x vb raw raw' rx rawb F1 FY (w.setRow n9 (au x rx)) where
 lt:=m.lt
 b5:=(aQ w n9 (au x rx)).none m.b5 (fun e=>by have e':n=n9:=e;have:=m.lt;omega)
 b7:=(aQ w n9 (au x rx)).none m.b7 (fun e=>by have e':n7=n9:=e;have:=m.lt;omega)
 b9:=ah m.b9
 b11:=(aQ w n9 (au x rx)).none m.b11 (fun e=>by have e':n11=n9:=e;have:=m.lt;omega)
 sl:=m.sl.keeps (aQ w n9 (au x rx)) fun b hb hF=>by have e':b=n9:=hb;have:=m.lt;omega
 sp:=m.sp.keeps (aQ w n9 (au x rx)) fun b hb hF=>by have e':b=n9:=hb;have:=m.lt;omega
 sv:=m.sv.keeps (aQ w n9 (au x rx)) fun b hb hF=>by have e':b=n9:=hb;have:=m.lt;have:=m.f1 b hF;omega
 sb:=m.sb.keeps (aQ w n9 (au x rx)) fun b hb hF=>by have e':b=n9:=hb;have:=m.lt;have:=m.f1 b hF;omega
 sx:=hx.keeps (aQ w n9 (au x rx)) fun b hb hF=>by have e':b=n9:=hb;have:=m.lt;have:=hf b hF;omega
 f1:=m.f1
 fx:=hf
theorem AcW.by (m:AcW n n7 n9 n11 d k h on ab v vx vb raw raw' rawx rawb F1 FX w) {x:Val} {rx:Value} (hx:SlAt w F1 rx x.l):AcW n n7 n9 n11 d k h on ab v vx x raw raw' rawx rx F1 FX (w.setRow n11 (au x rx)) where
 lt:=m.lt
 b5:=(aQ w n11 (au x rx)).none m.b5 (fun e=>by have e':n=n11:=e;have:=m.lt;omega)
 b7:=(aQ w n11 (au x rx)).none m.b7 (fun e=>by have e':n7=n11:=e;have:=m.lt;omega)
 b9:=(aQ w n11 (au x rx)).none m.b9 (fun e=>by have e':n9=n11:=e;have:=m.lt;omega)
 b11:=ah m.b11
 sl:=m.sl.keeps (aQ w n11 (au x rx)) fun b hb hF=>by have e':b=n11:=hb;have:=m.lt;omega
 sp:=m.sp.keeps (aQ w n11 (au x rx)) fun b hb hF=>by have e':b=n11:=hb;have:=m.lt;omega
 sv:=m.sv.keeps (aQ w n11 (au x rx)) fun b hb hF=>by have e':b=n11:=hb;have:=m.lt;have:=m.f1 b hF;omega
 sb:=hx.keeps (aQ w n11 (au x rx)) fun b hb hF=>by have e':b=n11:=hb;have:=m.lt;have:=m.f1 b hF;omega
 sx:=m.sx.keeps (aQ w n11 (au x rx)) fun b hb hF=>by have e':b=n11:=hb;have:=m.lt;have:=m.fx b hF;omega
 f1:=m.f1
 fx:=m.fx
end
def AcT (w4:World) (p:Nat) (n n7 n9 n11:Nat) (d k h on ab:Int) (v vq vb:Val) (raw raw':Value) (F1 F:Nat->Prop) (M:WM) (c:Int) (wx:World):Prop :=
 ∃ rawx rawb M' F',c=(dw M on ab vq).2.1/\AcW n n7 n9 n11 d k h on ab v (dw M on ab vq).1 vb raw raw' rawx rawb F1 (fun b=>w4.heap.size≤b/\¬ F' b) wx /\
   IsW wx p M' F'/\vt M (dw M on ab vq).2.2 M'/\Keeps (fun b=>F b\/b=n9\/b=n11) w4 wx/\(∀ b,F' b->F b\/w4.heap.size≤b)
section
variable {w4 w5:World} {p n n7 n9 n11:Nat} {d k h on ab:Int} {v vx vq vb:Val} {raw raw' rawx rawb:Value} {F1 FX F:Nat->Prop} {M:WM}
theorem AcT.act (m:AcW n n7 n9 n11 d k h on ab v vx vb raw raw' rawx rawb F1 FX w4) (hFX:∀ b,FX b->False) (hF:∀ b,F b->b<n/\¬ F1 b) {x:Val} {rx:Value} {c:Int} {M':WM} {F':Nat->Prop} (hX:DoX M (dw M on ab vq) x c M') (hk:Keeps F w4 w5) (hW:IsW w5 p M' F') (hF':∀ y,F' y->F y\/w4.heap.size≤y) (hS:SlT w5 (fun y=>w4.heap.size≤y/\¬ F' y) rx x.l) :
 AcT w4 p n n7 n9 n11 d k h on ab v vq vb raw raw' F1 F M c (w5.setRow n9 (au x rx)):=by
 obtain⟨e1,e2,e3⟩:=hX;have h11:=aw m.b11;have hlt:=m.lt;have m5:=m.keeps hk (fun b hb=>.inl (hF b hb).1) (fun b hb=>(hF b hb).2) (fun b _ hb=>hFX b hb);have m6:=m5.put hS (fun b hb=>by have h':w4.heap.size≤b:=hb.1;omega);subst e1;refine⟨rx,rawb,M',F',e2,m6,hW.keeps (aQ w5 n9 _) fun b hb e=>?_,e3,?_,hF'⟩
 ·have e':b=n9:=e
  rcases hF' b hb with h | h
  ·have:=(hF b h).1;omega
  ·omega
 ·exact hk.trans (aQ w5 n9 _) (fun _ _ h=>.inl h) (fun b _ h=>.inr (.inl h))
theorem AcT.err (m:AcW n n7 n9 n11 d k h on ab v nilV vb raw raw' rawx rawb F1 FX w4) (hFX:∀ b,FX b->False) (hF:∀ b,F b->b<n/\¬ F1 b) (ha:ab=2\/ab=8) {x:Val} {c:Int} {M':WM} (hX:DoX M (dw M on ab vq) x c M') (hA:Acts w4 p F M' w5) :
 AcT w4 p n n7 n9 n11 d k h on ab v vq vb raw raw' F1 F M c w5:=by
 obtain⟨e1,e2,e3⟩:=hX;obtain⟨hk,F',hW,hF'⟩:=hA;have m5:=m.keeps hk (fun b hb=>.inl (hF b hb).1) (fun b hb=>(hF b hb).2) (fun b _ hb=>hFX b hb);have en:(dw M on ab vq).1=nilV:=AL on ha vq;refine⟨rawx,rawb,M',F',e2,?_,hW,e3,hk.mono fun b _ h=>.inl h,hF'⟩;rw [en]
 exact { m5 with
  sx:=m5.sx.mono fun b hb=>(hFX b hb).elim
  fx:=fun b hb=>by have:=aw m.b11;have h':w4.heap.size≤b:=hb.1;omega }
theorem AcT.by {c:Int} (t:AcT w4 p n n7 n9 n11 d k h on ab v vq vb raw raw' F1 F M c w5) (m4:n11<w4.heap.size) (hF:∀ b,F b->b<n) {x:Val} (hx:SlAt w5 F1 (S_) x.l):AcT w4 p n n7 n9 n11 d k h on ab v vq x raw raw' F1 F M c (w5.setRow n11 (au x (S_))):=by
 obtain⟨rawx,rawb,M',F',h1,h2,h3,h4,h5,h6⟩:=t;refine⟨rawx,_,M',F',h1,h2.by hx,h3.keeps (aQ w5 n11 _) fun b hb e=>?_,h4,h5.trans (aQ w5 n11 _) (fun _ _ h=>h) (fun b _ h=>.inr (.inr h)),h6⟩;have e':b=n11:=e;have:=h2.lt
 rcases h6 b hb with h | h
 ·have:=hF b h;omega
 ·omega
end
theorem AcT.below {w4 wx w':World} {p n n7 n9 n11:Nat} {d k h on ab:Int} {v vq vb:Val} {raw raw':Value} {F1 F:Nat->Prop} {M:WM} {c:Int} (t:AcT w4 p n n7 n9 n11 d k h on ab v vq vb raw raw' F1 F M c wx) (hb:Bl wx w'):AcT w4 p n n7 n9 n11 d k h on ab v vq vb raw raw' F1 F M c w':=by
 obtain⟨rawx,rawb,M',F',h1,h2,h3,h4,h5,h6⟩:=t;exact⟨rawx,rawb,M',F',h1,h2.below hb,h3.below hb,h4,h5.then_below hb,h6⟩
theorem LikeT.keys {l l':List (Int × Th)} (h:LikeT l l'):l'.map (·.1)=l.map (·.1):=by
 refine List.ext_getElem? fun i=>?_;rw [List.getElem?_map,List.getElem?_map]
 by_cases hi:i<l.length
 ·obtain⟨vl,vals,e⟩:=h.2 i _ (List.getElem?_eq_getElem hi);rw [e,List.getElem?_eq_getElem hi];rfl
 ·rw [List.getElem?_eq_none (by have:=h.1;omega),List.getElem?_eq_none (by omega)]
theorem Alike.keys {M N:WM} (h:Alike M N) (hM:M.ok):N.things.Pairwise fun a b=>a.1<b.1:=by
 have h1:=List.pairwise_map.2 hM.keys;rw [<- h.things.keys]at h1;exact List.pairwise_map.1 h1
def mz (w:World) (p q:Nat) (M:WM) (F G:Nat->Prop) (e:Ending) (w':World):Prop :=
 e=.returned (.bool true)/\∃ M' N' F' G',Bp w' p q M' N' F' G'/\Keeps (fun b=>F b\/G b) w w'/\(∀ b,F' b\/G' b->(F b\/G b)\/w.heap.size≤b)/\M'.last=M.last/\M'.made.length=M.made.length/\M'.parents=M.parents
theorem oK {w4 wx w6:World} {p q n n9 n11:Nat} {on ab:Int} {vb:Val} {F F' G:Nat->Prop} {M M' N:WM} (hB:Bp w4 p q M N F G) (hF:∀ b,F b\/G b->b<n) (m4:n11<w4.heap.size) (hlt:n<n9) (h911:n9<n11)
 (hW:IsW wx p M' F') (hs:vt M (dw M on ab vb).2.2 M') (hk:Keeps (fun b=>F b\/b=n9\/b=n11) w4 wx) (hF':∀ b,F' b->F b\/w4.heap.size≤b) {e:Ending} (h8:Do8Q wx q N G (dw N on ab vb).1 (dw N on ab vb).2.1 (dw N on ab vb).2.2 e w6) :
 ∃ N' G',Bp w6 p q M' N' F' G'/\M'.last=M.last/\M'.made.length=M.made.length/\M'.parents=M.parents/\Keeps (fun b=>F b\/G b\/b=n9\/b=n11) w4 w6/\(∀ b,F' b\/G' b->(F b\/G b)\/w4.heap.size≤b)/\(∀ b,G' b->G b\/wx.heap.size≤b):=by
 obtain⟨raw2,N',G',-,-,hR,hk8,hG',hs8⟩:=h8;have hgw:∀ b,G b->b<wx.heap.size:=fun b hb=>by have:=hF b (.inr hb);have:=hk.size;omega
 have hFG:∀ b,F' b->¬ G b:=fun b h1 h2=>(hF' b h1).elim (fun h=>hB.both.ap b h h2) fun h=>by have:=hF b (.inr h2);omega
 have hW6:=hW.keeps hk8 hFG;have hap:∀ b,F' b->¬ G' b:=fun b h1 h2=>(hG' b h2).elim (hFG b h1) fun h=>by have:=hW.lt b h1;omega
 have hkk:Keeps (fun b=>F b\/G b\/b=n9\/b=n11) w4 w6:=hk.trans hk8 (fun _ _ h=>h.elim .inl fun h=>.inr (.inr h)) (fun _ _ h=>.inr (.inl h));have hgg:∀ b,F' b\/G' b->(F b\/G b)\/w4.heap.size≤b:=fun b h=>h.elim (fun h=>(hF' b h).imp .inl id) fun h=>(hG' b h).imp .inr fun h=>Nat.le_trans hk.size h;have hl:=mL hB.both.al on ab vb;obtain⟨-,-,hy⟩:=hl;generalize (dw M on ab vb).2.2=y at hs hy;generalize (dw N on ab vb).2.2=y' at hs8 hy;have hRk:IsR w6 q N' G':=hR
 cases y with
 | none =>
   cases y' with
   | none =>
     have e1:M'=M:=hs;have e2:N'=N:=hs8;subst e1 e2;exact⟨_,G',hB.of hW6 hR hap hB.both.al hB.pl hB.rn rfl rfl rfl,rfl,rfl,rfl,hkk,hgg,hG'⟩
   | some a=>exact hy.elim
 | some a =>
   cases y' with
   | none=>exact hy.elim
   | some b =>
     obtain⟨r,t⟩:=a;obtain⟨r',t'⟩:=b;obtain⟨e1,hl⟩:=hy;have e1:r=r':=e1;subst e1;obtain⟨t1,rfl,l1,p1,u,hu,hk1⟩:=hs;obtain⟨vl,vals,rfl,n1,n2⟩:=hs8;exact⟨_,G',hB.set hW6 hR hap (l1.symm.trans (hl.trans ⟨vl,vals,rfl⟩)) hu hk1 p1 ⟨n1,n2⟩,rfl,rfl,rfl,hkk,hgg,hG'⟩
end
end Go.Proofs.YthaliljaglldjaaGreat
