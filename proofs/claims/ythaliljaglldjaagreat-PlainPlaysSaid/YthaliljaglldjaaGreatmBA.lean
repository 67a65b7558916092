/- Part of the proof. -/
import Derived.Test.YthaliljaglldjaaGreatmAZ
namespace Go.Proofs.YthaliljaglldjaaGreat
set_option maxHeartbeats 16000000
set_option maxRecDepth 20000
open Go.RowKit Go.ChangeMaps Go.MapKept
section
variable {w:World} {p:Nat} {M:WM} {F:Nat->Prop}
abbrev dX (h:Int) (v:Val) (raw:Value) (fu:Bool):Th:=⟨10,h,v,raw,[],S_,0,0,0,0,0,fu,S_,S_⟩
theorem fO:ff 27 6 17 bZ:=fun _ _ _ _ _=>rfl
theorem eV:ff 27 4 30 bZ:=fun _ _ _ _ _=>rfl
theorem eX:ff 27 4 31 bZ:=fun _ _ _ _ _=>rfl
theorem fe:bX 31 27 6 bp:=fun _ _ _ _ _=>rfl
def yp (w:World) (x:Val) (raw:Value) (fu:Bool) (e:Ending) (w':World):Prop :=
 (fu=true/\e=.returned (.tuple #[.agg (au x raw),J 0])\/fu=false/\e=.returned (.tuple #[.agg zV,J 82]))/\Bl w w'
def An (w:World) (z:Ans) (fu:Bool) (e:Ending) (w':World):Prop :=
 ((z.e≠0\/fu=true)/\e=.returned (.tuple #[.agg z.cs,J z.e])\/z.e=0/\fu=false/\e=.returned (.tuple #[.agg zV,J 82]))/\Bl w w'
theorem gD:bX 9 27 3 bp:=fun _ _ _ _ _=>rfl
theorem gf:bX 15 27 14 bp:=fun _ _ _ _ _=>rfl
def PrGPhi (b B0 am ac nl cv zl zc:Nat) (ap pv zp:Option Addr) (ak an ar xk xn xr zk zn zr ze:Int) (astr xs zs:ByteArray) (j:Nat) (v:Value) (wx:World):Prop :=
 match j with
 | 0=>v=.agg (V_ ak an astr (.slice ap am ac) ar)
 | 1=>v=P_ b
 | 2=>v=P_ b
 | 3=>v=P_ b
 | 4=>v=R_ b 2
 | 5=>v=R_ b 4
 | 6=>v=.agg (V_ xk xn xs (.slice pv nl cv) xr)
 | 7=>v=.tuple #[.agg (V_ zk zn zs (.slice zp zl zc) zr),J ze]
 | 8=>v=.tuple #[.agg (V_ zk zn zs (.slice zp zl zc) zr),J ze]
 | 9=>v=.agg (V_ zk zn zs (.slice zp zl zc) zr)
 | 10=>v=J ze
 | 11=>∃ g,v=P_ g/\B0≤g/\wx.heap[g]? = some (.cells zV 27 (0,0))
 | _=>True
theorem PrGPhi.stab {b B0 am ac nl cv zl zc:Nat} {ap pv zp:Option Addr} {ak an ar xk xn xr zk zn zr ze:Int} {astr xs zs:ByteArray}:∀ (j:Nat) (v:Value) (w w':World),Bl w w'->PrGPhi b B0 am ac nl cv zl zc ap pv zp ak an ar xk xn xr zk zn zr ze astr xs zs j v w->PrGPhi b B0 am ac nl cv zl zc ap pv zp ak an ar xk xn xr zk zn zr ze astr xs zs j v w':=by
 intro j v w w' hR h;unfold PrGPhi at h ⊢;split at h
 ·exact h
 ·exact h
 ·exact h
 ·exact h
 ·exact h
 ·exact h
 ·exact h
 ·exact h
 ·exact h
 ·exact h
 ·exact h
 ·obtain⟨g,h1,h0,h2⟩:=h;exact⟨g,h1,h0,ae hR h2⟩
 ·trivial
attribute [local go_sem ↓] eV eX fe in
theorem Ai {b:Nat} {r:Int} {t:Th} (hb:w.heap[b]? = some (.cells (bj p r t) 169 (0,0))) {xk xn xr:Int} {xs:ByteArray} {pv:Option Addr} {nl cv:Nat} {fu:Bool} (hx:t.v.kind=xk/\t.v.n=xn/\t.v.s=xs/\t.v.r=xr/\t.vl=.slice pv nl cv) (hf:t.full=fu) {ak an ar:Int} {astr:ByteArray} {ap:Option Addr} {am ac:Nat} {z:Ans} (ht:Af (V_ ak an astr (.slice ap am ac) ar) (V_ xk xn xs (.slice pv nl cv) xr) z) :
 Calls Tryz.prog 333 #[P_ b,.agg (V_ ak an astr (.slice ap am ac) ar)] w (An w z fu):=by
 have hlt:=aw hb;obtain⟨zk,zn,zs,zp,zl,zc,zr,ze⟩:=z;have HT:Hid (∀ w,Calls Tryz.prog 325 #[.agg (V_ ak an astr (.slice ap am ac) ar),.agg (V_ xk xn xs (.slice pv nl cv) xr)] w fun e w'=>e=.returned (.tuple #[.agg (V_ zk zn zs (.slice zp zl zc) zr),J ze])/\Bl w w'):=ht;have HX:Hid _:=dN w (V_ ak an astr (.slice ap am ac) ar) zV;have HV:Hid ((t.v.kind=xk/\t.v.n=xn/\t.v.s=xs/\t.v.r=xr/\t.vl=.slice pv nl cv)/\t.full=fu):=⟨hx,hf⟩;clear ht hx hf;simp only [zV]at HX
 go_enter Tryz.func333,Tryz.ntmps333
 go_upto_region 1 with fail
 revert HX;generalize (w.alloc _).alloc _=wa;intro HX;have Hb:Hid (wa.heap[b]? = some (.cells (bj p r t) 169 (0,0))):=(HX.out.1.block b hlt).trans hb;refine cI 12 10 18 6 17 27 (J ze) (by kernel_rfl) rfl (by kernel_rfl) rfl rfl rfl (by decide) (by decide) (by kernel_rfl) (fun a b=>Bl a b) (PrGPhi b wa.heap.size am ac nl cv zl zc ap pv zp ak an ar xk xn xr zk zn zr ze astr xs zs) (fun w'=>Bl wa w') (fun j v w w'=>PrGPhi.stab j v w w') (fun w=>br) below_drew (fun a b h hR=>h.trans (hR.mono h.size)) (fun w=>rfl) ?_ ?_ ?_
 ·intro a w w' hdep;have h8':a.tmps[8]?.getD undef=.tuple #[.agg (V_ zk zn zs (.slice zp zl zc) zr),J ze]:=gq (hdep ⟨8,.data⟩ (by simp) rfl _ rfl);clear hdep;simp [go_sem,h8']
 ·intro j q a w7 hne hq hC hG;have hj:j<12:=ji hq
  match j,hj with
  | 0,_ =>
    cases hq;have h3:a.tmps.getD 3 undef=P_ w.heap.size:=hG.fr 3 (by simp);refine aT (.agg (V_ ak an astr (.slice ap am ac) ar)) ?_ br rfl;rw [gD];show (bp (a.tmps.getD 3 undef)).run _ _=_;rw [h3];exact aI (ae hC HX.out.2.1) rfl
  | 1,_=>cases hq;have h0':a.tmps[0]?.getD undef=P_ b:=gq (hG.fr 0 (by simp));unfold Oper.wp;simp [go_sem,Act.eval,h0'];exact⟨_,rfl,br,rfl⟩
  | 2,_=>cases hq;have h10':=gq (i:=10) (gd hG 1 rfl);unfold Oper.wp;simp [go_sem,Act.eval,h10'];exact⟨_,rfl,br,rfl⟩
  | 3,_=>cases hq;have h11':=gq (i:=11) (gd hG 2 rfl);unfold Oper.wp;simp [go_sem,Act.eval,h11'];exact⟨_,rfl,br,rfl⟩
  | 4,_=>cases hq;have h12':=gq (i:=12) (gd hG 3 rfl);unfold Oper.wp;simp [go_sem,Act.eval,h12'];exact⟨_,rfl,br,rfl⟩
  | 5,_=>cases hq;have h13':=gq (i:=13) (gd hG 4 rfl);unfold Oper.wp;simp [go_sem,Act.eval,h13'];exact⟨_,rfl,br,rfl⟩
  | 6,_ =>
    cases hq;have h14:a.tmps.getD 14 undef=R_ b 4:=gd hG 5 rfl;refine aT (.agg (V_ xk xn xs (.slice pv nl cv) xr)) ?_ br rfl;rw [gf];show (bp (a.tmps.getD 14 undef)).run _ _=_;rw [h14];exact iL (ae hC Hb.out) (cs:=#[.int .u8 xk,.int .i64 xn,.string xs,.slice pv nl cv,.int .i64 xr].toList) (by obtain⟨x1,x2,x3,x4,x5⟩:=HV.out.1;subst x1 x2 x3 x4;intro j x hj;exact eP x5 hj) rfl
  | 7,_ =>
    cases hq;have h9':=gq (i:=9) (gd hG 0 rfl);have h15':=gq (i:=15) (gd hG 6 rfl);unfold Oper.wp;simp [go_sem,callFunc,Act.eval,Tryz.func325,h9',h15'];refine Calls.mono (HT.out _) ?_;rintro e w8 ⟨rfl,hb8⟩;exact⟨_,rfl,hb8,rfl⟩
  | 8,_=>cases hq;have h16':=gq (i:=16) (gd hG 7 rfl);unfold Oper.wp;simp [go_sem,Act.eval,h16'];exact⟨_,rfl,br,rfl⟩
  | 9,_=>cases hq;have h8':=gq (i:=8) (gd hG 8 rfl);unfold Oper.wp;simp [go_sem,Act.eval,h8'];exact⟨_,rfl,br,rfl⟩
  | 10,_=>exact absurd rfl hne
  | 11,_ =>
    cases hq;unfold Oper.wp;simp [go_sem];exact⟨_,rfl,br.alloc aH _,w7.heap.size,rfl,hC.size,ai _ _⟩
 intro a w7 hC hdf hsz hfr hphi;have e0:a.tmps.getD 9 undef=_:=hphi 0 _ rfl;have e1:a.tmps.getD 10 undef=_:=hphi 1 _ rfl;have e2:a.tmps.getD 11 undef=_:=hphi 2 _ rfl;have e3:a.tmps.getD 12 undef=_:=hphi 3 _ rfl;have e4:a.tmps.getD 13 undef=_:=hphi 4 _ rfl;have e5:a.tmps.getD 14 undef=_:=hphi 5 _ rfl;have e6:a.tmps.getD 15 undef=_:=hphi 6 _ rfl;have e7:a.tmps.getD 16 undef=_:=hphi 7 _ rfl;have e8:a.tmps.getD 8 undef=_:=hphi 8 _ rfl;have e9:a.tmps.getD 17 undef=_:=hphi 9 _ rfl;have e10:a.tmps.getD 18 undef=_:=hphi 10 _ rfl;obtain⟨g,e11,hg0,hg⟩:=hphi 11 _ rfl;have e11:a.tmps.getD 6 undef=P_ g:=e11;have ha:=bq hdf hsz hfr;simp only [List.take_succ_cons,List.take_zero,List.filterMap_cons,List.filterMap_nil,List.foldl_cons,List.foldl_nil,List.setIfInBounds_toArray,List.set_cons_zero,List.set_cons_succ,e0,e1,e2,e3,e4,e5,e6,e7,e8,e9,e10,e11]at ha;clear hdf hsz hfr hphi e0 e1 e2 e3 e4 e5 e6 e7 e8 e9 e10 e11;subst ha;have hst:=az (c':=#[U zk,J zn,.string zs,.slice zp zl zc,J zr]) hg rfl rfl (by simp [go_sem]);refine⟨w7.setRow g (V_ zk zn zs (.slice zp zl zc) zr),?_,?_⟩
 ·rw [fO];simp [Act.eval,hst]
 have HY:Hid (Bl w (w7.setRow g (V_ zk zn zs (.slice zp zl zc) zr))/\(w7.setRow g (V_ zk zn zs (.slice zp zl zc) zr)).heap[g]? = some (.cells (V_ zk zn zs (.slice zp zl zc) zr) 27 (0,0))/\(w7.setRow g (V_ zk zn zs (.slice zp zl zc) zr)).heap[b]? = some (.cells (bj p r t) 169 (0,0)) /\
  (w7.setRow g (V_ zk zn zs (.slice zp zl zc) zr)).heap[w.heap.size+1]? = some (.cells zV 27 (0,0))):=by
  have h1:=aw HX.out.2.2;refine⟨Below.setRow (HX.out.1.trans (hC.mono HX.out.1.size)) (by omega) _,ah hg,?_,?_⟩
  ·rw [aj _ _ _ _ (by omega)];exact ae hC Hb.out
  ·rw [aj _ _ _ _ (by omega)];exact ae hC HX.out.2.2
 clear hst hg hg0 hC HX Hb HT;refine⟨rfl,?_⟩;unfold Oper.wp;simp [execOp,go_sem,Act.eval,aV];revert HY;generalize World.setRow _ _ _=w8;intro HY;refine ‹∀ (a:Act) (w:World),Code.wp Tryz.prog _ _ a w->_› _ _ ?_;have c15:w8.cell? ⟨b,15,none⟩=some (.bool fu):=by rw [ag HY.out.2.2.1,← HV.out.2];rfl
 have hld:=aI HY.out.2.1 rfl;have hst:=az (c':=#[U zk,J zn,.string zs,.slice zp zl zc,J zr]) HY.out.2.2.2 rfl rfl (by simp [go_sem]);have HZ:Hid _:=ah (c':=#[U zk,J zn,.string zs,.slice zp zl zc,J zr]) HY.out.2.2.2;have HB:Hid (Bl w (w8.setRow (w.heap.size+1) (V_ zk zn zs (.slice zp zl zc) zr))):=Below.setRow HY.out.1 (Nat.le_succ _) _
 by_cases hz:ze=0
 ·subst hz
  cases fu with
  | false =>
    have hst:(bZ (P_ (w.heap.size+1)) (.agg O)).run Tryz.prog w8=.ok .skip w8:=bf HY.out.2.2.2 rfl (by simp [zV]) (by simp [go_sem]) (by simp [zV]);obtain⟨⟨r0,r1,r2,r3,r4⟩,-⟩:=ax HY.out.2.2.2;clear HZ HB hld
    go_wp2_with fail
    exact bodyPost_ret (v:=.tuple #[.agg zV,J 82]) (by simp [results,Tryz.results333,go_sem,r0,r1,r2,r3,r4,zV]) rfl ⟨.inr ⟨rfl,rfl,rfl⟩,HY.out.1⟩
  | true =>
    go_wp2_with fail
    obtain⟨⟨r0,r1,r2,r3,r4⟩,-⟩:=ax HZ.out;exact bodyPost_ret (v:=.tuple #[.agg (V_ zk zn zs (.slice zp zl zc) zr),J 0]) (by simp [results,Tryz.results333,go_sem,r0,r1,r2,r3,r4]) rfl ⟨.inl ⟨.inr rfl,rfl⟩,HB.out⟩
 ·have hb':(ze != 0)=true:=by simpa using hz
  have HN:Hid (ze≠0):=hz;clear c15 hz
  go_wp2_with fail
  obtain⟨⟨r0,r1,r2,r3,r4⟩,-⟩:=ax HZ.out;exact bodyPost_ret (v:=.tuple #[.agg (V_ zk zn zs (.slice zp zl zc) zr),J ze]) (by simp [results,Tryz.results333,go_sem,r0,r1,r2,r3,r4]) rfl ⟨.inl ⟨.inl HN.out,rfl⟩,HB.out⟩
theorem qC {b:Nat} {r h:Int} {x:Val} {fu:Bool} {pv:Option Addr} {nl cv:Nat} (hb:w.heap[b]? = some (.cells (bj p r (dX h x (.slice pv nl cv) fu)) 169 (0,0))) :
 Calls Tryz.prog 333 #[P_ b,.agg zV] w (yp w x (.slice pv nl cv) fu) :=
 (Ai hb ⟨rfl,rfl,rfl,rfl,rfl⟩ rfl (Ad _ _ _ _ _ _ _)).mono fun _ _ ⟨h,hb⟩=>⟨h.elim (fun⟨h1,h2⟩=>.inl ⟨h1.elim (fun h=>absurd rfl h) id,h2⟩) fun⟨_,h1,h2⟩=>.inr ⟨h1,h2⟩,hb⟩
end
section
variable {w:World} {p:Nat} {M:WM} {F:Nat->Prop}
theorem sE (hW:IsW w p M F) {r k tg:Int} (hno:∀ q t,M.at q=some t->q≠r->t.kind=k->t.tgt≠tg) :
 Calls Tryz.prog 169 #[P_ p,J r,U k,J tg] w fun e w'=>e=.returned (.bool false)/\Bl w w':=by
 obtain⟨pa,pc,cg,cc,mg,mc,tb,fb,fn,bl,hV⟩:=hW;have HV:Hid _:=hV;have Hno:Hid (∀ q t,M.at q=some t->q≠r->t.kind=k->t.tgt≠tg):=hno;have c2:=hV.c2;have HT1:Hid _:=hV.things;clear hV hno
 go_enter Tryz.func169,Tryz.ntmps169
 go_wp2_with (first | (at_range;refine qF rfl _ 137 146 rfl Tryz.underlying137 tb _ (fB M bl) rfl HT1.out ?_;intro w3 L cnt hrg hL hb3))
 have HG3:Hid (Rg w3 tb w.heap.size (fB M bl) L cnt):=hrg;have HB3:Hid (Bl w w3):=hb3;clear hrg hL hb3 c2 HT1;obtain⟨r0,hr0⟩:∃ r0,r0=w.heap.size:=⟨_,rfl⟩;have Hr0:Hid _:=hr0;rw [<- hr0]at HG3;rw [<- hr0];clear hr0;simp only [Go.Act.put,List.setIfInBounds_toArray,List.set_cons_succ,List.set_cons_zero]
 go_loopw [] (fun wr=>∃ L cnt,Hid (Rg wr tb r0 (fB M bl) L cnt)/\Hid (Bl w wr)) (fun wr=>wr.rangeLeft tb r0)
 case atStart=>exact⟨L,cnt,HG3,HB3⟩
 case round =>
  clear HG3 HB3;obtain⟨L,cnt,HG,HB⟩:=hrel
  go_wp2_with (first | (at_next;refine sA rfl _ rfl tb r0 (fB M bl) L cnt rfl HG.out ?_ ?_))
  ·intro _;clear HG
   go_wp2_with fail
   go_ret
   exact⟨rfl,HB.out⟩
  ·intro x v w4 cnt' hx hLx hf hrg' hlt hk hsz hen;obtain⟨t,ht,rfl⟩:=mT hf;have hne:=Hno.out x t ht;have hB4:Bl w w4:=HB.out.trans (hk.below HB.out.size (fun y hy=>by have:y=r0:=hy;rw [this,Hr0.out];exact aH));have HB4:Hid _:=hB4;have hbl:=(HV.out.below hB4).blk x _ ht;have HG4:Hid (Rg w4 tb r0 (fB M bl) (fun z=>L z && !decide (z=x)) cnt'):=hrg';have Hlt:Hid (cnt'<cnt):=hlt;have Hcnt:Hid (wr.rangeLeft tb r0=cnt):=HG.out.left_eq;obtain⟨q0,q1,-,-,q10,q11,q12,q13⟩:=dO hbl.1;clear hLx hf hrg' hlt hk hsz ht HG hB4 hbl q1 q11 q12 q13;have fin:(∃ L cnt,Hid (Rg w4 tb r0 (fB M bl) L cnt)/\Hid (Bl w w4))/\w4.rangeLeft tb r0<wr.rangeLeft tb r0:=⟨⟨_,_,HG4,HB4⟩,by rw [Hcnt.out,HG4.out.left_eq];exact Hlt.out⟩;have HF:Hid _:=fin;clear fin HG4 HB4 Hlt Hcnt
   by_cases e1:x=r
   ·clear hne
    go_wp2_with fail
    exact HF.out
   ·by_cases e2:t.kind=k
    ·have e3:(t.tgt==tg)=false:=by simpa using hne e1 e2
     have e4:(x != r && t.tgt==tg)=false:=by rw [e3];exact Bool.and_false _
     clear hne
     go_wp2_with fail
     exact HF.out
    ·clear hne
     go_wp2_with fail
     exact HF.out
end
section
variable {w:World} {p:Nat} {M:WM} {F:Nat->Prop}
theorem AM (hW:IsW w p M F) {r h tg:Int} {t:Th} (hq:(Lit.int .i64 tg).wf=true) (ht:M.at tg=some t) (hk:t.kind=10) (hh:t.home=h) (hno:∀ q u,M.at q=some u->q≠r->u.kind=11->u.tgt≠tg) :
 Calls Tryz.prog 78 #[P_ p,J r,.agg (wr 11 h 0 0 0 0 tg 0 0 false)] w fun e w'=>e=.returned (.bool true)/\Bl w w':=by
 have HW:Hid (IsW w p M F):=hW;have HT:Hid (M.at tg=some t/\t.kind=10/\t.home=h):=⟨ht,hk,hh⟩;have HN:Hid (∀ q u,M.at q=some u->q≠r->u.kind=11->u.tgt≠tg):=hno;clear hW ht hk hh hno
 go_enter Tryz.func78,Tryz.ntmps78
 go_wp2_with fail
 have hb:=((Below.refl w.heap.size w).alloc aH (.cells #[P_ p] 31)).alloc (by simp) (.cells (wr 11 h 0 0 0 0 tg 0 0 false) 46);have HB:Hid _:=hb;refine(rZ (HW.out.below hb) hq HT.out.1 HT.out.2.1 HT.out.2.2 (by rw [ag (aL _ _ _)];rfl) (by rw [ag (aK _ _ _)];rfl)).mono ?_;clear hb;rintro e w' ⟨rfl,m,rfl⟩;have hol:=aL w (.cells #[P_ p] 31) (.cells (wr 11 h 0 0 0 0 tg 0 0 false) 46)
 go_wp2_with fail
 refine(sE ((HW.out.below HB.out).drewN m) HN.out).mono ?_;rintro e w2 ⟨rfl,hb2⟩
 have HB2:Hid (Bl w w2):=by
  have h2:=hb2.mono HB.out.size;refine Below.trans ?_ h2;exact Below.trans HB.out ⟨rfl,rfl,rfl,aH,fun _ _=>rfl⟩
 clear hb2 hol
 go_wp2_with fail
 go_ret
 exact⟨rfl,HB2.out⟩
theorem wv (hW:IsW w p M F) (hl:M.last+1≤1099511627776) {h:Int} (home:0≤h/\h<M.made.length) {tg:Int} {u:Th} (tgw:(Lit.int .i64 tg).wf=true) (hu:M.at tg=some u) (hu10:u.kind=10) (huh:u.home=h) (hno:∀ q v,M.at q=some v->q≠0->v.kind=11->v.tgt≠tg) :
 Calls Tryz.prog 14 #[P_ p,.agg (wr 11 h 0 0 0 0 tg 0 0 false)] w (MadeL w p M F h (lt 11 h 0 0 0 0 tg 0 0 false)) :=
 (ft hW (MakeIn.light hW gS (fun w hW=>vM hW h tg (sideB_iff.2 home)) (fun w hW=>AM hW tgw hu hu10 huh hno) rfl (fun e=>absurd e (by decide)) tgw rfl home (fun _=>by rw [hu];rfl) (fun e=>absurd e (by decide)) fun hr=>{
  wf:=⟨by show (1:Int)≤11/\(11:Int)≤16;decide,tgw,rfl,by show (0:Int)≤0/\(0:Int)≤255;decide⟩
  last:=hl
  home:=fun _=>home
  made:=fun _=>hr
  wrap:=fun e=>absurd (show cC 11=true from e) (by decide)
  gate:=fun e=>absurd (show (11:Int)=15 from e) (by decide)
  purse:=fun e=>absurd (show (11:Int)=9 from e) (by decide)
  facet:=fun e=>absurd (show (11:Int)=14 from e) (by decide) })).mono fun _ _ h=>h.light
def wP (w:World) (p:Nat) (M:WM) (F:Nat->Prop) (h:Int) (e:Ending) (w':World):Prop :=
 e=.returned (.tuple #[J (M.last+1),J (M.last+1+1),J 0])/\∃ F',IsW w' p ((M.add (lt 10 h 0 0 0 0 0 0 0 false)).add (lt 11 h 0 0 0 0 (M.last+1) 0 0 false)) F'/\Grew F w F' w'
theorem ra (hW:IsW w p M F) (hl:M.last+2≤1099511627776) (hl0:0≤M.last) {h:Int} (hh:0≤h/\h<M.made.length) (hroom:M.made.getD h.toNat 0+2≤512) (hm0:0≤M.made.getD h.toNat 0)
 (hat:(M.add (lt 10 h 0 0 0 0 0 0 0 false)).at (M.last+1)=some (lt 10 h 0 0 0 0 0 0 0 false)) (hlast:(M.add (lt 10 h 0 0 0 0 0 0 0 false)).last=M.last+1) (hlen:(M.add (lt 10 h 0 0 0 0 0 0 0 false)).made.length=M.made.length) (hmade:(M.add (lt 10 h 0 0 0 0 0 0 0 false)).made.getD h.toNat 0=M.made.getD h.toNat 0+1)
 (hno:∀ q v,(M.add (lt 10 h 0 0 0 0 0 0 0 false)).at q=some v->q≠0->v.kind=11->v.tgt≠M.last+1) :
 Calls Tryz.prog 86 #[P_ p,J h] w (wP w p M F h):=by
 have hmay:=ti hW hh (⟨0,0,⟨#[]⟩,[],0⟩:Val) (S_) (SlAt.nil w F none 0) (aZ 0 0 (.inl ⟨rfl,rfl⟩)).2 (fun r hr=>by rw [(aZ 0 0 (.inl ⟨rfl,rfl⟩)).1]at hr;cases hr);have HY:Hid _:=hmay;have HW:Hid (IsW w p M F):=hW;have HS:Hid (be M h=true):=sideB_iff.2 hh;have Hh:Hid (0≤h/\h<M.made.length):=hh;have HL:Hid (M.last+2≤1099511627776/\0≤M.last):=⟨hl,hl0⟩;have HR:Hid (M.made.getD h.toNat 0+2≤512/\0≤M.made.getD h.toNat 0):=⟨hroom,hm0⟩;have HN:Hid _:=And.intro hat (And.intro hlast (And.intro hlen (And.intro hmade hno)));clear hmay hW hh hl hl0 hroom hm0 hat hlast hlen hmade hno;simp only [au]at HY
 go_enter Tryz.func86,Tryz.ntmps86
 go_wp2_with fail
 refine Calls.mono HY.out ?_;rintro e w1 ⟨rfl,hb1⟩;have HB1:Hid (Bl w w1):=hb1;clear hb1 HY
 go_wp2_with fail
 refine(ta (HW.out.below HB1.out) h).mono ?_;rw [HS.out,if_pos rfl];rintro e _ ⟨rfl,rfl⟩;obtain⟨n,hn⟩:∃ n,n=M.made.getD h.toNat 0:=⟨_,rfl⟩;rw [<- hn];have hn2:wrap64 (n+2)=n+2:=by have:=HR.out;rw [<- hn]at this;unfold wrap64;omega
 have hn3:¬ (n+2 > 512):=by have:=HR.out;rw [<- hn]at this;omega
 have Hn:Hid _:=hn;clear hn
 go_wp2_with fail
 refine(ve (HW.out.below HB1.out) (by have:=HL.out;omega) Hh.out).mono ?_;rintro e w2 (⟨-,rfl,F',hW',hg⟩ | ⟨hx,-,-⟩)
 rotate_left
 ·exact absurd (by have:=HR.out;omega) hx
 have HW2:Hid (IsW w2 p (M.add (lt 10 h 0 0 0 0 0 0 0 false)) F'/\Grew F w F' w2):=⟨hW',hg.start HB1.out⟩;clear hW' hg hn2 hn3
 go_wp2_with fail
 refine(wv HW2.out.1 (by have:=HL.out;rw [HN.out.2.1];omega) (by rw [HN.out.2.2.1];exact Hh.out) (tg:=M.last+1) (by obtain⟨_,_,_,_,_,_,_,_,_,_,hV⟩:=HW2.out.1;exact hV.ok.at_wf HN.out.1) HN.out.1 rfl rfl HN.out.2.2.2.2).mono ?_;rintro e w3 (⟨-,rfl,F3,hW3,hg3⟩ | ⟨hx,-,-⟩)
 rotate_left
 ·exact absurd (by rw [HN.out.2.2.2.1];have:=HR.out;omega) hx
 rw [HN.out.2.1]
 have HE:Hid (∃ F',IsW w3 p ((M.add (lt 10 h 0 0 0 0 0 0 0 false)).add (lt 11 h 0 0 0 0 (M.last+1) 0 0 false)) F'/\Grew F w F' w3):=⟨F3,hW3,HW2.out.2.1.trans hg3.1 (fun _ _ h=>h) (fun x hx h=>by rcases HW2.out.2.2 x h with h | h;exact h;omega),fun y hy=>by
  rcases hg3.2 y hy with h | h
  ·exact HW2.out.2.2 y h
  ·exact .inr (Nat.le_trans HW2.out.2.1.size h)⟩
 clear hW3 hg3
 go_wp2_with fail
 go_returns
 exact⟨rfl,HE.out⟩
end
section
variable {w:World} {p:Nat} {M:WM} {F:Nat->Prop}
def knownB (M:WM) (v:Val):Bool:=(aM v).all fun r=>(M.at r).isSome
def mayE (M:WM) (h:Int) (v:Val):Int:=if 0≤h/\h<M.made.length then (if ay v=true then (if knownB M v=true then 0 else 5)else 2)else 2
theorem bo {M:WM} {h:Int} {v:Val} (e:mayE M h v=0):(0≤h/\h<M.made.length)/\ay v=true/\knownB M v=true:=by
 unfold mayE at e;split at e
 ·split at e
  ·split at e
   ·exact⟨by assumption,by assumption,by assumption⟩
   ·cases e
  ·cases e
 ·cases e
theorem oB:∀ n (v:Val),v.wf->∀ r ∈ aN n v,(Lit.int .i64 r).wf=true
 | 0,v,h,r,hr=>by
   unfold aN at hr;split at hr
   ·simp at hr;subst hr;exact h.num.2
   ·cases hr
 | n+1,v,h,r,hr=>by
   unfold aN at hr
   rcases List.mem_append.1 hr with hr | hr
   ·split at hr
    ·simp at hr;subst hr;exact h.num.2
    ·cases hr
   ·obtain⟨x,hx,hr⟩:=List.mem_flatMap.1 hr;exact oB n x (h.sub x hx) r hr
theorem fX {v:Val} (h:v.wf):∀ r ∈ aM v,(Lit.int .i64 r).wf=true:=fun r hr=>by
 unfold aM at hr;split at hr
 ·exact oB 16 v h r hr
 ·cases hr
theorem gA {M:WM} {v:Val} (h:v.wf) (hk:knownB M v=true):∀ r ∈ aM v,(Lit.int .i64 r).wf=true/\(M.at r).isSome=true:=fun r hr =>
 ⟨fX h r hr,by unfold knownB at hk;rw [List.all_eq_true]at hk;exact hk r hr⟩
theorem kI (hW:IsW w p M F) {F1:Nat->Prop} (v:Val) (raw:Value) (hS:SlAt w F1 raw v.l) (hk:∀ r ∈ aM v,(Lit.int .i64 r).wf=true) :
 Calls Tryz.prog 185 #[P_ p,.agg (au v raw)] w fun e w'=>e=.returned (.bool (knownB M v))/\Bl w w':=by
 obtain⟨pa,c,rfl⟩:=hS.form;have hb0:Bl w (w.alloc (.cells (au v (.slice pa v.l.length c)) 27)):=br.alloc aH _;have HR:Hid _:=And.intro hb0 (mC (w:=w.alloc (.cells (au v (.slice pa v.l.length c)) 27)) v _ (hS.on hb0));have Hk:Hid (∀ r ∈ aM v,(Lit.int .i64 r).wf=true):=hk;have Hl:Hid ((aM v).length≤512):=bW v;have HW:Hid (IsW w p M F):=hW;unfold knownB;obtain⟨kind,n,s,l,r⟩:=v;generalize aM ⟨kind,n,s,l,r⟩=xs at HR Hk Hl ⊢;clear hS hk hW hb0;simp only [au]at HR ⊢
 go_enter Tryz.func185,Tryz.ntmps185
 go_wp2_with fail
 refine Calls.mono HR.out.2 ?_;rintro e w1 ⟨u,rfl,hr,hb1⟩;have HB1:Hid (Bl w w1):=HR.out.1.trans (hb1.mono HR.out.1.size)
 obtain⟨q,c',hu,hcell⟩:∃ q c',u=.slice q xs.length c'/\∀ (j:Nat) (x:Int),xs[j]? = some x->∃ g,q=some ⟨g,0,none⟩/\w1.cell? ⟨g,j,none⟩=some (.int .i64 x):=by
  obtain⟨h1,⟨rfl,h0⟩ | ⟨g,cap,cur,rfl,-,hb,hc,hm,hcs,ht⟩⟩:=hr
  ·exact⟨none,0,by rw [h0],fun j x hj=>by have:=ji hj;omega⟩
  ·refine⟨_,cap,rfl,fun j x hj=>⟨g,rfl,?_⟩⟩;have hj':=ji hj;have h2:(xs.map (Value.int .i64))[j]? = some (.int .i64 x):=by rw [List.getElem?_map,hj];rfl
   rw [<- ht,List.getElem?_take,if_pos (by omega)]at h2;rw [ag hb,← Array.getElem?_toList];exact h2
 subst hu;have HC:Hid (∀ (j:Nat) (x:Int),xs[j]? = some x->∃ g,q=some ⟨g,0,none⟩/\w1.cell? ⟨g,j,none⟩=some (.int .i64 x)):=hcell;have HW1:Hid (IsW w1 p M F):=HW.out.below HB1.out;clear hr hb1 hcell HR HW
 go_wp2_with fail
 go_loopw [10] (fun vi wr=>∃ k:Nat,vi=J k/\k≤xs.length/\wr=w1/\Hid (∀ x ∈ xs.take k,(M.at x).isSome=true)) (fun vi _=>xs.length - (intOf vi).toNat)
 case atStart=>exact⟨0,rfl,Nat.zero_le _,rfl,fun x hx=>by simp at hx⟩
 case round =>
  obtain⟨k,rfl,hk,rfl,HA⟩:=hrel
  by_cases hkl:k<xs.length
  ·have hkz:(k:Int)<(xs.length:Int):=by omega
   obtain⟨x,hx⟩:∃ x,xs[k]? = some x:=⟨_,List.getElem?_eq_getElem hkl⟩;obtain⟨g,rfl,hc⟩:=HC.out k x hx;have hwf:=Hk.out x (List.mem_of_getElem? hx);have hk1:k<512:=by have:=Hl.out;omega
   have hI:=gN HW1.out hwf
   cases his:(M.at x).isSome with
   | true =>
     have HA2:Hid (∀ y ∈ xs.take (k+1),(M.at y).isSome=true):=fun y hy=>by
      rw [List.take_add_one,hx]at hy
      rcases List.mem_append.1 hy with hy | hy
      ·exact HA.out y hy
      ·simp at hy;rw [hy];exact his
     rw [his]at hI;have HI:Hid _:=hI;clear hx hI his HA
     go_wp2_with fail
     refine Calls.mono HI.out ?_;rintro e _ ⟨rfl,rfl⟩
     go_wp2_with fail
     go_roundw
     case rel=>exact⟨k+1,by go_num,by omega,by first | rfl | trivial,HA2⟩
     case measure =>
      simp [intOf];omega
   | false =>
     have HE:Hid ((xs.all fun r=>(M.at r).isSome)=false):=by
      show _=_;rw [List.all_eq_false];exact⟨x,List.mem_of_getElem? hx,by rw [his];decide⟩
     rw [his]at hI;have HI:Hid _:=hI;clear hx hI his HA
     go_wp2_with fail
     refine Calls.mono HI.out ?_;rintro e _ ⟨rfl,rfl⟩
     go_wp2_with fail
     go_ret
     exact⟨by rw [HE.out];rfl,HB1.out⟩
  ·have hkz:¬ (k:Int)<(xs.length:Int):=by omega
   obtain rfl:k=xs.length:=by omega
   have HE:Hid ((xs.all fun r=>(M.at r).isSome)=true):=by
    show _=_;rw [List.all_eq_true];exact fun x hx=>HA.out x (by rw [List.take_length];exact hx)
   clear HA
   go_wp2_with fail
   go_ret
   exact⟨by rw [HE.out];rfl,HB1.out⟩
theorem qN (hW:IsW w p M F) {F1:Nat->Prop} (h:Int) (v:Val) (raw:Value) (hS:SlAt w F1 raw v.l) (hk:∀ r ∈ aM v,(Lit.int .i64 r).wf=true) :
 Calls Tryz.prog 181 #[P_ p,J h,.agg (au v raw)] w fun e w'=>e=.returned (J (mayE M h v))/\Bl w w':=by
 obtain⟨pa,c,rfl⟩:=hS.form;have hb0:Bl w (w.alloc (.cells (au v (.slice pa v.l.length c)) 27)):=br.alloc aH _;have HW:Hid (IsW w p M F):=hW;have HW0:Hid (IsW (w.alloc (.cells (au v (.slice pa v.l.length c)) 27)) p M F):=hW.below hb0;have HM:Hid (∀ w',Bl w w'->Calls Tryz.prog 161 #[.agg (au v (.slice pa v.l.length c))] w' fun e w''=>e=.returned (.bool (ay v))/\Bl w' w''):=fun w' hb=>dF (hS.on hb) (v:=v);have HK:Hid (∀ w',Bl w w'->Calls Tryz.prog 185 #[P_ p,.agg (au v (.slice pa v.l.length c))] w' fun e w''=>e=.returned (.bool (knownB M v))/\Bl w' w''):=fun w' hb=>kI (hW.below hb) v _ (hS.on hb) hk;have HB0:Hid _:=And.intro hb0 (ai w (.cells (au v (.slice pa v.l.length c)) 27));have HE:Hid (∀ x,mayE M h v=x ↔ (if 0≤h/\h<M.made.length then (if ay v=true then (if knownB M v=true then 0 else 5)else 2)else 2)=x):=fun x=>Iff.rfl
 generalize mayE M h v=E at HE ⊢;generalize ay v=mv at HM HE;generalize knownB M v=kb at HK HE;clear hS hk hW hb0;obtain⟨kind,n,s,l,r⟩:=v;simp only [au]at HW0 HM HK HB0 ⊢
 by_cases h1':h<0
 ·have e2:Hid (E=2):=(HE.out 2).2 (if_neg (by omega));clear HE
  go_enter Tryz.func181,Tryz.ntmps181
  go_wp2_with fail
  refine(bT HW0.out).mono ?_;rintro e _ ⟨rfl,rfl⟩
  go_wp2_with fail
  go_ret
  exact⟨by rw [e2.out];rfl,HB0.out.1⟩
 by_cases h2':h ≥ (M.made.length:Int)
 ·have e2:Hid (E=2):=(HE.out 2).2 (if_neg (by omega));clear HE
  go_enter Tryz.func181,Tryz.ntmps181
  go_wp2_with fail
  refine(bT HW0.out).mono ?_;rintro e _ ⟨rfl,rfl⟩
  go_wp2_with fail
  refine(fZ HW0.out).mono ?_;rintro e _ ⟨rfl,rfl⟩
  go_wp2_with fail
  go_ret
  exact⟨by rw [e2.out];rfl,HB0.out.1⟩
 have HE2:Hid (∀ x,E=x ↔ (if mv=true then (if kb=true then 0 else 5)else 2)=x):=fun x=>by
  rw [HE.out x,if_pos ⟨by omega,by omega⟩]
 clear HE
 go_enter Tryz.func181,Tryz.ntmps181
 go_wp2_with fail
 refine(bT HW0.out).mono ?_;rintro e _ ⟨rfl,rfl⟩
 go_wp2_with fail
 refine(fZ HW0.out).mono ?_;rintro e _ ⟨rfl,rfl⟩
 go_wp2_with fail
 refine Calls.mono (HM.out _ HB0.out.1) ?_;rintro e w1 ⟨rfl,hb1⟩;have b1:=ae hb1 HB0.out.2;obtain⟨⟨a0,a1,a2,a3,a4⟩,-⟩:=ax b1;have HB1:Hid (Bl w w1):=HB0.out.1.trans (hb1.mono HB0.out.1.size);clear hb1 b1 HM
 cases mv with
 | false =>
   have e2:Hid (E=2):=(HE2.out 2).2 rfl;clear HE2 HK
   go_wp2_with fail
   go_ret
   exact⟨by rw [e2.out];rfl,HB1.out⟩
 | true =>
   go_wp2_with fail
   refine Calls.mono (HK.out _ HB1.out) ?_;rintro e w2 ⟨rfl,hb2⟩;have HB2:Hid (Bl w w2):=HB1.out.trans (hb2.mono HB1.out.size);clear hb2 a0 a1 a2 a3 a4 HK
   cases kb with
   | false =>
     have e2:Hid (E=5):=(HE2.out 5).2 rfl;clear HE2
     go_wp2_with fail
     go_ret
     exact⟨by rw [e2.out];rfl,HB2.out⟩
   | true =>
     have e2:Hid (E=0):=(HE2.out 0).2 rfl;clear HE2
     go_wp2_with fail
     go_ret
     exact⟨by rw [e2.out];rfl,HB2.out⟩
theorem iI (hW:IsW w p M F) {F1:Nat->Prop} {h:Int} (t:Th) (hth:t.home=h) (hS:SlAt w F1 t.vl t.v.l) (hvs:∃ a n c,t.vals=.slice a n c) (hc:t.code=.slice none 0 0) (hnm:t.names=.slice none 0 0) (hk:∀ r ∈ aM t.v,(Lit.int .i64 r).wf=true) (hno:mayE M h t.v≠0) :
 Calls Tryz.prog 156 #[P_ p,.agg (aF t)] w fun e w'=>e=.returned (.tuple #[J 0,J (mayE M h t.v)])/\Bl w w':=by
 obtain⟨pa,c,hv⟩:=hS.form;obtain⟨ps,ns,cs,hvals⟩:=hvs;have hb0:Bl w (w.alloc (.cells (aF t) 46)):=br.alloc aH _;have HMay:Hid _:=qN (hW.below hb0) h t.v t.vl (hS.on hb0) hk;have HB0:Hid _:=And.intro hb0 (ai w (.cells (aF t) 46));have hE:(mayE M h t.v==0)=false:=by simpa using hno
 clear hS hW hb0 hk hno;generalize mayE M h t.v=E at *;obtain⟨k,h',⟨vk,vn,vstr,vlist,vr⟩,raw,vs,vals,n,l,tg,bi,s,fu,code,names⟩:=t;simp only at hth hv hvals hc hnm;subst hth hv hvals hc hnm;simp only [aF,au]at HMay HB0 ⊢
 go_enter Tryz.func156,Tryz.ntmps156
 go_wp2_with fail
 refine Calls.mono HMay.out ?_;rintro e w1 ⟨rfl,hb1⟩;have HB1:Hid (Bl w w1):=HB0.out.1.trans (hb1.mono HB0.out.1.size);clear hb1 HB0 HMay
 go_wp2_with fail
 go_ret2
 exact⟨rfl,HB1.out⟩
theorem yi (hW:IsW w p M F) {h:Int} (hno:mayE M h ⟨0,0,⟨#[]⟩,[],0⟩≠0):Calls Tryz.prog 84 #[P_ p,J h] w fun e w'=>e=.returned (.tuple #[J 0,J (mayE M h ⟨0,0,⟨#[]⟩,[],0⟩)])/\Bl w w':=by
 have HM:Hid (Calls Tryz.prog 156 #[P_ p,.agg (aF (lt 2 h 0 0 0 0 0 0 0 false))] w fun e w'=>e=.returned (.tuple #[J 0,J (mayE M h ⟨0,0,⟨#[]⟩,[],0⟩)])/\Bl w w') :=
  iI hW (lt 2 h 0 0 0 0 0 0 0 false) rfl (SlAt.nil w F none 0) ⟨_,_,_,rfl⟩ rfl rfl (fun r hr=>by have h0:=(aZ 0 0 (.inl ⟨rfl,rfl⟩)).1;exact absurd (h0 ▸ hr:r ∈ []) (by simp)) hno
 clear hW hno;generalize mayE M h _=E at *;rw [bS]at HM
 go_enter Tryz.func84,Tryz.ntmps84
 go_wp2_with fail
 refine Calls.mono HM.out ?_;rintro e w2 ⟨rfl,hb⟩;have HB:Hid _:=hb;clear hb HM
 go_wp2_with fail
 go_ret2
 exact⟨rfl,HB.out⟩
theorem tF (hW:IsW w p M F) {h:Int} (hno:mayE M h ⟨0,0,⟨#[]⟩,[],0⟩≠0):Calls Tryz.prog 85 #[P_ p,J h] w fun e w'=>e=.returned (.tuple #[J 0,J (mayE M h ⟨0,0,⟨#[]⟩,[],0⟩)])/\Bl w w':=by
 have HM:Hid (Calls Tryz.prog 156 #[P_ p,.agg (aF (lt 3 h 0 0 0 0 0 0 0 false))] w fun e w'=>e=.returned (.tuple #[J 0,J (mayE M h ⟨0,0,⟨#[]⟩,[],0⟩)])/\Bl w w') :=
  iI hW (lt 3 h 0 0 0 0 0 0 0 false) rfl (SlAt.nil w F none 0) ⟨_,_,_,rfl⟩ rfl rfl (fun r hr=>by have h0:=(aZ 0 0 (.inl ⟨rfl,rfl⟩)).1;exact absurd (h0 ▸ hr:r ∈ []) (by simp)) hno
 clear hW hno;generalize mayE M h _=E at *;rw [bS]at HM
 go_enter Tryz.func85,Tryz.ntmps85
 go_wp2_with fail
 refine Calls.mono HM.out ?_;rintro e w2 ⟨rfl,hb⟩;have HB:Hid _:=hb;clear hb HM
 go_wp2_with fail
 go_ret2
 exact⟨rfl,HB.out⟩
theorem tI (hW:IsW w p M F) {h:Int} (hno:mayE M h ⟨0,0,⟨#[]⟩,[],0⟩≠0):Calls Tryz.prog 66 #[P_ p,J h] w fun e w'=>e=.returned (.tuple #[J 0,J (mayE M h ⟨0,0,⟨#[]⟩,[],0⟩)])/\Bl w w':=by
 have HM:Hid (Calls Tryz.prog 156 #[P_ p,.agg (aF (lt 4 h 0 0 0 0 0 0 0 false))] w fun e w'=>e=.returned (.tuple #[J 0,J (mayE M h ⟨0,0,⟨#[]⟩,[],0⟩)])/\Bl w w') :=
  iI hW (lt 4 h 0 0 0 0 0 0 0 false) rfl (SlAt.nil w F none 0) ⟨_,_,_,rfl⟩ rfl rfl (fun r hr=>by have h0:=(aZ 0 0 (.inl ⟨rfl,rfl⟩)).1;exact absurd (h0 ▸ hr:r ∈ []) (by simp)) hno
 clear hW hno;generalize mayE M h _=E at *;rw [bS]at HM
 go_enter Tryz.func66,Tryz.ntmps66
 go_wp2_with fail
 refine Calls.mono HM.out ?_;rintro e w2 ⟨rfl,hb⟩;have HB:Hid _:=hb;clear hb HM
 go_wp2_with fail
 go_ret2
 exact⟨rfl,HB.out⟩
theorem vg (hW:IsW w p M F) {h:Int} {F1:Nat->Prop} (v:Val) (raw:Value) (hS:SlAt w F1 raw v.l) (hk:∀ r ∈ aM v,(Lit.int .i64 r).wf=true) (hno:mayE M h v≠0):Calls Tryz.prog 64 #[P_ p,J h,.agg (au v raw)] w fun e w'=>e=.returned (.tuple #[J 0,J (mayE M h v)])/\Bl w w':=by
 obtain⟨pa,c,rfl⟩:=hS.form;have hb0:Bl w (w.alloc (.cells (au v (.slice pa v.l.length c)) 27)):=br.alloc aH _;have HM:Hid _:=And.intro hb0 (iI (hW.below hb0) (bn h v (.slice pa v.l.length c)) rfl (hS.on hb0) ⟨_,_,_,rfl⟩ rfl rfl hk hno);clear hW hS hk hb0 hno;generalize hE:mayE M h v=E at HM ⊢;clear hE;obtain⟨vk,vn,vstr,vl,vr⟩:=v;simp only [aF,au]at HM ⊢
 go_enter Tryz.func64,Tryz.ntmps64
 go_wp2_with fail
 refine Calls.mono HM.out.2 ?_;rintro e w2 ⟨rfl,hb⟩;have HB:Hid (Bl w w2):=HM.out.1.trans (hb.mono HM.out.1.size);clear hb HM
 go_wp2_with fail
 go_ret2
 exact⟨rfl,HB.out⟩
theorem pF (hW:IsW w p M F) {h:Int} (hno:mayE M h ⟨0,0,⟨#[]⟩,[],0⟩≠0):Calls Tryz.prog 86 #[P_ p,J h] w fun e w'=>e=.returned (.tuple #[J 0,J 0,J (mayE M h ⟨0,0,⟨#[]⟩,[],0⟩)])/\Bl w w':=by
 have hmay:=qN hW h (⟨0,0,⟨#[]⟩,[],0⟩:Val) (S_) (SlAt.nil w F none 0) (fun r hr=>by have h0:=(aZ 0 0 (.inl ⟨rfl,rfl⟩)).1;exact absurd (h0 ▸ hr:r ∈ []) (by simp));have HY:Hid _:=hmay;have hE:(mayE M h ⟨0,0,⟨#[]⟩,[],0⟩==0)=false:=by simpa using hno
 clear hmay hW hno;generalize mayE M h _=E at *;simp only [au]at HY
 go_enter Tryz.func86,Tryz.ntmps86
 go_wp2_with fail
 refine Calls.mono HY.out ?_;rintro e w1 ⟨rfl,hb1⟩;have HB1:Hid (Bl w w1):=hb1;clear hb1 HY
 go_wp2_with fail
 go_returns
 exact⟨rfl,HB1.out⟩
theorem mB (hW:IsW w p M F) {h:Int} (hh:0≤h/\h<M.made.length) (hroom:¬ M.made.getD h.toNat 0+2≤512) (hm:M.made.getD h.toNat 0≤512) :
 Calls Tryz.prog 86 #[P_ p,J h] w fun e w'=>e=.returned (.tuple #[J 0,J 0,J 8])/\Bl w w':=by
 have hmay:=ti hW hh (⟨0,0,⟨#[]⟩,[],0⟩:Val) (S_) (SlAt.nil w F none 0) (aZ 0 0 (.inl ⟨rfl,rfl⟩)).2 (fun r hr=>by rw [(aZ 0 0 (.inl ⟨rfl,rfl⟩)).1]at hr;cases hr);have HY:Hid _:=hmay;have HW:Hid (IsW w p M F):=hW;have HS:Hid (be M h=true):=sideB_iff.2 hh;have HR:Hid (¬ M.made.getD h.toNat 0+2≤512/\M.made.getD h.toNat 0≤512):=⟨hroom,hm⟩;clear hmay hW hh hroom hm;simp only [au]at HY
 go_enter Tryz.func86,Tryz.ntmps86
 go_wp2_with fail
 refine Calls.mono HY.out ?_;rintro e w1 ⟨rfl,hb1⟩;have HB1:Hid (Bl w w1):=hb1;clear hb1 HY
 go_wp2_with fail
 refine(ta (HW.out.below HB1.out) h).mono ?_;rw [HS.out,if_pos rfl];rintro e _ ⟨rfl,rfl⟩;obtain⟨n,hn⟩:∃ n,n=M.made.getD h.toNat 0:=⟨_,rfl⟩;rw [<- hn];have hn2:wrap64 (n+2)=n+2:=by have:=HR.out;rw [<- hn]at this;unfold wrap64;omega
 have hn3:n+2 > 512:=by have:=HR.out;rw [<- hn]at this;omega
 clear hn HR
 go_wp2_with fail
 go_returns
 exact⟨rfl,HB1.out⟩
end
section
theorem wY {w:World} {q:Nat} {N:WM} {G:Nat->Prop} (hR:IsR w q N G) (hN:ROk N) (r:Int) :
 Calls Tryz.prog 187 #[P_ q,J r] w fun e w'=>e=.returned (.bool (N.at r).isSome)/\Bl w w':=by
 have HA:Hid _:=fH hR hN.len r (fun x hx=>(hN.cell x hx).1);have hone:=hN.one r;clear hR hN;generalize at7 N r=t at *;generalize (N.at r).isSome=B at *
 go_enter Tryz.func187,Tryz.ntmps187
 go_wp2_with fail
 refine Calls.mono HA.out ?_;rintro e w1 ⟨rfl,hb1⟩;obtain⟨w2,hst,hb2,hg2,-⟩:=bh w1 (aF t) rfl hone;have HB2:Hid (Bl w w2):=hb1.trans (hb2.mono hb1.size);clear hb1 hb2 hg2 hone HA
 go_wp2_with fail
 go_ret
 exact⟨rfl,HB2.out⟩
theorem dJ {v:Val} (hm:ay v=true):∃ q,aP 16 512 v=some q:=Option.isSome_iff_exists.1 hm
theorem refsV_of {v:Val} (hm:ay v=true):aM v=aN 16 v:=by unfold aM;rw [if_pos hm]
theorem iV {w:World} {q:Nat} {N:WM} {G F:Nat->Prop} (hR:IsR w q N G) (hN:ROk N) (v:Val) (raw:Value) (hS:SlAt w F raw v.l) (hm:ay v=true) :
 Calls Tryz.prog 183 #[P_ q,.agg (au v raw)] w fun e w'=>e=.returned (.bool (knownB N v))/\Bl w w':=by
 obtain⟨pa,c,rfl⟩:=hS.form;obtain⟨q0,hq0⟩:=dJ hm;have hb0:Bl w (w.alloc (.cells (au v (.slice pa v.l.length c)) 27)):=br.alloc aH _;have hcall:=wI 16 v 512 q0 (.slice pa v.l.length c) (w.alloc (.cells (au v (.slice pa v.l.length c)) 27)) F (by decide) hq0 (hS.on hb0);rw [<- refsV_of hm]at hcall;have HR:Hid _:=And.intro hb0 hcall;have Hl:Hid ((aM v).length≤512):=bW v;have HI:Hid (∀ w',Bl w w'->∀ r,Calls Tryz.prog 187 #[P_ q,J r] w' fun e w''=>e=.returned (.bool (N.at r).isSome)/\Bl w' w''):=fun w' hb r=>wY (hR.below hb) hN r;unfold knownB;obtain⟨kind,n,s,l,r⟩:=v;generalize aM ⟨kind,n,s,l,r⟩=xs at HR Hl ⊢;clear hS hR hN hb0 hcall hm hq0;simp only [au]at HR ⊢
 go_enter Tryz.func183,Tryz.ntmps183
 go_wp2_with fail
 refine Calls.mono HR.out.2 ?_;rintro e w1 ⟨u,rfl,hr,hb1⟩;have HB1:Hid (Bl w w1):=HR.out.1.trans (hb1.mono HR.out.1.size)
 obtain⟨qa,c',hu,hcell⟩:∃ q c',u=.slice q xs.length c'/\∀ w2,Bl w1 w2->∀ (j:Nat) (x:Int),xs[j]? = some x->∃ g,q=some ⟨g,0,none⟩/\w2.cell? ⟨g,j,none⟩=some (.int .i64 x):=by
  obtain⟨h1,⟨rfl,h0⟩ | ⟨g,cap,cur,rfl,-,hb,hc,hm,hcs,ht⟩⟩:=hr
  ·exact⟨none,0,by rw [h0],fun w2 _ j x hj=>by have:=ji hj;omega⟩
  ·refine⟨_,cap,rfl,fun w2 hb2 j x hj=>⟨g,rfl,?_⟩⟩;have hj':=ji hj;have h2:(xs.map (Value.int .i64))[j]? = some (.int .i64 x):=by rw [List.getElem?_map,hj];rfl
   rw [<- ht,List.getElem?_take,if_pos (by omega)]at h2;rw [ag (ae hb2 hb),← Array.getElem?_toList];exact h2
 subst hu;have HC:Hid (∀ w2,Bl w1 w2->∀ (j:Nat) (x:Int),xs[j]? = some x->∃ g,qa=some ⟨g,0,none⟩/\w2.cell? ⟨g,j,none⟩=some (.int .i64 x)):=hcell;clear hr hb1 hcell HR
 go_wp2_with fail
 go_loopw [6] (fun vi wr=>∃ k:Nat,vi=J k/\k≤xs.length/\Hid (Bl w1 wr)/\Hid (∀ x ∈ xs.take k,(N.at x).isSome=true)) (fun vi _=>xs.length - (intOf vi).toNat)
 case atStart=>exact⟨0,rfl,Nat.zero_le _,br,fun x hx=>by simp at hx⟩
 case round =>
  obtain⟨k,rfl,hk,HB,HA⟩:=hrel
  by_cases hkl:k<xs.length
  ·have hkz:(k:Int)<(xs.length:Int):=by omega
   have hk0:(0:Int)≤(k:Int):=by omega
   obtain⟨x,hx⟩:∃ x,xs[k]? = some x:=⟨_,List.getElem?_eq_getElem hkl⟩;obtain⟨g,rfl,hc⟩:=HC.out wr HB.out k x hx;have hwk:wrap64 ((k:Int)+1)=(k:Int)+1:=by have:=Hl.out;unfold wrap64;omega
   have HIx:Hid _:=HI.out wr (HB1.out.trans (HB.out.mono HB1.out.size)) x
   cases his:(N.at x).isSome with
   | true =>
     have HA2:Hid (∀ y ∈ xs.take (k+1),(N.at y).isSome=true):=fun y hy=>by
      rw [List.take_add_one,hx]at hy
      rcases List.mem_append.1 hy with hy | hy
      ·exact HA.out y hy
      ·simp at hy;rw [hy];exact his
     rw [his]at HIx;clear hx his HA
     go_wp2_with fail
     refine Calls.mono HIx.out ?_;rintro e w2 ⟨rfl,hb2⟩;have HB2:Hid (Bl w1 w2):=HB.out.trans (hb2.mono HB.out.size);clear hb2 HB HIx hc
     go_wp2_with fail
     go_roundw
     case rel=>exact⟨k+1,by go_num,by omega,HB2,HA2⟩
     case measure=>(rw [hwk];clear hwk;simp [intOf];omega)
   | false =>
     have HE:Hid ((xs.all fun r=>(N.at r).isSome)=false):=by
      show _=_;rw [List.all_eq_false];exact⟨x,List.mem_of_getElem? hx,by rw [his];decide⟩
     rw [his]at HIx;clear hx his HA
     go_wp2_with fail
     refine Calls.mono HIx.out ?_;rintro e w2 ⟨rfl,hb2⟩;have HB2:Hid (Bl w w2):=HB1.out.trans ((HB.out.trans (hb2.mono HB.out.size)).mono HB1.out.size);clear hb2 HB HIx hc
     go_wp2_with fail
     go_ret
     exact⟨by rw [HE.out];rfl,HB2.out⟩
  ·have hkz:¬ (k:Int)<(xs.length:Int):=by omega
   obtain rfl:k=xs.length:=by omega
   have hkk:¬ (xs.length:Int)<(xs.length:Int):=by omega
   have HE:Hid ((xs.all fun r=>(N.at r).isSome)=true):=by
    show _=_;rw [List.all_eq_true];exact fun x hx=>HA.out x (by rw [List.take_length];exact hx)
   have HB2:Hid (Bl w wr):=HB1.out.trans (HB.out.mono HB1.out.size);clear HA HB
   go_wp2_with fail
   go_ret
   exact⟨by rw [HE.out];rfl,HB2.out⟩
end
end Go.Proofs.YthaliljaglldjaaGreat
