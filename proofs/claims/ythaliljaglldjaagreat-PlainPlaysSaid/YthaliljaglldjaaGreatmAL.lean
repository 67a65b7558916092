/- Part of the proof. -/
import Derived.Test.YthaliljaglldjaaGreatmAK
import Derived.StillTailTactics
namespace Go.Proofs.YthaliljaglldjaaGreat
set_option maxHeartbeats 16000000
set_option maxRecDepth 20000
open Go.RowKit Go.ChangeMaps Go.MapKept
section
theorem ry (w:World):Calls Tryz.prog 208 #[S_] w fun e w'=>e=.returned (S_)/\w=w':=by
 go_enter Tryz.func208,Tryz.ntmps208
 go_wp2_with fail
 go_loopw [3,4] (fun vo vi wr=>vo=.slice none 0 0/\vi=J 0/\wr=w) (fun _ _ _=>0)
 case atStart=>exact⟨rfl,rfl,rfl⟩
 case round =>
  obtain⟨rfl,rfl,rfl⟩:=hrel
  go_wp2_with fail
  go_ret
  exact⟨rfl,rfl⟩
theorem nw:bX 8 27 7 bp:=fun _ _ _ _ _=>rfl
theorem lX:bX 23 27 22 bp:=fun _ _ _ _ _=>rfl
theorem cF {w:World} {b:Nat} {t:Th} (hg:w.heap[b]? = some (.cells (aF t) 46 (0,0))):(bp (R_ b 2)).run Tryz.prog w=.ok (.value (.agg (au t.v t.vl))) w:=by
 have:=aY (w:=w) (b:=b) (o:=2) (cs:=(au t.v t.vl).toList) (fun j v hj=>by
  rw [ag hg]
  match j,hj with
  | 0,hj=>exact hj
  | 1,hj=>exact hj
  | 2,hj=>exact hj
  | 3,hj=>exact hj
  | 4,hj=>exact hj
  | j+5,hj=>exact absurd hj (by simp [au])) (by simp [au])
 rwa [Array.toArray_toList]at this
structure RoR (w:World) (N:Nat) (A:Array Value) (u:Value) (l:List Val) (rv:Value) (vl:List Val) (wr:World):Prop where
 bel:Bl w wr
 box:wr.heap[w.heap.size]? = some (.cells A 46 (0,0))
 res:∃ Z,wr.heap[w.heap.size+1]? = some (.cells Z 46 (0,0))/\Z.size=16
 row:RowV wr N u l
 el:SlAt wr (fun b=>w.heap.size+2≤b/\b<N) rv vl
 nn:w.heap.size+2≤N
 big:N≤wr.heap.size
 nil:l = []->u=.slice none 0 0
theorem RoR.below {w wr w':World} {N:Nat} {A:Array Value} {u rv:Value} {l vl:List Val} (h:RoR w N A u l rv vl wr) (hb:Bl wr w'):RoR w N A u l rv vl w' :=
 ⟨h.bel.trans (hb.mono h.bel.size),ae hb h.box,h.res.imp fun _ h=>⟨ae hb h.1,h.2⟩,h.row.below hb,h.el.on hb,h.nn,Nat.le_trans h.big hb.size,h.nil⟩
theorem RoR.more {w wr w':World} {N:Nat} {A:Array Value} {u u' rv:Value} {l vl:List Val} {y:Val} (h:RoR w N A u l rv vl wr) (hk:Keeps (fun b=>u.ownBlock=some b) wr w') (hr:RowV w' N u' (l ++ [y])):RoR w N A u' (l ++ [y]) rv vl w' :=
 ⟨h.bel.trans (hk.below h.bel.size fun b hb=>by have:=(h.row.own b hb).1;have:=h.nn;omega),hk.none h.box (fun e=>by have:=(h.row.own _ e).1;have:=h.nn;omega),h.res.imp fun _ h'=>⟨hk.none h'.1 (fun e=>by have:=(h.row.own _ e).1;have:=h.nn;omega),h'.2⟩,hr,
  h.el.keeps hk (fun b h1 h2=>by have:=(h.row.own b h1).1;omega),h.nn,Nat.le_trans h.big hk.size,fun e=>by simp at e⟩
theorem RoR.form {w wr:World} {N:Nat} {A:Array Value} {u rv:Value} {l vl:List Val} (h:RoR w N A u l rv vl wr):∃ p c,u=.slice p l.length c:=SlAt.form h.row.at
attribute [local go_sem ↓] nw lX aW in
theorem lN {w:World} {F:Nat->Prop} (t:Th) (h1:SlAt w F t.vl t.v.l) (h2:SlAt w F t.vals t.vs) (hc:t.code=.slice none 0 0) (hn:t.names=.slice none 0 0) (hd:bY 16 t.v) (hds:∀ x ∈ t.vs,bY 16 x) (hl:t.vs.length≤1000) :
 Calls Tryz.prog 113 #[.agg (aF t)] w fun e w'=>∃ vl' vals',e=.returned (.agg (aF { t with vl:=vl',vals:=vals' }))/\Bl w w'/\SlAt w' (fun b=>w.heap.size≤b) vl' t.v.l/\SlAt w' (fun b=>w.heap.size≤b) vals' t.vs/\(t.v.l = []->vl'=.slice none 0 0)/\(t.vs = []->vals'=.slice none 0 0):=by
 obtain⟨pv,cv,hv⟩:=h1.form;obtain⟨ps,cs,hvals⟩:=h2.form;obtain⟨k,h,⟨vk,vn,vstr,vl,vr⟩,raw,vs,vals,n,lo,tg,bi,s,fu,code,names⟩:=t;simp only at hv hvals h1 h2 hc hn hl hd hds;subst hv hvals hc hn;have hb0:Bl w ((w.alloc (.cells (aF ⟨k,h,⟨vk,vn,vstr,vl,vr⟩,.slice pv vl.length cv,vs,.slice ps vs.length cs,n,lo,tg,bi,s,fu,S_,S_⟩) 46)).alloc (.cells (wr 0 0 0 0 0 0 0 0 0 false) 46)):=((Below.refl _ w).alloc aH _).alloc (by simp) _;have HO:Hid _:=nK 16 ⟨vk,vn,vstr,vl,vr⟩ (.slice pv vl.length cv) _ F hd (h1.on hb0)
 have HB0:=(show Hid _ from And.intro hb0 (And.intro (aL w (.cells (aF ⟨k,h,⟨vk,vn,vstr,vl,vr⟩,.slice pv vl.length cv,vs,.slice ps vs.length cs,n,lo,tg,bi,s,fu,S_,S_⟩) 46) (.cells (wr 0 0 0 0 0 0 0 0 0 false) 46))
  (aK w (.cells (aF ⟨k,h,⟨vk,vn,vstr,vl,vr⟩,.slice pv vl.length cv,vs,.slice ps vs.length cs,n,lo,tg,bi,s,fu,S_,S_⟩) 46) (.cells (wr 0 0 0 0 0 0 0 0 0 false) 46))))
 have hld8:=cF HB0.out.2.1;have HS2:Hid (∀ w',Bl w w'->SlAt w' F (.slice ps vs.length cs) vs):=fun w' hb=>h2.on hb;have Hl:Hid (vs.length≤1000/\∀ x ∈ vs,bY 16 x):=⟨hl,hds⟩;clear h1 h2 hl hb0 hd hds;simp only [aF,au]at HO HB0 hld8 ⊢
 go_enter Tryz.func113,Tryz.ntmps113
 go_wp2_with fail
 refine Calls.mono HO.out ?_;rintro e w1 ⟨raw',rfl,hb1,hs1,hnil1⟩;obtain⟨pv',cv',hraw⟩:=hs1.form;simp only at hraw;subst hraw;have B1:=ae hb1 HB0.out.2.1;have R1:=ae hb1 HB0.out.2.2;have hz1:=aw R1;have hst0:=fE (i:=2) (vs:=#[U vk,J vn,.string vstr,.slice pv' vl.length cv',J vr]) B1 rfl (by simp) (by simp [go_sem])
 obtain⟨w2,hst,HX⟩:∃ w2,(bZ (R_ w.heap.size 2) (.agg (V_ vk vn vstr (.slice pv' vl.length cv') vr))).run Tryz.prog w1=.ok .skip w2 /\
  Hid (RoR w w2.heap.size (X_ k h vk vn vstr (.slice pv' vl.length cv') vr (.slice ps vs.length cs) n lo tg bi s fu) (S_) [] (.slice pv' vl.length cv') vl w2/\(vl = []->Value.slice pv' vl.length cv'=.slice none 0 0)):=by
  refine⟨_,hst0,⟨Below.setRow (HB0.out.1.trans (hb1.mono HB0.out.1.size)) aH _,ah B1,⟨_,(aj _ _ _ _ (by omega)).trans R1,rfl⟩,RowV.nil _ _,?_,by simp [World.setRow];omega,aH,fun _=>rfl⟩,hnil1⟩;have h1:SlAt w1 (fun b=>w.heap.size+2≤b/\b<w1.heap.size) (.slice pv' vl.length cv') vl:=hs1.lt.mono fun b hb=>⟨by have:=hb.1;simp at this;omega,hb.2⟩;exact h1.of_blocks (fun b hb=>aj _ _ _ _ (by omega)) (fun b hb=>⟨hb.1,by simpa [World.setRow]using hb.2⟩)
 clear hst0 hs1 hb1 B1 R1 hz1 HO HB0;simp only [au]
 go_upto_region 4 with fail
 clear hst hld8;obtain⟨N,hN⟩:∃ N,N=w2.heap.size:=⟨_,rfl⟩;rw [<- hN]at HX;clear hN;obtain⟨A,hA⟩:∃ A:Array Value,A=#[.int .u8 k,.int .i64 h,.int .u8 vk,.int .i64 vn,.string vstr,.slice pv' vl.length cv',.int .i64 vr,.slice ps vs.length cs,.int .i64 n,.int .i64 lo,.int .i64 tg,.int .i64 bi,.int .u8 s,.bool fu,.slice none 0 0,.slice none 0 0]:=⟨_,rfl⟩;have HA:Hid (A=_):=hA;rw [<- hA]at HX;have H1:Hid (RoR w N A (S_) [] (.slice pv' vl.length cv') vl w2):=HX.out.1;have Hnil:Hid (vl = []->Value.slice pv' vl.length cv'=.slice none 0 0):=HX.out.2;clear hA HX hnil1
 go_loopw [3,4] (fun vu vi wr=>∃ i:Nat,vi=J i/\i≤vs.length/\Hid (RoR w N A vu (vs.take i) (.slice pv' vl.length cv') vl wr)) (fun _ vi _=>vs.length - (intOf vi).toNat)
 case atStart=>exact⟨0,rfl,Nat.zero_le _,H1.out⟩
 case round =>
  clear H1;obtain⟨i,rfl,hi,HR⟩:=hrel;have c7:wr.cell? ⟨w.heap.size,7,none⟩=some (.slice ps vs.length cs):=by rw [ag HR.out.box,HA.out];rfl
  by_cases hil:i<vs.length
  ·have hiz:(i:Int)<(vs.length:Int):=by omega
   obtain⟨y,hy⟩:∃ y,vs[i]? = some y:=⟨_,List.getElem?_eq_getElem hil⟩;obtain⟨b,o,cq,raw,hpe,hrg,hlt,-,hSx⟩:=(HS2.out wr HR.out.bel).range hy;have hpa:ps=some ⟨b,o,none⟩:=by injection hpe
   subst hpa;have HNt:Hid (vs.take (i+1)=vs.take i ++ [y]):=by show _=_;rw [List.take_add_one,hy];rfl
   have HC:Hid _:=nK 16 y raw wr F (Hl.out.2 y (List.mem_of_getElem? hy)) hSx;obtain⟨yk,yn,ys,yl,yr⟩:=y;obtain⟨pa2,c2,rfl⟩:=hSx.form;have hld0:=aY hrg rfl;have hld:(bp (R_ b (o+i * 5))).run Tryz.prog wr=.ok (.value (.agg (V_ yk yn ys (.slice pa2 yl.length c2) yr))) wr:=hld0;have hwi:wrap64 ((i:Int)+1)=(i:Int)+1:=by have:=Hl.out.1;unfold wrap64;omega
   simp only [au]at HC;clear hld0 hy hrg hSx hlt hpe
   go_wp2_with fail
   refine Calls.mono HC.out ?_;rintro e w5 ⟨raw',rfl,hb5,hs5,-⟩;obtain⟨pr,cr,rfl⟩:=hs5.form;have HR5:Hid _:=HR.out.below hb5;have HY:Hid (SlAt w5 (fun b=>N≤b/\u3.ownBlock≠some b) (.slice pr yl.length cr) yl):=hs5.mono fun z hz=>⟨by have:=HR.out.big;omega,fun e=>by have:=(HR.out.row.own z e).2;omega⟩;have HRW:Hid (RowV w5 N u3 (vs.take i)):=HR5.out.row;have HNn:Hid (((vs.take i).length:Int)≤1000):=by show _≤_;have:=Hl.out.1;rw [List.length_take];omega
   have HBs:Hid (N≤w5.heap.size):=HR5.out.big;clear hb5 hs5 HR HC hld c7;simp only [au]
   go_wp2_with (at_builtin;refine hY rfl _ _ rfl N u3 (vs.take i) rfl HRW ⟨yk,yn,ys,yl,yr⟩ (.slice pr yl.length cr) HY rfl HNn HBs ?_;intro v' w7 hrow hk
                have HR7:Hid (RoR w N A v' (vs.take (i+1)) (.slice pv' vl.length cv') vl w7):=HNt.out ▸ HR5.out.more hk.out hrow.out
                clear hrow hk HR5 HRW HY HBs HNn)
   go_roundw
   case rel=>exact⟨i+1,by go_num,by omega,HR7.out⟩
   case measure=>rw [hwi];simp [intOf];omega
  ·have hiz:¬ (i:Int)<(vs.length:Int):=by omega
   obtain rfl:i=vs.length:=by omega
   have hkk:¬ (vs.length:Int)<(vs.length:Int):=by omega
   have HRx:=HR.out;rw [List.take_length]at HRx;obtain⟨p8,c8,rfl⟩:=HRx.form;have HRo:Hid (RoR w N A (.slice p8 vs.length c8) vs (.slice pv' vl.length cv') vl wr):=HRx;have c14:wr.cell? ⟨w.heap.size,14,none⟩=some (.slice none 0 0):=by rw [ag HRx.box,HA.out];rfl
   have c15:wr.cell? ⟨w.heap.size,15,none⟩=some (.slice none 0 0):=by rw [ag HRx.box,HA.out];rfl
   have g7:=av HRx.box 7;have g14:=av HRx.box 14;have g15:=av HRx.box 15;clear HRx HR
   go_upto_region 8 with fail
   clear c7 g7;have hB1:(wr.setCell ⟨w.heap.size,7,none⟩ (.slice p8 vs.length c8)).heap[w.heap.size]? = some (.cells (A.setIfInBounds 7 (.slice p8 vs.length c8)) 46 (0,0)):=aA HRo.out.box 7 _;have hk1:Keeps (fun b=>b=w.heap.size) wr (wr.setCell ⟨w.heap.size,7,none⟩ (.slice p8 vs.length c8)):=Keeps.setCell _ _ _ rfl;have HK1:Hid _:=And.intro hB1 hk1;clear hB1 hk1 c14 c15 g14 g15;revert HK1;generalize wr.setCell _ _=wa;intro HK1;have c14:wa.cell? ⟨w.heap.size,14,none⟩=some (.slice none 0 0):=by rw [ag HK1.out.1,HA.out];rfl
   have g14:=av HK1.out.1 14
   go_wp2_with fail
   refine(ry wa).mono ?_;rintro e _ ⟨rfl,rfl⟩
   go_upto_region 11 with fail
   clear c14 g14;have hB2:(wa.setCell ⟨w.heap.size,14,none⟩ (S_)).heap[w.heap.size]? = some (.cells ((A.setIfInBounds 7 (.slice p8 vs.length c8)).setIfInBounds 14 (S_)) 46 (0,0)):=aA HK1.out.1 14 _;have hk2:Keeps (fun b=>b=w.heap.size) wr (wa.setCell ⟨w.heap.size,14,none⟩ (S_)):=HK1.out.2.trans (Keeps.setCell (S:=fun b=>b=w.heap.size) _ _ _ rfl) (fun _ _ h=>h) (fun _ _ h=>h);have HK2:Hid _:=And.intro hB2 hk2;clear hB2 hk2 HK1;revert HK2;generalize wa.setCell _ _=wb;intro HK2;clear wa
   go_loopw [5,6] (fun vo vi wx=>vo=.slice none 0 0/\vi=J 0/\wb=wx) (fun _ _ _=>0)
   case atStart=>exact⟨rfl,rfl,rfl⟩
   case round =>
    obtain⟨rfl,rfl,rfl⟩:=hrel;have c15:wb.cell? ⟨w.heap.size,15,none⟩=some (.slice none 0 0):=by rw [ag HK2.out.1,HA.out];rfl
    have g15:=av HK2.out.1 15
    go_upto_region 15 with fail
    clear c15 g15;have hB3:(wb.setCell ⟨w.heap.size,15,none⟩ (S_)).heap[w.heap.size]? = some (.cells (((A.setIfInBounds 7 (.slice p8 vs.length c8)).setIfInBounds 14 (S_)).setIfInBounds 15 (S_)) 46 (0,0)):=aA HK2.out.1 15 _;have hk3:Keeps (fun b=>b=w.heap.size) wr (wb.setCell ⟨w.heap.size,15,none⟩ (S_)):=HK2.out.2.trans (Keeps.setCell (S:=fun b=>b=w.heap.size) _ _ _ rfl) (fun _ _ h=>h) (fun _ _ h=>h);have HK3:Hid _:=And.intro hB3 hk3;clear hB3 hk3 HK2;revert HK3;generalize wb.setCell _ _=wc;intro HK3;obtain⟨Z,hZ,hZ16⟩:=HRo.out.res;have hZ3:=HK3.out.2.none hZ (show ¬ w.heap.size+1=w.heap.size by omega);have hg3:wc.heap[w.heap.size]? = some (.cells (aF ⟨k,h,⟨vk,vn,vstr,vl,vr⟩,.slice pv' vl.length cv',vs,.slice p8 vs.length c8,n,lo,tg,bi,s,fu,S_,S_⟩) 46 (0,0)):=by rw [HK3.out.1,HA.out];rfl
    have hld:=aD hg3 rfl;have hst:=aS (c':=aF ⟨k,h,⟨vk,vn,vstr,vl,vr⟩,.slice pv' vl.length cv',vs,.slice p8 vs.length c8,n,lo,tg,bi,s,fu,S_,S_⟩) hZ3 hZ16 rfl (by simp [aF,go_sem])
    have HF:Hid (∀ w9,w9=wc.setRow (w.heap.size+1) (aF ⟨k,h,⟨vk,vn,vstr,vl,vr⟩,.slice pv' vl.length cv',vs,.slice p8 vs.length c8,n,lo,tg,bi,s,fu,S_,S_⟩) ->
     w9.heap[w.heap.size+1]? = some (.cells (aF ⟨k,h,⟨vk,vn,vstr,vl,vr⟩,.slice pv' vl.length cv',vs,.slice p8 vs.length c8,n,lo,tg,bi,s,fu,S_,S_⟩) 46 (0,0))/\Bl w w9/\SlAt w9 (fun b=>w.heap.size≤b) (.slice pv' vl.length cv') vl/\SlAt w9 (fun b=>w.heap.size≤b) (.slice p8 vs.length c8) vs):=by
     intro w9 e;subst e
     have hk:Keeps (fun b=>b=w.heap.size\/b=w.heap.size+1) wr (wc.setRow (w.heap.size+1) (aF ⟨k,h,⟨vk,vn,vstr,vl,vr⟩,.slice pv' vl.length cv',vs,.slice p8 vs.length c8,n,lo,tg,bi,s,fu,S_,S_⟩)) :=
      HK3.out.2.trans (aQ _ _ _) (fun _ _ h=>.inl h) (fun _ _ h=>.inr h)
     refine⟨ah hZ3,HRo.out.bel.trans (hk.below HRo.out.bel.size fun b hb=>by rcases hb with hb | hb <;> omega),?_,?_⟩
     ·exact(HRo.out.el.keeps hk (fun b h1 h2=>by rcases h1 with h1 | h1 <;> omega)).mono fun b hb=>by omega
     ·exact(HRo.out.row.at.keeps hk (fun b h1 h2=>by have:=HRo.out.nn;rcases h1 with h1 | h1 <;> omega)).mono fun b hb=>by have:=HRo.out.nn;omega
    have HN2:Hid (vs = []->Value.slice p8 vs.length c8=.slice none 0 0):=HRo.out.nil;clear hg3 hZ3 hZ HK3 HRo;simp only [aF]at hld hst HF
    go_wp2_with fail
    exact bodyPost_ret (bz rfl _ _ _ _ _ rfl (HF.out _ rfl).1 rfl) rfl ⟨_,_,rfl,(HF.out _ rfl).2.1,(HF.out _ rfl).2.2.1,(HF.out _ rfl).2.2.2,Hnil.out,HN2.out⟩
end
section
theorem tL {s:ByteArray} (h:(s == ⟨#[]⟩)=true):s=⟨#[]⟩:=by
 rcases s with ⟨⟨l⟩⟩
 cases l with
 | nil=>rfl
 | cons x l=>exact absurd h (by intro h;cases h)
theorem ek {n r:Int} {s:ByteArray} {len:Nat} (h:dC n s r len=true):n=0/\s=⟨#[]⟩/\r=0/\len=0:=by
 simp only [dC,Bool.and_eq_true,beq_iff_eq]at h;exact⟨h.1,tL h.2.1,h.2.2.1,h.2.2.2⟩
theorem dD {n p q:Nat} {v:Val} (h:aP n p v=some q):∃ p',p=p'+1 /\
 ((v.l = []/\q=p'/\(v.kind=0/\v.n=0/\v.s=⟨#[]⟩/\v.r=0\/v.kind=1/\v.s=⟨#[]⟩/\v.r=0\/v.kind=2/\v.n=0/\v.r=0/\¬ v.s.size > 256\/v.kind=4/\v.n=0/\v.s=⟨#[]⟩/\¬ v.r<1)) \/
   (∃ m,n=m+1/\v.kind=3/\v.n=0/\v.s=⟨#[]⟩/\v.r=0/\¬ v.l.length > p'/\bc m p' v.l=some q)):=by
 cases p with
 | zero=>cases n <;> cases h
 | succ p =>
   refine⟨p,rfl,?_⟩
   by_cases h0:v.kind=0
   ·rw [sq h0]at h;split at h
    ·obtain⟨a,b,c,d⟩:=ek (by assumption)
     cases h
     exact .inl ⟨List.length_eq_zero_iff.1 d,rfl,.inl ⟨h0,a,b,c⟩⟩
    ·cases h
   by_cases h1:v.kind=1
   ·rw [sw h1]at h;split at h
    ·obtain⟨a,b,c,d⟩:=ek (by assumption)
     cases h
     exact .inl ⟨List.length_eq_zero_iff.1 d,rfl,.inr (.inl ⟨h1,b,c⟩)⟩
    ·cases h
   by_cases h2:v.kind=2
   ·rw [so h2]at h;split at h
    ·cases h
    ·rename_i hs
     split at h
     ·obtain⟨a,b,c,d⟩:=ek (by assumption)
      cases h
      exact .inl ⟨List.length_eq_zero_iff.1 d,rfl,.inr (.inr (.inl ⟨h2,a,c,hs⟩))⟩
     ·cases h
   by_cases h4:v.kind=4
   ·rw [sr h4]at h;split at h
    ·cases h
    ·rename_i hs
     split at h
     ·obtain⟨a,b,c,d⟩:=ek (by assumption)
      cases h
      exact .inl ⟨List.length_eq_zero_iff.1 d,rfl,.inr (.inr (.inr ⟨h4,a,b,hs⟩))⟩
     ·cases h
   by_cases h3:v.kind=3
   ·cases n with
    | zero=>rw [uG h3]at h;cases h
    | succ m =>
      by_cases hl:v.l.length > p
      ·rw [nh h3 hl]at h;cases h
      ·rw [uI h3 hl]at h;split at h
       ·cases h
       ·rename_i q' hq
        split at h
        ·obtain⟨a,b,c,d⟩:=ek (by assumption)
         cases h
         exact .inr ⟨m,rfl,h3,a,b,c,hl,hq⟩
        ·cases h
   rw [wS h0 h1 h2 h3 h4]at h
   cases h
def P4:Nat->Val->Nat
 | 0,_=>513
 | f+1,v=>v.l.foldl (fun n x=>if n≤512 then n+P4 f x else n) 1
def D4:Nat->Val->Nat
 | 0,v=>if v.kind=3 then 1 else 0
 | n+1,v=>if v.kind=3 then v.l.foldl (fun d x=>max d (D4 n x)) 0+1 else 0
def aO (v:Val):Bool :=
 if v.kind=0 then v.n==0 && (v.s == ⟨#[]⟩ && (v.l.length==0 && v.r==0))
 else if v.kind=1 then v.s == ⟨#[]⟩ && (v.l.length==0 && v.r==0)
 else if v.kind=2 then v.n==0 && (decide (v.s.size≤256) && (v.l.length==0 && v.r==0))
 else if v.kind=3 then v.n==0 && (v.s == ⟨#[]⟩ && v.r==0)
 else if v.kind=4 then v.n==0 && (v.s == ⟨#[]⟩ && (v.l.length==0 && decide (v.r ≥ 1)))
 else false
def F4:Nat->Val->Bool
 | 0,v=>aO v
 | n+1,v=>v.l.all (F4 n) && aO v
def S4:Nat->Val->Nat
 | 0,_=>1
 | n+1,v=>1+(v.l.map (S4 n)).sum
theorem xM:∀ f v,1≤P4 f v
 | 0,_=>by simp [P4]
 | f+1,v=>by
   have:∀ (l:List Val) (n:Nat),n≤l.foldl (fun n x=>if n≤512 then n+P4 f x else n) n:=by
    intro l
    induction l with
    | nil=>intro n;exact aH
    | cons x l ih =>
      intro n;rw [List.foldl_cons];refine Nat.le_trans ?_ (ih _);split <;> omega
   exact this _ _
theorem wT:∀ f v,P4 f v≤513 * (f+1)
 | 0,_=>by simp [P4]
 | f+1,v=>by
   have:∀ (l:List Val) (n:Nat),n≤513 * (f+2)->l.foldl (fun n x=>if n≤512 then n+P4 f x else n) n≤513 * (f+2):=by
    intro l
    induction l with
    | nil=>intro n h;exact h
    | cons x l ih =>
      intro n h;rw [List.foldl_cons];refine ih _ ?_;have:=wT f x;split <;> omega
   exact this _ _ (by omega)
def gy (f:Nat) (l:List Val) (n:Nat):Nat:=l.foldl (fun n x=>if n≤512 then n+P4 f x else n) n
theorem jw {f:Nat} {l:List Val} {n:Nat} (h:512<n):gy f l n=n:=by
 induction l with
 | nil=>rfl
 | cons x l ih =>
   show gy f l (if n≤512 then n+P4 f x else n)=n
   rw [if_neg (by omega)];exact ih
theorem uu {f:Nat} {l:List Val} {i:Nat} {x:Val} (hx:l[i]? = some x) (n:Nat):gy f (l.take (i+1)) n=if gy f (l.take i) n≤512 then gy f (l.take i) n+P4 f x else gy f (l.take i) n:=by
 rw [List.take_add_one,hx];show (l.take i ++ [x]).foldl _ n=_;rw [List.foldl_append];rfl
theorem iQ {f:Nat} {g:Val->Nat}:∀ {l:List Val} {n:Nat},(∀ x ∈ l,P4 f x≤512->P4 f x=g x)->gy f l n≤512->gy f l n=n+(l.map g).sum/\∀ x ∈ l,P4 f x≤512
 | [],n,_,_=>⟨rfl,fun x hx=>by cases hx⟩
 | x :: l,n,hg,h=>by
   have h:gy f l (if n≤512 then n+P4 f x else n)≤512:=h
   have hn:n≤512:=by
    refine Decidable.byContradiction fun hn=>?_;rw [if_neg hn,jw (by omega)]at h;omega
   rw [if_pos hn]at h
   have hx:P4 f x≤512:=by
    refine Decidable.byContradiction fun hx=>?_;rw [jw (by omega)]at h;omega
   obtain⟨h1,h2⟩:=iQ (fun y hy=>hg y (List.mem_cons_of_mem _ hy)) h;refine⟨?_,fun y hy=>?_⟩
   ·show gy f l (if n≤512 then n+P4 f x else n)=_
    rw [if_pos hn,h1,hg x (List.mem_cons_self ..) hx,List.map_cons,List.sum_cons];omega
   ·rcases List.mem_cons.1 hy with rfl | hy
    ·exact hx
    ·exact h2 y hy
theorem tE:∀ n v,1≤S4 n v
 | 0,_=>aH
 | n+1,v=>by simp [S4]
theorem uc {n:Nat} {l:List Val}:l.length≤(l.map (S4 n)).sum:=by
 induction l with
 | nil=>exact aH
 | cons x l ih =>
   rw [List.map_cons,List.sum_cons,List.length_cons];have:=tE n x;omega
theorem lG:∀ f v,P4 (f+1) v≤512->P4 (f+1) v=S4 f v/\bY f v
 | 0,v,h=>by
   have hl:v.l = []:=by
    refine Decidable.byContradiction fun hl=>?_;obtain⟨x,l,e⟩:=List.exists_cons_of_ne_nil hl;have h:gy 0 v.l 1≤512:=h;rw [e]at h;have h2:=(iQ (g:=fun _=>513) (fun x _ _=>rfl) h).2 x (List.mem_cons_self ..);exact absurd h2 (by simp [P4])
   refine⟨?_,hl⟩;show gy 0 v.l 1=1;rw [hl];rfl
 | f+1,v,h=>by
   have h':gy (f+1) v.l 1≤512:=h;obtain⟨h1,h2⟩:=iQ (g:=S4 f) (fun x _ hx=>(lG f x hx).1) h';refine⟨h1,?_,fun x hx=>(lG f x (h2 x hx)).2⟩;have:=uc (n:=f) (l:=v.l);omega
theorem AA {f:Nat} {g:Val->Nat}:∀ {l:List Val} {n:Nat},(∀ x ∈ l,g x≤512->P4 f x=g x)->n+(l.map g).sum≤512->gy f l n=n+(l.map g).sum
 | [],n,_,_=>rfl
 | x :: l,n,hg,h=>by
   rw [List.map_cons,List.sum_cons]at h ⊢;show gy f l (if n≤512 then n+P4 f x else n)=_
   rw [if_pos (by omega),hg x (List.mem_cons_self ..) (by omega),AA (fun y hy=>hg y (List.mem_cons_of_mem _ hy)) (by omega)];omega
theorem uf:∀ f v,bY f v->S4 f v≤512->P4 (f+1) v=S4 f v
 | 0,v,hd,_=>by
   show gy 0 v.l 1=1;rw [show v.l = []from hd];rfl
 | f+1,v,hd,h=>AA (g:=S4 f) (fun x hx hle=>uf f x (hd.2 x hx) hle) h
theorem dd {g:Val->Nat} {b:Nat}:∀ {l:List Val} {a:Nat},a≤b->(∀ x ∈ l,g x≤b)->l.foldl (fun d x=>max d (g x)) a≤b
 | [],_,h,_=>h
 | x :: l,a,h,hg=>by
   rw [List.foldl_cons];exact dd (Nat.max_le.2 ⟨h,hg x (List.mem_cons_self ..)⟩) (fun y hy=>hg y (List.mem_cons_of_mem _ hy))
theorem gn {g:Val->Nat}:∀ {l:List Val} {a:Nat},a≤l.foldl (fun d x=>max d (g x)) a/\∀ x ∈ l,g x≤l.foldl (fun d x=>max d (g x)) a
 | [],a=>⟨aH,fun x hx=>by cases hx⟩
 | x :: l,a=>by
   rw [List.foldl_cons];have h:=gn (g:=g) (l:=l) (a:=max a (g x));refine⟨Nat.le_trans (Nat.le_max_left _ _) h.1,fun y hy=>?_⟩
   rcases List.mem_cons.1 hy with rfl | hy
   ·exact Nat.le_trans (Nat.le_max_right _ _) h.1
   ·exact h.2 y hy
theorem bg {s:ByteArray}:(s==(⟨#[]⟩:ByteArray))=true ↔ s=⟨#[]⟩:=by
 constructor
 ·intro h
  rcases s with ⟨⟨l⟩⟩
  cases l with
  | nil=>rfl
  | cons x l=>exact absurd h (by intro h;cases h)
 ·rintro rfl;rfl
theorem chk_iff {n r:Int} {s:ByteArray} {len:Nat}:dC n s r len=true ↔ n=0/\s=⟨#[]⟩/\r=0/\len=0:=by
 simp only [dC,Bool.and_eq_true,beq_iff_eq,bg]
theorem field4_iff {v:Val}:aO v=true ↔
 (v.kind=0/\v.n=0/\v.s=⟨#[]⟩/\v.l = []/\v.r=0)\/(v.kind=1/\v.s=⟨#[]⟩/\v.l = []/\v.r=0)\/(v.kind=2/\v.n=0/\v.s.size≤256/\v.l = []/\v.r=0) \/
 (v.kind=3/\v.n=0/\v.s=⟨#[]⟩/\v.r=0)\/(v.kind=4/\v.n=0/\v.s=⟨#[]⟩/\v.l = []/\v.r ≥ 1):=by
 unfold aO
 by_cases h0:v.kind=0
 ·simp [h0,bg]
 by_cases h1:v.kind=1
 ·simp [h1,bg]
 by_cases h2:v.kind=2
 ·simp [h2]
 by_cases h3:v.kind=3
 ·simp [h3,bg]
 by_cases h4:v.kind=4
 ·simp [h4,bg]
 simp [h0,h1,h2,h3,h4]
theorem kK {v:Val} (hl:v.l = []) (hk:v.kind=0/\v.n=0/\v.s=⟨#[]⟩/\v.r=0\/v.kind=1/\v.s=⟨#[]⟩/\v.r=0\/v.kind=2/\v.n=0/\v.r=0/\¬ v.s.size > 256\/v.kind=4/\v.n=0/\v.s=⟨#[]⟩/\¬ v.r<1):aO v=true:=by
 rcases hk with ⟨a,b,c,d⟩ | ⟨a,b,c⟩ | ⟨a,b,c,d⟩ | ⟨a,b,c,d⟩
 ·exact field4_iff.2 (.inl ⟨a,b,c,hl,d⟩)
 ·exact field4_iff.2 (.inr (.inl ⟨a,b,hl,c⟩))
 ·exact field4_iff.2 (.inr (.inr (.inl ⟨a,b,by omega,hl,c⟩)))
 ·exact field4_iff.2 (.inr (.inr (.inr (.inr ⟨a,b,c,hl,by omega⟩))))
theorem nS {n:Nat} {v:Val} (h:F4 n v=true):aO v=true:=by
 cases n with
 | zero=>exact h
 | succ n =>
   simp only [F4,Bool.and_eq_true]at h;exact h.2
theorem qK {n:Nat} {v:Val} (hl:v.l = []):F4 n v=aO v:=by
 cases n with
 | zero=>rfl
 | succ n=>simp [F4,hl]
theorem cR {n:Nat} {v:Val} (hl:v.l = []):S4 n v=1:=by
 cases n with
 | zero=>rfl
 | succ n=>simp [S4,hl]
theorem qG {n:Nat} {v:Val} (h:v.kind≠3):D4 n v=0:=by
 cases n <;> simp [D4,h]
theorem uk:∀ n p v q,aP n p v=some q->F4 n v=true/\D4 n v≤n/\q+S4 n v=p:=by
 intro n
 induction n with
 | zero =>
   intro p v q h;obtain⟨p',rfl,⟨hl,rfl,hk⟩ | ⟨m,e,-⟩⟩:=dD h
   rotate_left
   ·cases e
   refine⟨?_,?_,?_⟩
   ·rw [qK hl];exact kK hl hk
   ·rw [qG (by omega)];exact aH
   ·rw [cR hl]
 | succ n ih =>
   intro p v q h;obtain⟨p',rfl,⟨hl,rfl,hk⟩ | ⟨m,e,h3,hn,hs,hr,hlen,hL⟩⟩:=dD h
   ·refine⟨?_,?_,?_⟩
    ·rw [qK hl];exact kK hl hk
    ·rw [qG (by omega)];exact Nat.zero_le _
    ·rw [cR hl]
   ·cases e
    have key:∀ (l:List Val) (p q:Nat),bc n p l=some q->(∀ x ∈ l,F4 n x=true/\D4 n x≤n)/\q+(l.map (S4 n)).sum=p:=by
     intro l
     induction l with
     | nil =>
       intro p q h;simp [bc]at h;exact⟨fun x hx=>(by cases hx),by simp [h]⟩
     | cons x l ihl =>
       intro p q h;simp only [bc,List.foldlM_cons,bind,Option.bind_eq_some_iff]at h;obtain⟨a,h1,h2⟩:=h;obtain⟨g1,g2,g3⟩:=ih _ _ _ h1;obtain⟨k1,k2⟩:=ihl a q h2;refine⟨fun y hy=>?_,?_⟩
       ·rcases List.mem_cons.1 hy with rfl | hy
        ·exact⟨g1,g2⟩
        ·exact k1 y hy
       ·rw [List.map_cons,List.sum_cons];omega
    obtain⟨k1,k2⟩:=key _ _ _ hL;refine⟨?_,?_,?_⟩
    ·simp only [F4,Bool.and_eq_true,List.all_eq_true];exact⟨fun x hx=>(k1 x hx).1,field4_iff.2 (.inr (.inr (.inr (.inl ⟨h3,hn,hs,hr⟩))))⟩
    ·simp only [D4,h3,if_true];have:=dd (g:=D4 n) (l:=v.l) (Nat.zero_le n) (fun x hx=>(k1 x hx).2);omega
    ·simp only [S4];omega
theorem us:∀ n p v,F4 n v=true->D4 n v≤n->S4 n v≤p->aP n p v=some (p - S4 n v):=by
 intro n
 induction n with
 | zero =>
   intro p v hF hD hS;obtain⟨p,rfl⟩:∃ p',p=p'+1:=⟨p - 1,by have:S4 0 v=1:=rfl;omega⟩
   rcases field4_iff.1 (nS hF)with ⟨hk,a,b,c,d⟩ | ⟨hk,b,c,d⟩ | ⟨hk,a,b,c,d⟩ | ⟨hk,-⟩ | ⟨hk,a,b,c,d⟩
   ·rw [sq hk,if_pos (chk_iff.2 ⟨a,b,d,by rw [c];rfl⟩),cR c];rfl
   ·rw [sw hk,if_pos (chk_iff.2 ⟨rfl,b,d,by rw [c];rfl⟩),cR c];rfl
   ·rw [so hk,if_neg (by omega),if_pos (chk_iff.2 ⟨a,rfl,d,by rw [c];rfl⟩),cR c];rfl
   ·simp [D4,hk]at hD
   ·rw [sr hk,if_neg (by omega),if_pos (chk_iff.2 ⟨a,b,rfl,by rw [c];rfl⟩),cR c];rfl
 | succ n ih =>
   intro p v hF hD hS;obtain⟨p,rfl⟩:∃ p',p=p'+1:=⟨p - 1,by have:=tE (n+1) v;omega⟩
   rcases field4_iff.1 (nS hF)with ⟨hk,a,b,c,d⟩ | ⟨hk,b,c,d⟩ | ⟨hk,a,b,c,d⟩ | ⟨hk,a,b,d⟩ | ⟨hk,a,b,c,d⟩
   ·rw [sq hk,if_pos (chk_iff.2 ⟨a,b,d,by rw [c];rfl⟩),cR c];rfl
   ·rw [sw hk,if_pos (chk_iff.2 ⟨rfl,b,d,by rw [c];rfl⟩),cR c];rfl
   ·rw [so hk,if_neg (by omega),if_pos (chk_iff.2 ⟨a,rfl,d,by rw [c];rfl⟩),cR c];rfl
   ·have hlen:=uc (n:=n) (l:=v.l);have hS':1+(v.l.map (S4 n)).sum≤p+1:=hS
    have key:∀ (l:List Val) (p:Nat),(∀ x ∈ l,F4 n x=true/\D4 n x≤n)->(l.map (S4 n)).sum≤p->bc n p l=some (p - (l.map (S4 n)).sum):=by
     intro l
     induction l with
     | nil=>intro p _ _;rfl
     | cons x l ihl =>
       intro p hx hs;rw [List.map_cons,List.sum_cons]at hs ⊢;simp only [bc,List.foldlM_cons,bind,Option.bind_eq_some_iff];refine⟨_,ih p x (hx x (List.mem_cons_self ..)).1 (hx x (List.mem_cons_self ..)).2 (by omega),?_⟩;have:=ihl (p - S4 n x) (fun y hy=>hx y (List.mem_cons_of_mem _ hy)) (by omega);rw [Nat.sub_sub]at this;exact this
    have hF':(∀ x ∈ v.l,F4 n x=true):=by
     simp only [F4,Bool.and_eq_true,List.all_eq_true]at hF;exact hF.1
    simp only [D4,hk,if_true]at hD;have hD':=(gn (g:=D4 n) (l:=v.l) (a:=0)).2;rw [uI hk (by omega),key v.l p (fun x hx=>⟨hF' x hx,by have:=hD' x hx;omega⟩) (by omega)];simp only;rw [if_pos (chk_iff.2 ⟨a,b,d,rfl⟩)]
    congr 1
    show p - _=p+1 - (1+_);omega
   ·rw [sr hk,if_neg (by omega),if_pos (chk_iff.2 ⟨a,b,rfl,by rw [c];rfl⟩),cR c];rfl
theorem zN (v:Val):(decide (P4 17 v≤512) && (decide (D4 16 v≤16) && F4 16 v))=ay v:=by
 unfold ay
 cases h:aP 16 512 v with
 | some q =>
   obtain⟨h1,h2,h3⟩:=uk _ _ _ _ h;have hd:=fN (by omega) h;have hp:P4 17 v=S4 16 v:=uf 16 v hd (by omega);rw [Option.isSome_some,hp];simp only [Bool.and_eq_true,decide_eq_true_eq];exact⟨by omega,h2,h1⟩
 | none =>
   rw [Option.isSome_none,Bool.eq_false_iff];intro hc;simp only [Bool.and_eq_true,decide_eq_true_eq]at hc;obtain⟨h1,h2,h3⟩:=hc;rw [us 16 512 v h3 h2 (by have e:P4 17 v=S4 16 v:=(lG 16 v h1).1;omega)]at h
   cases h
end
section
def bF (w:World) (base:Nat) (u:Value) (l:List Int):Prop:=w.ownsRow base 25 1 u l.length (l.map (Value.int .i64))
theorem go:bX 23 27 22 bp:=fun _ _ _ _ _=>rfl
def Ag (f n:Nat):Prop:=∀ (v:Val) (p q:Nat) (raw:Value) (w:World) (F:Nat->Prop),p≤512->aP n p v=some q->SlAt w F raw v.l ->
 Calls Tryz.prog f #[.agg (au v raw)] w fun e w'=>∃ u,e=.returned u/\bF w' w.heap.size u (aN n v)/\Bl w w'
structure R7L (w:World) (A:Array Value) (u:Value) (l:List Int) (wr:World):Prop where
 bel:Bl w wr
 box:wr.heap[w.heap.size]? = some (.cells A 27 (0,0))
 row:bF wr (w.heap.size+1) u l
theorem dj {w w':World} {base:Nat} {u:Value} {l:List Int} (h:bF w base u l) (hb:Bl w w'):bF w' base u l:=by
 obtain⟨h1,h2⟩:=h;exact⟨h1,h2.imp id fun⟨g,cap,cur,e1,e2,e3,e4⟩=>⟨g,cap,cur,e1,e2,ae hb e3,e4⟩⟩
theorem dy {w:World} {base base':Nat} {u:Value} {l:List Int} (h:bF w base u l) (hb:base'≤base):bF w base' u l:=by
 obtain⟨h1,h2⟩:=h;exact⟨h1,h2.imp id fun⟨g,cap,cur,e1,e2,e3,e4⟩=>⟨g,cap,cur,e1,Nat.le_trans hb e2,e3,e4⟩⟩
attribute [local go_sem ↓] go in
theorem jg {f:Nat} (hf:f=241\/f=243) (n:Nat) (ih:∀ m,n=m+1->Ag f m):Ag f n:=by
 intro v p q raw w F hp hT hS;obtain⟨p',rfl,hF⟩:=dD hT;obtain⟨kind,nn,s,l,r⟩:=v;obtain⟨pa,c,rfl⟩:=hS.form;simp only at hS hF;have H0:Hid (R7L w (V_ kind nn s (.slice pa l.length c) r) (S_) [] (w.alloc (.cells (V_ kind nn s (.slice pa l.length c) r) 27))):=⟨(Below.refl _ w).alloc aH _,ai _ _,World.ownsRow_nil _ _ _ _⟩
 by_cases h4:kind=4
 ·have hl:l = []:=by
   rcases hF with ⟨hl,-⟩ | ⟨m,-,h3,-⟩
   ·exact hl
   ·omega
  subst h4 hl;have HE:Hid (aN n ⟨4,nn,s,[],r⟩ = [r]):=by cases n <;> rfl
  clear hF hS ih hT hp;simp only [au]at H0 ⊢
  rcases hf with rfl | rfl
  all_goals
   first
    | go_enter Tryz.func241,Tryz.ntmps241
    | go_enter Tryz.func243,Tryz.ntmps243
   go_wp2_with fail
   go_ret
   refine⟨_,rfl,?_,((Below.refl _ w).alloc aH _).alloc (by simp) _⟩;rw [HE.out];exact⟨by simp,.inr ⟨w.heap.size+1,1,#[J r],rfl,by omega,aK w _ _,by first | rfl | simp,by decide,by rfl,by rfl⟩⟩
 ·obtain⟨g,HG⟩:∃ g:Val->List Int,Hid (aN n ⟨kind,nn,s,l,r⟩=l.flatMap g/\(∀ x ∈ l,∀ raw w F,SlAt w F raw x.l->Calls Tryz.prog f #[.agg (au x raw)] w fun e w'=>∃ u,e=.returned u/\bF w' w.heap.size u (g x)/\Bl w w')/\l.length≤512/\(l.flatMap g).length≤512):=by
   rcases hF with ⟨rfl,-⟩ | ⟨m,rfl,h3,-,-,-,hlen,hL⟩
   ·exact⟨fun _=>[],by cases n <;> simp [aN,h4],(fun x hx=>by cases hx),Nat.zero_le _,Nat.zero_le _⟩
   ·have hb:=gu hT;have e:aN (m+1) ⟨kind,nn,s,l,r⟩=l.flatMap (aN m):=by simp [aN,h4]
    rw [e]at hb;refine⟨aN m,e,fun x hx raw w F h=>?_,by omega,by omega⟩;obtain⟨p1,q1,h1,h2⟩:=dR hL x hx;exact ih m rfl x p1 q1 raw w F (by omega) h2 h
  have HS:Hid (∀ w',Bl w w'->SlAt w' F (.slice pa l.length c) l):=fun w' hb=>hS.on hb;have hb4:(kind==4)=false:=by simpa using h4
  clear hF hS ih hT hp;simp only [au]at H0 ⊢
  rcases hf with rfl | rfl
  all_goals
   first
    | go_enter Tryz.func241,Tryz.ntmps241
    | go_enter Tryz.func243,Tryz.ntmps243
   go_upto_region 5 with fail
   go_loopw [3,4] (fun vu vi wr=>∃ i:Nat,vi=J i/\i≤l.length/\Hid (R7L w (V_ kind nn s (.slice pa l.length c) r) vu ((l.take i).flatMap g) wr)) (fun _ vi _=>l.length - (intOf vi).toNat)
   case atStart=>exact⟨0,rfl,Nat.zero_le _,H0.out⟩
   case round =>
    clear H0;obtain⟨i,rfl,hi,HR⟩:=hrel;have c3:wr.cell? ⟨w.heap.size,3,none⟩=some (.slice pa l.length c):=by rw [ag HR.out.box];rfl
    by_cases hil:i<l.length
    ·have hiz:(i:Int)<(l.length:Int):=by omega
     obtain⟨y,hy⟩:∃ y,l[i]? = some y:=⟨_,List.getElem?_eq_getElem hil⟩;obtain⟨b,o,cq,raw,hpe,hrg,hlt,-,hSx⟩:=(HS.out wr HR.out.bel).range hy;have hpa:pa=some ⟨b,o,none⟩:=by injection hpe
     subst hpa;have hld:=aY hrg (by simp [au]);rw [Array.toArray_toList]at hld;have HC:Hid _:=HG.out.2.1 y (List.mem_of_getElem? hy) raw wr F hSx
     have Htk:Hid ((l.take (i+1)).flatMap g=(l.take i).flatMap g ++ g y):=by
      show _=_;rw [List.take_add_one,hy];simp
     have Hlen:Hid (((l.take i).flatMap g).length+(g y).length≤1000000):=by
      have e1:=congrArg List.length Htk.out;rw [List.length_append]at e1
      have e2:((l.take (i+1)).flatMap g).length+((l.drop (i+1)).flatMap g).length=(l.flatMap g).length:=by
       rw [<- List.length_append,← List.flatMap_append,List.take_append_drop]
      have:=HG.out.2.2.2;show _≤_;omega
     have hwi:wrap64 ((i:Int)+1)=(i:Int)+1:=by have:=HG.out.2.2.1;unfold wrap64;omega
     clear hrg hSx hlt hpe hy
     go_wp2_with fail
     refine Calls.mono HC.out ?_;rintro e w2 ⟨u2,rfl,hr2,hb2⟩;have HB2:Hid (Bl w w2/\w2.heap[w.heap.size]? = _):=⟨HR.out.bel.trans (hb2.mono HR.out.bel.size),ae hb2 HR.out.box⟩;have HO2:Hid (w2.ownsRow (w.heap.size+1) 25 1 u3 ((l.take i).flatMap g).length (((l.take i).flatMap g).map (Value.int .i64))):=dj HR.out.row hb2;have HN2:Hid (w2.ownsRow wr.heap.size 25 1 u2 (g y).length ((g y).map (Value.int .i64))):=hr2;have HZ:Hid (w.heap.size+1≤w2.heap.size):=aw HB2.out.2;generalize (l.take i).flatMap g=pre at HR Htk Hlen HO2;clear hr2 hb2 HR hld c3 HC
     go_wp2_with (at_builtin;refine append_refs rfl _ _ rfl (w.heap.size+1) _ _ pre (g y) rfl rfl HO2.out _ HN2.out Hlen.out HZ.out ?_;intro v' w5 hown' hb5
                  have HR7:Hid (R7L w _ v' ((l.take (i+1)).flatMap g) w5):=⟨HB2.out.1.trans (hb5.mono (Nat.le_succ _) |>.trans br),(hb5.block _ (Nat.lt_succ_self _)).trans HB2.out.2,Htk.out ▸ hown'⟩
                  clear hown' hb5 HO2 HN2 HB2 HZ)
     go_roundw
     case rel=>exact⟨i+1,by go_num,by omega,HR7.out⟩
     case measure=>rw [hwi];simp [intOf];omega
    ·have hiz:¬ (i:Int)<(l.length:Int):=by omega
     obtain rfl:i=l.length:=by omega
     have hkk:¬ (l.length:Int)<(l.length:Int):=by omega
     have HRx:=HR.out;rw [List.take_length]at HRx;have HRo:Hid (R7L w _ u3 (l.flatMap g) wr):=HRx;clear HRx HR
     go_wp2_with fail
     go_ret
     exact⟨_,rfl,by rw [HG.out.1];exact dy HRo.out.row (Nat.le_succ _),HRo.out.bel⟩
theorem Ah {f:Nat} (hf:f=241\/f=243) (n:Nat):Ag f n:=by
 induction n with
 | zero=>exact jg hf 0 (fun m h=>by cases h)
 | succ n ih=>exact jg hf (n+1) (fun m h=>by cases h;exact ih)
theorem pY (n:Nat):Ag 241 n:=Ah (.inl rfl) n
theorem wI (n:Nat):Ag 243 n:=Ah (.inr rfl) n
end
section
theorem nZ {P:Program} {k:TypeId} {w:World} {b n:Nat} {f:Value->Option Value} (h:HasMap P k w b f n):HasMap P k w.drew b f n:=h
def kU (P:Program) (k:TypeId) (w:World) (b:Nat) (f:Value->Option Value) (n:Nat):Prop:=∃ m,m≤n/\HasMap P k w b f m
theorem nB {w:World} {p tb b:Nat} {r k:Int} (c2:w.cell? ⟨p,2,none⟩=some (.map (some tb)))
 (hl:(Instr.lookup 137 (.map (some tb)) (J r) false).run Tryz.prog w=.ok (P_ b) w) (k0:w.cell? ⟨b,0,none⟩=some (.int .u8 k)) (hk:(k==14)=false) :
 Calls Tryz.prog 133 #[P_ p,J r] w fun e w'=>e=.returned (.tuple #[])/\w=w':=by
 go_enter Tryz.func133,Tryz.ntmps133
 go_wp2
 go_end0
 exact⟨rfl,rfl⟩
theorem mV {w:World} {p tb fb b fn:Nat} {r t s:Int} {f g:Value->Option Value} (c2:w.cell? ⟨p,2,none⟩=some (.map (some tb))) (c3:w.cell? ⟨p,3,none⟩=some (.map (some fb)))
 (hl:(Instr.lookup 137 (.map (some tb)) (J r) false).run Tryz.prog w=.ok (P_ b) w) (k0:w.cell? ⟨b,0,none⟩=some (.int .u8 14))
 (k6:w.cell? ⟨b,10,none⟩=some (.int .i64 t)) (k8:w.cell? ⟨b,12,none⟩=some (.int .u8 s)) (ht:(Lit.int .i64 t).wf=true) (hs:(Lit.int .u8 s).wf=true)
 (hm:HasMap Tryz.prog 211 w fb f fn) (hn:fn<maxLen) (hg:g (gi t s)=some (.int .i64 r)) (hg':∀ x,x≠gi t s->g x=f x) :
 Calls Tryz.prog 133 #[P_ p,J r] w fun e w'=>e=.returned (.tuple #[])/\Turned w w' fb/\kU Tryz.prog 211 w' fb g (fn+1):=by
 obtain⟨kl,hkl⟩:=zn ht hs;obtain⟨w2,hrun,r1,r2⟩:=(nZ hm).store rq Tryz.underlying138 hn hkl (J r) hg hg';simp only [gi]at hrun;have Hr1:Hid (kU Tryz.prog 211 w2 fb g (fn+1)):=⟨_,by split <;> omega,r1⟩
 have Hr2:Hid (Turned w w2 fb):=Turned.of_drew r2;clear r1 r2 hm hg hg' hkl hn
 go_enter Tryz.func133,Tryz.ntmps133
 go_wp2
 go_still_tail 14,(by kernel_rfl)
 change wpList _ _ _ _ _ w.drew
 go_wp2
 go_end0
 exact⟨rfl,Hr2.out,Hr1.out⟩
end
end Go.Proofs.YthaliljaglldjaaGreat
