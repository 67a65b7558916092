/- Part of the proof. -/
import Derived.Test.YthaliljaglldjaaGreatmAJ
import Derived.StillTailTactics
namespace Go.Proofs.YthaliljaglldjaaGreat
set_option maxHeartbeats 16000000
set_option maxRecDepth 20000
open Go.RowKit Go.ChangeMaps Go.MapKept
section
theorem rcode_nil (w:World):Calls Tryz.prog 208 #[.slice none 0 0] w fun e w'=>e=.returned (.slice none 0 0)/\w=w':=by
 go_enter Tryz.func208,Tryz.ntmps208
 go_wp2_with fail
 go_loopw [3,4] (fun vo vi wr=>vo=.slice none 0 0/\vi=.int .i64 0/\wr=w) (fun _ _ _=>0)
 case atStart=>exact⟨rfl,rfl,rfl⟩
 case round =>
  obtain⟨rfl,rfl,rfl⟩:=hrel
  go_wp2_with fail
  go_ret
  exact⟨rfl,rfl⟩
theorem execOp_ldO8 (ρ:Operand->Value) (ty:TypeId) (pos:String) (af:Array Edge) (g:Option (Nat × Bool)) :
 execOp ρ { dst:=some 8,op:=.load 27 (.tmp 7),type:=ty,pos:=pos,after:=af,guard:=g } = ldV (ρ (.tmp 7)):=rfl
theorem execOp_ldO23 (ρ:Operand->Value) (ty:TypeId) (pos:String) (af:Array Edge) (g:Option (Nat × Bool)) :
 execOp ρ { dst:=some 23,op:=.load 27 (.tmp 22),type:=ty,pos:=pos,after:=af,guard:=g } = ldV (ρ (.tmp 22)):=rfl
theorem ld_what_v {w:World} {b:Nat} {t:Th} (hg:w.heap[b]? = some (.cells (thc t) 46 (0,0))):(ldV (.pointer (some ⟨b,2,none⟩))).run Tryz.prog w=.ok (.value (.agg (vcs t.v t.vl))) w:=by
 have:=loadV_mid (w:=w) (b:=b) (o:=2) (cs:=(vcs t.v t.vl).toList) (fun j v hj=>by
  rw [cell_blk hg]
  match j,hj with
  | 0,hj=>exact hj
  | 1,hj=>exact hj
  | 2,hj=>exact hj
  | 3,hj=>exact hj
  | 4,hj=>exact hj
  | j+5,hj=>exact absurd hj (by simp [vcs])) (by simp [vcs])
 rwa [Array.toArray_toList]at this
structure RoR (w:World) (N:Nat) (A:Array Value) (u:Value) (l:List Val) (rv:Value) (vl:List Val) (wr:World):Prop where
 bel:Bl w wr
 box:wr.heap[w.heap.size]? = some (.cells A 46 (0,0))
 res:∃ Z,wr.heap[w.heap.size+1]? = some (.cells Z 46 (0,0))/\Z.size=16
 row:RowV wr N u l
 el:SlAt wr (fun b=>w.heap.size+2≤b/\b<N) rv vl
 nn:w.heap.size+2≤N
 big:N≤wr.heap.size
 nil:l = []->u=.slice none 0 0
theorem RoR.below {w wr w':World} {N:Nat} {A:Array Value} {u rv:Value} {l vl:List Val} (h:RoR w N A u l rv vl wr) (hb:Bl wr w'):RoR w N A u l rv vl w' :=
 ⟨h.bel.trans (hb.mono h.bel.size),below_blk hb h.box,h.res.imp fun _ h=>⟨below_blk hb h.1,h.2⟩,h.row.below hb,h.el.on hb,h.nn,Nat.le_trans h.big hb.size,h.nil⟩
theorem RoR.more {w wr w':World} {N:Nat} {A:Array Value} {u u' rv:Value} {l vl:List Val} {y:Val} (h:RoR w N A u l rv vl wr) (hk:Keeps (fun b=>u.ownBlock=some b) wr w') (hr:RowV w' N u' (l ++ [y])):RoR w N A u' (l ++ [y]) rv vl w' :=
 ⟨h.bel.trans (hk.below h.bel.size fun b hb=>by have:=(h.row.own b hb).1;have:=h.nn;omega),hk.none h.box (fun e=>by have:=(h.row.own _ e).1;have:=h.nn;omega),h.res.imp fun _ h'=>⟨hk.none h'.1 (fun e=>by have:=(h.row.own _ e).1;have:=h.nn;omega),h'.2⟩,hr,
  h.el.keeps hk (fun b h1 h2=>by have:=(h.row.own b h1).1;omega),h.nn,Nat.le_trans h.big hk.size,fun e=>by simp at e⟩
theorem RoR.form {w wr:World} {N:Nat} {A:Array Value} {u rv:Value} {l vl:List Val} (h:RoR w N A u l rv vl wr):∃ p c,u=.slice p l.length c:=SlAt.form h.row.at
attribute [local go_sem ↓] execOp_ldO8 execOp_ldO23 execOp_stV in
theorem rown7_W {w:World} {F:Nat->Prop} (t:Th) (h1:SlAt w F t.vl t.v.l) (h2:SlAt w F t.vals t.vs) (hc:t.code=.slice none 0 0) (hn:t.names=.slice none 0 0) (hd:depV 16 t.v) (hds:∀ x ∈ t.vs,depV 16 x) (hl:t.vs.length≤1000) :
 Calls Tryz.prog 113 #[.agg (thc t)] w fun e w'=>∃ vl' vals',e=.returned (.agg (thc { t with vl:=vl',vals:=vals' }))/\Bl w w'/\SlAt w' (fun b=>w.heap.size≤b) vl' t.v.l/\SlAt w' (fun b=>w.heap.size≤b) vals' t.vs/\(t.v.l = []->vl'=.slice none 0 0)/\(t.vs = []->vals'=.slice none 0 0):=by
 obtain⟨pv,cv,hv⟩:=h1.form;obtain⟨ps,cs,hvals⟩:=h2.form;obtain⟨k,h,⟨vk,vn,vstr,vl,vr⟩,raw,vs,vals,n,lo,tg,bi,s,fu,code,names⟩:=t;simp only at hv hvals h1 h2 hc hn hl hd hds;subst hv hvals hc hn;have hb0:Bl w ((w.alloc (.cells (thc ⟨k,h,⟨vk,vn,vstr,vl,vr⟩,.slice pv vl.length cv,vs,.slice ps vs.length cs,n,lo,tg,bi,s,fu,.slice none 0 0,.slice none 0 0⟩) 46)).alloc (.cells (wr 0 0 0 0 0 0 0 0 0 false) 46)):=((Below.refl _ w).alloc (Nat.le_refl _) _).alloc (by simp) _;have HO:=(show Hid _ from rvalue_W 16 ⟨vk,vn,vstr,vl,vr⟩ (.slice pv vl.length cv) _ F hd (h1.on hb0))
 have HB0:=(show Hid _ from And.intro hb0 (And.intro (blk2_old w (.cells (thc ⟨k,h,⟨vk,vn,vstr,vl,vr⟩,.slice pv vl.length cv,vs,.slice ps vs.length cs,n,lo,tg,bi,s,fu,.slice none 0 0,.slice none 0 0⟩) 46) (.cells (wr 0 0 0 0 0 0 0 0 0 false) 46))
  (blk2_new w (.cells (thc ⟨k,h,⟨vk,vn,vstr,vl,vr⟩,.slice pv vl.length cv,vs,.slice ps vs.length cs,n,lo,tg,bi,s,fu,.slice none 0 0,.slice none 0 0⟩) 46) (.cells (wr 0 0 0 0 0 0 0 0 0 false) 46))))
 have hld8:=ld_what_v HB0.out.2.1;have HS2:=(show Hid (∀ w',Bl w w'->SlAt w' F (.slice ps vs.length cs) vs)from fun w' hb=>h2.on hb);have Hl:=(show Hid (vs.length≤1000/\∀ x ∈ vs,depV 16 x)from⟨hl,hds⟩);clear h1 h2 hl hb0 hd hds;simp only [thc,vcs]at HO HB0 hld8 ⊢
 go_enter Tryz.func113,Tryz.ntmps113
 go_wp2_with fail
 refine Calls.mono HO.out ?_;rintro e w1 ⟨raw',rfl,hb1,hs1,hnil1⟩;obtain⟨pv',cv',hraw⟩:=hs1.form;simp only at hraw;subst hraw;have B1:=below_blk hb1 HB0.out.2.1;have R1:=below_blk hb1 HB0.out.2.2;have hz1:=blk_lt R1;have hst0:=stV_any (i:=2) (vs:=#[.int .u8 vk,.int .i64 vn,.string vstr,.slice pv' vl.length cv',.int .i64 vr]) B1 rfl (by simp) (by simp [go_sem])
 obtain⟨w2,hst,HX⟩:∃ w2,(stV (.pointer (some ⟨w.heap.size,2,none⟩)) (.agg #[.int .u8 vk,.int .i64 vn,.string vstr,.slice pv' vl.length cv',.int .i64 vr])).run Tryz.prog w1=.ok .skip w2 /\
  Hid (RoR w w2.heap.size #[.int .u8 k,.int .i64 h,.int .u8 vk,.int .i64 vn,.string vstr,.slice pv' vl.length cv',.int .i64 vr,.slice ps vs.length cs,.int .i64 n,.int .i64 lo,.int .i64 tg,.int .i64 bi,.int .u8 s,.bool fu,.slice none 0 0,.slice none 0 0] (.slice none 0 0) [] (.slice pv' vl.length cv') vl w2/\(vl = []->Value.slice pv' vl.length cv'=.slice none 0 0)):=by
  refine⟨_,hst0,⟨Below.setRow (HB0.out.1.trans (hb1.mono HB0.out.1.size)) (Nat.le_refl _) _,heap_setRow_at B1,⟨_,(heap_setRow_other _ _ _ _ (by omega)).trans R1,rfl⟩,RowV.nil _ _,?_,by simp [World.setRow];omega,Nat.le_refl _,fun _=>rfl⟩,hnil1⟩;have h1:SlAt w1 (fun b=>w.heap.size+2≤b/\b<w1.heap.size) (.slice pv' vl.length cv') vl:=hs1.lt.mono fun b hb=>⟨by have:=hb.1;simp at this;omega,hb.2⟩;exact h1.of_blocks (fun b hb=>heap_setRow_other _ _ _ _ (by omega)) (fun b hb=>⟨hb.1,by simpa [World.setRow]using hb.2⟩)
 clear hst0 hs1 hb1 B1 R1 hz1 HO HB0;simp only [vcs]
 go_upto_region 4 with fail
 clear hst hld8;obtain⟨N,hN⟩:∃ N,N=w2.heap.size:=⟨_,rfl⟩;rw [<- hN]at HX;clear hN;obtain⟨A,hA⟩:∃ A:Array Value,A=#[.int .u8 k,.int .i64 h,.int .u8 vk,.int .i64 vn,.string vstr,.slice pv' vl.length cv',.int .i64 vr,.slice ps vs.length cs,.int .i64 n,.int .i64 lo,.int .i64 tg,.int .i64 bi,.int .u8 s,.bool fu,.slice none 0 0,.slice none 0 0]:=⟨_,rfl⟩;have HA:=(show Hid (A=_)from hA);rw [<- hA]at HX;have H1:=(show Hid (RoR w N A (.slice none 0 0) [] (.slice pv' vl.length cv') vl w2)from HX.out.1);have Hnil:=(show Hid (vl = []->Value.slice pv' vl.length cv'=.slice none 0 0)from HX.out.2);clear hA HX hnil1
 go_loopw [3,4] (fun vu vi wr=>∃ i:Nat,vi=.int .i64 i/\i≤vs.length/\Hid (RoR w N A vu (vs.take i) (.slice pv' vl.length cv') vl wr)) (fun _ vi _=>vs.length - (intOf vi).toNat)
 case atStart=>exact⟨0,rfl,Nat.zero_le _,H1.out⟩
 case round =>
  clear H1;obtain⟨i,rfl,hi,HR⟩:=hrel;have c7:wr.cell? ⟨w.heap.size,7,none⟩=some (.slice ps vs.length cs):=by rw [cell_blk HR.out.box,HA.out];rfl
  by_cases hil:i<vs.length
  ·have hiz:(i:Int)<(vs.length:Int):=by omega
   obtain⟨y,hy⟩:∃ y,vs[i]? = some y:=⟨_,List.getElem?_eq_getElem hil⟩;obtain⟨b,o,cq,raw,hpe,hrg,hlt,-,hSx⟩:=(HS2.out wr HR.out.bel).range hy;have hpa:ps=some ⟨b,o,none⟩:=by injection hpe
   subst hpa;have HNt:Hid (vs.take (i+1)=vs.take i ++ [y]):=by show _=_;rw [List.take_add_one,hy];rfl
   have HC:=(show Hid _ from rvalue_W 16 y raw wr F (Hl.out.2 y (List.mem_of_getElem? hy)) hSx);obtain⟨yk,yn,ys,yl,yr⟩:=y;obtain⟨pa2,c2,rfl⟩:=hSx.form;have hld0:=loadV_mid hrg rfl;have hld:(ldV (.pointer (some ⟨b,o+i * 5,none⟩))).run Tryz.prog wr=.ok (.value (.agg #[.int .u8 yk,.int .i64 yn,.string ys,.slice pa2 yl.length c2,.int .i64 yr])) wr:=hld0;have hwi:wrap64 ((i:Int)+1)=(i:Int)+1:=by have:=Hl.out.1;unfold wrap64;omega
   simp only [vcs]at HC;clear hld0 hy hrg hSx hlt hpe
   go_wp2_with fail
   refine Calls.mono HC.out ?_;rintro e w5 ⟨raw',rfl,hb5,hs5,-⟩;obtain⟨pr,cr,rfl⟩:=hs5.form;have HR5:=(show Hid _ from HR.out.below hb5);have HY:Hid (SlAt w5 (fun b=>N≤b/\u3.ownBlock≠some b) (.slice pr yl.length cr) yl):=hs5.mono fun z hz=>⟨by have:=HR.out.big;omega,fun e=>by have:=(HR.out.row.own z e).2;omega⟩;have HRW:=(show Hid (RowV w5 N u3 (vs.take i))from HR5.out.row);have HNn:Hid (((vs.take i).length:Int)≤1000):=by show _≤_;have:=Hl.out.1;rw [List.length_take];omega
   have HBs:Hid (N≤w5.heap.size):=HR5.out.big;clear hb5 hs5 HR HC hld c7;simp only [vcs]
   go_wp2_with (at_builtin;refine append_valR rfl _ _ rfl N u3 (vs.take i) rfl HRW ⟨yk,yn,ys,yl,yr⟩ (.slice pr yl.length cr) HY rfl HNn HBs ?_;intro v' w7 hrow hk
                have HR7:=(show Hid (RoR w N A v' (vs.take (i+1)) (.slice pv' vl.length cv') vl w7)from HNt.out ▸ HR5.out.more hk.out hrow.out)
                clear hrow hk HR5 HRW HY HBs HNn)
   go_roundw
   case rel=>exact⟨i+1,by go_num,by omega,HR7.out⟩
   case measure=>rw [hwi];simp [intOf];omega
  ·have hiz:¬ (i:Int)<(vs.length:Int):=by omega
   obtain rfl:i=vs.length:=by omega
   have hkk:¬ (vs.length:Int)<(vs.length:Int):=by omega
   have HRx:=HR.out;rw [List.take_length]at HRx;obtain⟨p8,c8,rfl⟩:=HRx.form;have HRo:=(show Hid (RoR w N A (.slice p8 vs.length c8) vs (.slice pv' vl.length cv') vl wr)from HRx);have c14:wr.cell? ⟨w.heap.size,14,none⟩=some (.slice none 0 0):=by rw [cell_blk HRx.box,HA.out];rfl
   have c15:wr.cell? ⟨w.heap.size,15,none⟩=some (.slice none 0 0):=by rw [cell_blk HRx.box,HA.out];rfl
   have g7:=frozen_blk HRx.box 7;have g14:=frozen_blk HRx.box 14;have g15:=frozen_blk HRx.box 15;clear HRx HR
   go_upto_region 8 with fail
   clear c7 g7;have hB1:(wr.setCell ⟨w.heap.size,7,none⟩ (.slice p8 vs.length c8)).heap[w.heap.size]? = some (.cells (A.setIfInBounds 7 (.slice p8 vs.length c8)) 46 (0,0)):=blk_setCell HRo.out.box 7 _;have hk1:Keeps (fun b=>b=w.heap.size) wr (wr.setCell ⟨w.heap.size,7,none⟩ (.slice p8 vs.length c8)):=Keeps.setCell _ _ _ rfl;have HK1:=(show Hid _ from And.intro hB1 hk1);clear hB1 hk1 c14 c15 g14 g15;revert HK1;generalize wr.setCell _ _=wa;intro HK1;have c14:wa.cell? ⟨w.heap.size,14,none⟩=some (.slice none 0 0):=by rw [cell_blk HK1.out.1,HA.out];rfl
   have g14:=frozen_blk HK1.out.1 14
   go_wp2_with fail
   refine(rcode_nil wa).mono ?_;rintro e _ ⟨rfl,rfl⟩
   go_upto_region 11 with fail
   clear c14 g14;have hB2:(wa.setCell ⟨w.heap.size,14,none⟩ (.slice none 0 0)).heap[w.heap.size]? = some (.cells ((A.setIfInBounds 7 (.slice p8 vs.length c8)).setIfInBounds 14 (.slice none 0 0)) 46 (0,0)):=blk_setCell HK1.out.1 14 _;have hk2:Keeps (fun b=>b=w.heap.size) wr (wa.setCell ⟨w.heap.size,14,none⟩ (.slice none 0 0)):=HK1.out.2.trans (Keeps.setCell (S:=fun b=>b=w.heap.size) _ _ _ rfl) (fun _ _ h=>h) (fun _ _ h=>h);have HK2:=(show Hid _ from And.intro hB2 hk2);clear hB2 hk2 HK1;revert HK2;generalize wa.setCell _ _=wb;intro HK2;clear wa
   go_loopw [5,6] (fun vo vi wx=>vo=.slice none 0 0/\vi=.int .i64 0/\wb=wx) (fun _ _ _=>0)
   case atStart=>exact⟨rfl,rfl,rfl⟩
   case round =>
    obtain⟨rfl,rfl,rfl⟩:=hrel;have c15:wb.cell? ⟨w.heap.size,15,none⟩=some (.slice none 0 0):=by rw [cell_blk HK2.out.1,HA.out];rfl
    have g15:=frozen_blk HK2.out.1 15
    go_upto_region 15 with fail
    clear c15 g15;have hB3:(wb.setCell ⟨w.heap.size,15,none⟩ (.slice none 0 0)).heap[w.heap.size]? = some (.cells (((A.setIfInBounds 7 (.slice p8 vs.length c8)).setIfInBounds 14 (.slice none 0 0)).setIfInBounds 15 (.slice none 0 0)) 46 (0,0)):=blk_setCell HK2.out.1 15 _;have hk3:Keeps (fun b=>b=w.heap.size) wr (wb.setCell ⟨w.heap.size,15,none⟩ (.slice none 0 0)):=HK2.out.2.trans (Keeps.setCell (S:=fun b=>b=w.heap.size) _ _ _ rfl) (fun _ _ h=>h) (fun _ _ h=>h);have HK3:=(show Hid _ from And.intro hB3 hk3);clear hB3 hk3 HK2;revert HK3;generalize wb.setCell _ _=wc;intro HK3;obtain⟨Z,hZ,hZ16⟩:=HRo.out.res;have hZ3:=HK3.out.2.none hZ (show ¬ w.heap.size+1=w.heap.size by omega);have hg3:wc.heap[w.heap.size]? = some (.cells (thc ⟨k,h,⟨vk,vn,vstr,vl,vr⟩,.slice pv' vl.length cv',vs,.slice p8 vs.length c8,n,lo,tg,bi,s,fu,.slice none 0 0,.slice none 0 0⟩) 46 (0,0)):=by rw [HK3.out.1,HA.out];rfl
    have hld:=loadWhat_blk hg3 rfl;have hst:=storeWhat_blk (c':=thc ⟨k,h,⟨vk,vn,vstr,vl,vr⟩,.slice pv' vl.length cv',vs,.slice p8 vs.length c8,n,lo,tg,bi,s,fu,.slice none 0 0,.slice none 0 0⟩) hZ3 hZ16 rfl (by simp [thc,go_sem])
    have HF:Hid (∀ w9,w9=wc.setRow (w.heap.size+1) (thc ⟨k,h,⟨vk,vn,vstr,vl,vr⟩,.slice pv' vl.length cv',vs,.slice p8 vs.length c8,n,lo,tg,bi,s,fu,.slice none 0 0,.slice none 0 0⟩) ->
     w9.heap[w.heap.size+1]? = some (.cells (thc ⟨k,h,⟨vk,vn,vstr,vl,vr⟩,.slice pv' vl.length cv',vs,.slice p8 vs.length c8,n,lo,tg,bi,s,fu,.slice none 0 0,.slice none 0 0⟩) 46 (0,0))/\Bl w w9/\SlAt w9 (fun b=>w.heap.size≤b) (.slice pv' vl.length cv') vl/\SlAt w9 (fun b=>w.heap.size≤b) (.slice p8 vs.length c8) vs):=by
     intro w9 e;subst e
     have hk:Keeps (fun b=>b=w.heap.size\/b=w.heap.size+1) wr (wc.setRow (w.heap.size+1) (thc ⟨k,h,⟨vk,vn,vstr,vl,vr⟩,.slice pv' vl.length cv',vs,.slice p8 vs.length c8,n,lo,tg,bi,s,fu,.slice none 0 0,.slice none 0 0⟩)) :=
      HK3.out.2.trans (keepsRow _ _ _) (fun _ _ h=>.inl h) (fun _ _ h=>.inr h)
     refine⟨heap_setRow_at hZ3,HRo.out.bel.trans (hk.below HRo.out.bel.size fun b hb=>by rcases hb with hb | hb <;> omega),?_,?_⟩
     ·exact(HRo.out.el.keeps hk (fun b h1 h2=>by rcases h1 with h1 | h1 <;> omega)).mono fun b hb=>by omega
     ·exact(HRo.out.row.at.keeps hk (fun b h1 h2=>by have:=HRo.out.nn;rcases h1 with h1 | h1 <;> omega)).mono fun b hb=>by have:=HRo.out.nn;omega
    have HN2:=(show Hid (vs = []->Value.slice p8 vs.length c8=.slice none 0 0)from HRo.out.nil);clear hg3 hZ3 hZ HK3 HRo;simp only [thc]at hld hst HF
    go_wp2_with fail
    exact bodyPost_ret (results_What rfl _ _ _ _ _ rfl (HF.out _ rfl).1 rfl) rfl ⟨_,_,rfl,(HF.out _ rfl).2.1,(HF.out _ rfl).2.2.1,(HF.out _ rfl).2.2.2,Hnil.out,HN2.out⟩
end
section
theorem beq_nil4 {s:ByteArray} (h:(s == ⟨#[]⟩)=true):s=⟨#[]⟩:=by
 rcases s with ⟨⟨l⟩⟩
 cases l with
 | nil=>rfl
 | cons x l=>exact absurd h (by intro h;cases h)
theorem chk_all4 {n r:Int} {s:ByteArray} {len:Nat} (h:chk n s r len=true):n=0/\s=⟨#[]⟩/\r=0/\len=0:=by
 simp only [chk,Bool.and_eq_true,beq_iff_eq]at h;exact⟨h.1,beq_nil4 h.2.1,h.2.2.1,h.2.2.2⟩
theorem takeV_form4 {n p q:Nat} {v:Val} (h:takeV n p v=some q):∃ p',p=p'+1 /\
 ((v.l = []/\q=p'/\(v.kind=0/\v.n=0/\v.s=⟨#[]⟩/\v.r=0\/v.kind=1/\v.s=⟨#[]⟩/\v.r=0\/v.kind=2/\v.n=0/\v.r=0/\¬ v.s.size > 256\/v.kind=4/\v.n=0/\v.s=⟨#[]⟩/\¬ v.r<1)) \/
   (∃ m,n=m+1/\v.kind=3/\v.n=0/\v.s=⟨#[]⟩/\v.r=0/\¬ v.l.length > p'/\takeL m p' v.l=some q)):=by
 cases p with
 | zero=>cases n <;> cases h
 | succ p =>
   refine⟨p,rfl,?_⟩
   by_cases h0:v.kind=0
   ·rw [tk0 h0]at h;split at h
    ·obtain⟨a,b,c,d⟩:=chk_all4 (by assumption)
     cases h
     exact .inl ⟨List.length_eq_zero_iff.1 d,rfl,.inl ⟨h0,a,b,c⟩⟩
    ·cases h
   by_cases h1:v.kind=1
   ·rw [tk1 h1]at h;split at h
    ·obtain⟨a,b,c,d⟩:=chk_all4 (by assumption)
     cases h
     exact .inl ⟨List.length_eq_zero_iff.1 d,rfl,.inr (.inl ⟨h1,b,c⟩)⟩
    ·cases h
   by_cases h2:v.kind=2
   ·rw [tk2 h2]at h;split at h
    ·cases h
    ·rename_i hs
     split at h
     ·obtain⟨a,b,c,d⟩:=chk_all4 (by assumption)
      cases h
      exact .inl ⟨List.length_eq_zero_iff.1 d,rfl,.inr (.inr (.inl ⟨h2,a,c,hs⟩))⟩
     ·cases h
   by_cases h4:v.kind=4
   ·rw [tk4 h4]at h;split at h
    ·cases h
    ·rename_i hs
     split at h
     ·obtain⟨a,b,c,d⟩:=chk_all4 (by assumption)
      cases h
      exact .inl ⟨List.length_eq_zero_iff.1 d,rfl,.inr (.inr (.inr ⟨h4,a,b,hs⟩))⟩
     ·cases h
   by_cases h3:v.kind=3
   ·cases n with
    | zero=>rw [tk3z h3]at h;cases h
    | succ m =>
      by_cases hl:v.l.length > p
      ·rw [tk3l h3 hl]at h;cases h
      ·rw [tk3 h3 hl]at h;split at h
       ·cases h
       ·rename_i q' hq
        split at h
        ·obtain⟨a,b,c,d⟩:=chk_all4 (by assumption)
         cases h
         exact .inr ⟨m,rfl,h3,a,b,c,hl,hq⟩
        ·cases h
   rw [tkx h0 h1 h2 h3 h4]at h
   cases h
end
section
def RefRow (w:World) (base:Nat) (u:Value) (l:List Int):Prop:=w.ownsRow base 25 1 u l.length (l.map (Value.int .i64))
theorem execOp_ldR23 (ρ:Operand->Value) (ty:TypeId) (pos:String) (af:Array Edge) (g:Option (Nat × Bool)) :
 execOp ρ { dst:=some 23,op:=.load 27 (.tmp 22),type:=ty,pos:=pos,after:=af,guard:=g } = ldV (ρ (.tmp 22)):=rfl
def Refs7C (n:Nat):Prop:=∀ (v:Val) (p q:Nat) (raw:Value) (w:World) (F:Nat->Prop),p≤512->takeV n p v=some q->SlAt w F raw v.l ->
 Calls Tryz.prog 241 #[.agg (vcs v raw)] w fun e w'=>∃ u,e=.returned u/\RefRow w' w.heap.size u (refsN n v)/\Bl w w'
structure R7L (w:World) (A:Array Value) (u:Value) (l:List Int) (wr:World):Prop where
 bel:Bl w wr
 box:wr.heap[w.heap.size]? = some (.cells A 27 (0,0))
 row:RefRow wr (w.heap.size+1) u l
theorem refRow_on {w w':World} {base:Nat} {u:Value} {l:List Int} (h:RefRow w base u l) (hb:Bl w w'):RefRow w' base u l:=by
 obtain⟨h1,h2⟩:=h;exact⟨h1,h2.imp id fun⟨g,cap,cur,e1,e2,e3,e4⟩=>⟨g,cap,cur,e1,e2,below_blk hb e3,e4⟩⟩
theorem refRow_mono {w:World} {base base':Nat} {u:Value} {l:List Int} (h:RefRow w base u l) (hb:base'≤base):RefRow w base' u l:=by
 obtain⟨h1,h2⟩:=h;exact⟨h1,h2.imp id fun⟨g,cap,cur,e1,e2,e3,e4⟩=>⟨g,cap,cur,e1,Nat.le_trans hb e2,e3,e4⟩⟩
attribute [local go_sem ↓] execOp_ldR23 in
theorem refs7_step (n:Nat) (ih:∀ m,n=m+1->Refs7C m):Refs7C n:=by
 intro v p q raw w F hp hT hS;obtain⟨p',rfl,hF⟩:=takeV_form4 hT;obtain⟨kind,nn,s,l,r⟩:=v;obtain⟨pa,c,rfl⟩:=hS.form;simp only at hS hF;have H0:Hid (R7L w #[.int .u8 kind,.int .i64 nn,.string s,.slice pa l.length c,.int .i64 r] (.slice none 0 0) [] (w.alloc (.cells #[.int .u8 kind,.int .i64 nn,.string s,.slice pa l.length c,.int .i64 r] 27))):=⟨(Below.refl _ w).alloc (Nat.le_refl _) _,blk_new _ _,World.ownsRow_nil _ _ _ _⟩
 by_cases h4:kind=4
 ·have hl:l = []:=by
   rcases hF with ⟨hl,-⟩ | ⟨m,-,h3,-⟩
   ·exact hl
   ·omega
  subst h4 hl;have HE:Hid (refsN n ⟨4,nn,s,[],r⟩ = [r]):=by cases n <;> rfl
  clear hF hS ih hT hp;simp only [vcs]at H0 ⊢
  go_enter Tryz.func241,Tryz.ntmps241
  go_wp2_with fail
  go_ret
  refine⟨_,rfl,?_,((Below.refl _ w).alloc (Nat.le_refl _) _).alloc (by simp) _⟩;rw [HE.out];exact⟨by simp,.inr ⟨w.heap.size+1,1,#[.int .i64 r],rfl,by omega,blk2_new w _ _,by first | rfl | simp,by decide,by rfl,by rfl⟩⟩
 ·obtain⟨g,HG⟩:∃ g:Val->List Int,Hid (refsN n ⟨kind,nn,s,l,r⟩=l.flatMap g/\(∀ x ∈ l,∀ raw w F,SlAt w F raw x.l->Calls Tryz.prog 241 #[.agg (vcs x raw)] w fun e w'=>∃ u,e=.returned u/\RefRow w' w.heap.size u (g x)/\Bl w w')/\l.length≤512/\(l.flatMap g).length≤512):=by
   rcases hF with ⟨rfl,-⟩ | ⟨m,rfl,h3,-,-,-,hlen,hL⟩
   ·exact⟨fun _=>[],by cases n <;> simp [refsN,h4],(fun x hx=>by cases hx),Nat.zero_le _,Nat.zero_le _⟩
   ·have hb:=refsN_le hT;have e:refsN (m+1) ⟨kind,nn,s,l,r⟩=l.flatMap (refsN m):=by simp [refsN,h4]
    rw [e]at hb;refine⟨refsN m,e,fun x hx raw w F h=>?_,by omega,by omega⟩;obtain⟨p1,q1,h1,h2⟩:=takeL_all hL x hx;exact ih m rfl x p1 q1 raw w F (by omega) h2 h
  have HS:=(show Hid (∀ w',Bl w w'->SlAt w' F (.slice pa l.length c) l)from fun w' hb=>hS.on hb);have hb4:(kind==4)=false:=by simpa using h4
  clear hF hS ih hT hp;simp only [vcs]at H0 ⊢
  go_enter Tryz.func241,Tryz.ntmps241
  go_upto_region 5 with fail
  go_loopw [3,4] (fun vu vi wr=>∃ i:Nat,vi=.int .i64 i/\i≤l.length/\Hid (R7L w #[.int .u8 kind,.int .i64 nn,.string s,.slice pa l.length c,.int .i64 r] vu ((l.take i).flatMap g) wr)) (fun _ vi _=>l.length - (intOf vi).toNat)
  case atStart=>exact⟨0,rfl,Nat.zero_le _,H0.out⟩
  case round =>
   clear H0;obtain⟨i,rfl,hi,HR⟩:=hrel;have c3:wr.cell? ⟨w.heap.size,3,none⟩=some (.slice pa l.length c):=by rw [cell_blk HR.out.box];rfl
   by_cases hil:i<l.length
   ·have hiz:(i:Int)<(l.length:Int):=by omega
    obtain⟨y,hy⟩:∃ y,l[i]? = some y:=⟨_,List.getElem?_eq_getElem hil⟩;obtain⟨b,o,cq,raw,hpe,hrg,hlt,-,hSx⟩:=(HS.out wr HR.out.bel).range hy;have hpa:pa=some ⟨b,o,none⟩:=by injection hpe
    subst hpa;have hld:=loadV_mid hrg (by simp [vcs]);rw [Array.toArray_toList]at hld;have HC:=(show Hid _ from HG.out.2.1 y (List.mem_of_getElem? hy) raw wr F hSx)
    have Htk:Hid ((l.take (i+1)).flatMap g=(l.take i).flatMap g ++ g y):=by
     show _=_;rw [List.take_add_one,hy];simp
    have Hlen:Hid (((l.take i).flatMap g).length+(g y).length≤1000000):=by
     have e1:=congrArg List.length Htk.out;rw [List.length_append]at e1
     have e2:((l.take (i+1)).flatMap g).length+((l.drop (i+1)).flatMap g).length=(l.flatMap g).length:=by
      rw [<- List.length_append,← List.flatMap_append,List.take_append_drop]
     have:=HG.out.2.2.2;show _≤_;omega
    have hwi:wrap64 ((i:Int)+1)=(i:Int)+1:=by have:=HG.out.2.2.1;unfold wrap64;omega
    clear hrg hSx hlt hpe hy
    go_wp2_with fail
    refine Calls.mono HC.out ?_;rintro e w2 ⟨u2,rfl,hr2,hb2⟩;have HB2:=(show Hid (Bl w w2/\w2.heap[w.heap.size]? = _)from⟨HR.out.bel.trans (hb2.mono HR.out.bel.size),below_blk hb2 HR.out.box⟩);have HO2:=(show Hid (w2.ownsRow (w.heap.size+1) 25 1 u3 ((l.take i).flatMap g).length (((l.take i).flatMap g).map (Value.int .i64)))from refRow_on HR.out.row hb2);have HN2:=(show Hid (w2.ownsRow wr.heap.size 25 1 u2 (g y).length ((g y).map (Value.int .i64)))from hr2);have HZ:Hid (w.heap.size+1≤w2.heap.size):=blk_lt HB2.out.2;generalize (l.take i).flatMap g=pre at HR Htk Hlen HO2;clear hr2 hb2 HR hld c3 HC
    go_wp2_with (at_builtin;refine append_refs rfl _ _ rfl (w.heap.size+1) _ _ pre (g y) rfl rfl HO2.out _ HN2.out Hlen.out HZ.out ?_;intro v' w5 hown' hb5
                 have HR7:=(show Hid (R7L w _ v' ((l.take (i+1)).flatMap g) w5)from⟨HB2.out.1.trans (hb5.mono (Nat.le_succ _) |>.trans (Below.refl _ _)),(hb5.block _ (Nat.lt_succ_self _)).trans HB2.out.2,Htk.out ▸ hown'⟩)
                 clear hown' hb5 HO2 HN2 HB2 HZ)
    go_roundw
    case rel=>exact⟨i+1,by go_num,by omega,HR7.out⟩
    case measure=>rw [hwi];simp [intOf];omega
   ·have hiz:¬ (i:Int)<(l.length:Int):=by omega
    obtain rfl:i=l.length:=by omega
    have hkk:¬ (l.length:Int)<(l.length:Int):=by omega
    have HRx:=HR.out;rw [List.take_length]at HRx;have HRo:=(show Hid (R7L w _ u3 (l.flatMap g) wr)from HRx);clear HRx HR
    go_wp2_with fail
    go_ret
    exact⟨_,rfl,by rw [HG.out.1];exact refRow_mono HRo.out.row (Nat.le_succ _),HRo.out.bel⟩
theorem refs7_W (n:Nat):Refs7C n:=by
 induction n with
 | zero=>exact refs7_step 0 (fun m h=>by cases h)
 | succ n ih=>exact refs7_step (n+1) (fun m h=>by cases h;exact ih)
end
section
theorem drew_map {P:Program} {k:TypeId} {w:World} {b n:Nat} {f:Value->Option Value} (h:HasMap P k w b f n):HasMap P k w.drew b f n:=h
def MapLe (P:Program) (k:TypeId) (w:World) (b:Nat) (f:Value->Option Value) (n:Nat):Prop:=∃ m,m≤n/\HasMap P k w b f m
theorem index_plain {w:World} {p tb b:Nat} {r k:Int} (c2:w.cell? ⟨p,2,none⟩=some (.map (some tb)))
 (hl:(Instr.lookup 137 (.map (some tb)) (.int .i64 r) false).run Tryz.prog w=.ok (.pointer (some ⟨b,0,none⟩)) w) (k0:w.cell? ⟨b,0,none⟩=some (.int .u8 k)) (hk:(k==14)=false) :
 Calls Tryz.prog 133 #[.pointer (some ⟨p,0,none⟩),.int .i64 r] w fun e w'=>e=.returned (.tuple #[])/\w=w':=by
 go_enter Tryz.func133,Tryz.ntmps133
 go_wp2
 go_end0
 exact⟨rfl,rfl⟩
theorem index_facet {w:World} {p tb fb b fn:Nat} {r t s:Int} {f g:Value->Option Value} (c2:w.cell? ⟨p,2,none⟩=some (.map (some tb))) (c3:w.cell? ⟨p,3,none⟩=some (.map (some fb)))
 (hl:(Instr.lookup 137 (.map (some tb)) (.int .i64 r) false).run Tryz.prog w=.ok (.pointer (some ⟨b,0,none⟩)) w) (k0:w.cell? ⟨b,0,none⟩=some (.int .u8 14))
 (k6:w.cell? ⟨b,10,none⟩=some (.int .i64 t)) (k8:w.cell? ⟨b,12,none⟩=some (.int .u8 s)) (ht:(Lit.int .i64 t).wf=true) (hs:(Lit.int .u8 s).wf=true)
 (hm:HasMap Tryz.prog 211 w fb f fn) (hn:fn<maxLen) (hg:g (fkey t s)=some (.int .i64 r)) (hg':∀ x,x≠fkey t s->g x=f x) :
 Calls Tryz.prog 133 #[.pointer (some ⟨p,0,none⟩),.int .i64 r] w fun e w'=>e=.returned (.tuple #[])/\Turned w w' fb/\MapLe Tryz.prog 211 w' fb g (fn+1):=by
 obtain⟨kl,hkl⟩:=key_f ht hs;obtain⟨w2,hrun,r1,r2⟩:=(drew_map hm).store keyedFKey Tryz.underlying138 hn hkl (.int .i64 r) hg hg';simp only [fkey]at hrun;have Hr1:Hid (MapLe Tryz.prog 211 w2 fb g (fn+1)):=⟨_,by split <;> omega,r1⟩
 have Hr2:Hid (Turned w w2 fb):=Turned.of_drew r2;clear r1 r2 hm hg hg' hkl hn
 go_enter Tryz.func133,Tryz.ntmps133
 go_wp2
 go_still_tail 14,(by kernel_rfl)
 change wpList _ _ _ _ _ w.drew
 go_wp2
 go_end0
 exact⟨rfl,Hr2.out,Hr1.out⟩
end
section
section
variable {w:World} {p:Nat} {M:WM} {F:Nat->Prop} {pa:Option Addr} {pc cg cc mg mc tb fb fn:Nat} {bl:Int->Nat}
def blAdd (M:WM) (bl:Int->Nat) (B:Nat) (r:Int):Nat:=if r=M.last+1 then B else bl r
def plusB (F:Nat->Prop) (B b:Nat):Prop:=F b\/b=B
theorem WV.ne_of_obj (_h:WV w p M F pa pc cg cc mg mc tb fb fn bl) {a b:Nat} {x y:Obj} (ha:w.heap[a]? = some x) (hb:w.heap[b]? = some y) (hne:x≠y):a≠b:=by
 intro e;subst e;rw [ha]at hb
 cases hb
 exact hne rfl
theorem Row.is {g:Nat} {e:TypeId} {cap:Nat} {xs:List Value} (h:Row w g e cap xs):∃ cur,w.heap[g]? = some (.cells cur e (0,0)):=by
 obtain⟨cur,h1,_⟩:=h;exact⟨cur,h1⟩
theorem made_len (M:WM) (t:Th):(M.add t).made.length=M.made.length:=by
 show (if t.kind=14 then M.made else _).length=_
 split
 ·rfl
 ·rw [List.length_set]
theorem thf_add (hok:M.ok) (t:Th) (B:Nat):thf (M.add t) (blAdd M bl B) (.int .i64 (M.last+1))=some (.pointer (some ⟨B,0,none⟩)) /\
 ∀ x,x≠.int .i64 (M.last+1)->thf (M.add t) (blAdd M bl B) x=thf M bl x:=by
 refine⟨by simp [thf,WM.add_at_new hok,blAdd],fun x hx=>?_⟩;unfold thf;split
 ·rename_i r
  have hne:r≠M.last+1:=fun e=>hx (by rw [e]);rw [WM.add_at hok,if_neg hne,blAdd,if_neg hne]
 ·rfl
theorem faf_add_not {t:Th} (hk:t.kind≠14) (x:Value):faf (M.add t) x=faf M x:=by
 unfold faf;split
 ·split
  ·rw [WM.add_find_not hk]
  ·rfl
 ·rfl
theorem faf_add {t:Th} (hk:t.kind=14) (hn:M.find t.tgt t.set=none):faf (M.add t) (fkey t.tgt t.set)=some (.int .i64 (M.last+1))/\∀ x,x≠fkey t.tgt t.set->faf (M.add t) x=faf M x:=by
 refine⟨by simp [faf,fkey,WM.add_find_facet hk hn],fun x hx=>?_⟩;unfold faf;split
 ·rename_i cs
  split
  ·rename_i a b he
   rw [WM.add_find_facet hk hn,if_neg];rintro ⟨rfl,rfl⟩;apply hx
   rw [fkey]
   congr 1
   rw [<- Array.toArray_toList (xs:=cs),he]
  ·rfl
 ·rfl
theorem lay_fin (h:WV w p M F pa pc cg cc mg mc tb fb fn bl) {t:Th} (a:AddOk M t) {F1:Nat->Prop} (hd:Deep w F1 t) (hF1:∀ b,F1 b->b<w.heap.size/\¬ F b) {w':World} (hsz:w.heap.size+1≤w'.heap.size)
 (hp:w'.heap[p]? = some (.cells #[.slice pa M.parents.length pc,.slice (some ⟨cg,0,none⟩) M.cuts.length cc,.map (some tb),.map (some fb),.int .i64 (M.last+1),.slice (some ⟨mg,0,none⟩) M.made.length mc] 140 (0,0)))
 (hB:w'.heap[w.heap.size]? = some (.cells (thc t) 46 (0,0))) (hmg:Row w' mg 3 mc ((M.add t).made.map (Value.int .i64)))
 (htb:HasMap Tryz.prog 25 w' tb (thf (M.add t) (blAdd M bl w.heap.size)) (M.things.length+1)) (hfb:MapLe Tryz.prog 211 w' fb (faf (M.add t)) (fn+1))
 (hoth:∀ b,b<w.heap.size->b≠p->b≠mg->b≠tb->b≠fb->w'.heap[b]? = w.heap[b]?):IsW w' p (M.add t) (plusB (fun b=>F b\/F1 b) w.heap.size):=by
 obtain⟨fn',hfn,hfb⟩:=hfb;obtain⟨mcur,hm⟩:=h.mad.is;obtain⟨ccur,hc⟩:=h.cut.is;obtain⟨tes,tcl,ht⟩:=h.things.is;obtain⟨fes,fcl,hf⟩:=h.facets.is;have hlen:(M.add t).things.length=M.things.length+1:=by simp [WM.add]
 have hdeep:∀ r u,M.at r=some u->Deep w' (plusB (fun b=>F b\/F1 b) w.heap.size) u:=fun r u hu=>(h.blk r u hu).2.2.of_blocks (fun b cs e fr hF hb he=>hoth b (h.lt b hF) (h.ne_of_obj hb h.hp (by intro x;cases x;simp [deepTy]at he))
  (h.ne_of_obj hb hm (by intro x;cases x;simp [deepTy]at he)) (h.ne_of_obj hb ht (by intro x;cases x)) (h.ne_of_obj hb hf (by intro x;cases x))) (fun b hb=>.inl (.inl hb))
 refine⟨pa,pc,cg,cc,mg,mc,tb,fb,fn',blAdd M bl w.heap.size,?_⟩
 exact {
  hp:=by rw [made_len];exact hp
  pars:=fun j x hx=>by
   obtain⟨b,o,h1,h2,⟨cs,fr,h3⟩,h4⟩:=h.pars j x hx;have k:=hoth b (h.lt b h2) (h.ne_of_obj h3 h.hp (by simp)) (h.ne_of_obj h3 hm (by simp)) (h.ne_of_obj h3 ht (by simp)) (h.ne_of_obj h3 hf (by simp));exact⟨b,o,h1,.inl (.inl h2),⟨cs,fr,k.trans h3⟩,(World.cell?_of_block (a:=⟨b,o+j,none⟩) k).trans h4⟩
  cut:=h.cut.of_block (hoth cg (h.lt _ h.own.2.1) (h.ne_of_obj hc h.hp (by simp)) (h.ne_of_obj hc hm (by simp)) (h.ne_of_obj hc ht (by simp)) (h.ne_of_obj hc hf (by simp)))
  mad:=hmg
  things:=by rw [hlen];exact htb
  facets:=hfb
  fnle:=by have:=h.fnle;show (fn':Int)≤M.last+1;omega
  blk:=fun r u hu=>by
   rw [WM.add_at h.ok]at hu;split at hu
   ·rename_i e
    cases hu
    simp only [blAdd,if_pos e];exact⟨hB,.inr rfl,hd.of_blocks (Lists.of fun b hb=>hoth b (hF1 b hb).1 (fun e=>(hF1 b hb).2 (e ▸ h.own.1)) (fun e=>(hF1 b hb).2 (e ▸ h.own.2.2.1)) (fun e=>(hF1 b hb).2 (e ▸ h.own.2.2.2.1)) (fun e=>(hF1 b hb).2 (e ▸ h.own.2.2.2.2))) (fun b hb=>.inl (.inr hb))⟩
   ·rename_i e
    obtain⟨h1,h2,h3⟩:=h.blk r u hu;simp only [blAdd,if_neg e];exact⟨(hoth _ (h.lt _ h2) (h.ne_of_obj h1 h.hp (by simp)) (h.ne_of_obj h1 hm (by simp)) (h.ne_of_obj h1 ht (by simp)) (h.ne_of_obj h1 hf (by simp))).trans h1,.inl (.inl h2),hdeep r u hu⟩
  inj:=fun r r' u u' hu hu' e=>by
   rw [WM.add_at h.ok]at hu hu';split at hu <;> split at hu'
   ·omega
   ·rename_i e1 e2
    have:=blk_lt (h.blk _ _ hu').1;simp only [blAdd,if_pos e1,if_neg e2]at e;omega
   ·rename_i e1 e2
    have:=blk_lt (h.blk _ _ hu).1;simp only [blAdd,if_pos e2,if_neg e1]at e;omega
   ·rename_i e1 e2
    simp only [blAdd,if_neg e1,if_neg e2]at e;exact h.inj r r' u u' hu hu' e
  own:=⟨.inl (.inl h.own.1),.inl (.inl h.own.2.1),.inl (.inl h.own.2.2.1),.inl (.inl h.own.2.2.2.1),.inl (.inl h.own.2.2.2.2)⟩
  tf:=h.tf
  lt:=fun b hb=>by
   rcases hb with (hb | hb) | hb
   ·have:=h.lt b hb;omega
   ·have:=(hF1 b hb).1;omega
   ·omega
  ok:=WM.add_ok h.ok a }
end
theorem lay_W {w:World} {p:Nat} {M:WM} {F:Nat->Prop} (hW:IsW w p M F) {t:Th} (a:AddOk M t) {F1:Nat->Prop} (hd:Deep w F1 t) (hF1:∀ b,F1 b->b<w.heap.size/\¬ F b) :
 Calls Tryz.prog 79 #[.pointer (some ⟨p,0,none⟩),.agg (thc t)] w fun e w'=>e=.returned (.int .i64 (M.last+1))/\IsW w' p (M.add t) (plusB (fun b=>F b\/F1 b) w.heap.size)/\Keeps F w w':=by
 obtain⟨pa,pc,cg,cc,mg,mc,tb,fb,fn,bl,h⟩:=hW;have c4:=cell_al h.c4 (.cells (thc t) 46);have f4:(w.alloc (.cells (thc t) 46)).frozen? ⟨p,4,none⟩=false:=frozen_blk (blk_old w _ h.hp) 4;have hl0:=h.ok.last;have hl1:=a.last;have hpl:p<w.heap.size:=h.lt p h.own.1;obtain⟨mcur,hm⟩:=h.mad.is;obtain⟨tes,tcl,ht⟩:=h.things.is;obtain⟨fes,fcl,hf⟩:=h.facets.is;have pm:=h.ne_of_obj h.hp hm (by simp);have pt:=h.ne_of_obj h.hp ht (by simp);have pf:=h.ne_of_obj h.hp hf (by simp);have mt:=h.ne_of_obj hm ht (by simp);have mf:=h.ne_of_obj hm hf (by simp);have Bm:=blk_lt hm;have Bt:=blk_lt ht;have Bf:=blk_lt hf
 have hnt:M.things.length<maxLen:=by
  have h1:∀ (l:List (Int × Th)) (b:Int),l.Pairwise (fun x y=>x.1<y.1)->(∀ x ∈ l,b<x.1/\x.1≤M.last)->(l.length:Int)+b≤M.last\/l = []:=by
   intro l
   induction l with
   | nil=>intro b _ _;exact .inr rfl
   | cons x l ih =>
     intro b hp hr;obtain⟨q1,q2⟩:=List.pairwise_cons.1 hp;have hx:=hr x (by simp)
     rcases ih x.1 q2 (fun y hy=>⟨q1 y hy,(hr y (by simp [hy])).2⟩)with h | rfl
     ·exact .inl (by simp;omega)
     ·exact .inl (by simp;omega)
  have:=h1 M.things 0 h.ok.keys (fun x hx=>h.ok.range x hx)
  rcases this with h2 | h2
  ·unfold maxLen;omega
  ·rw [h2];decide
 have hwl:(Lit.int .i64 (M.last+1)).wf=true:=WalkArith.wf_i64 (by omega);obtain⟨w2,hw2⟩:∃ w2,w2=(w.setCell ⟨p,4,none⟩ (.int .i64 (M.last+1))).alloc (.cells (thc t) 46):=⟨_,rfl⟩;have s1:(w.setCell ⟨p,4,none⟩ (.int .i64 (M.last+1))).heap.size=w.heap.size:=by simp [World.setCell]
 have b2:∀ b,b<w.heap.size->b≠p->w2.heap[b]? = w.heap[b]?:=fun b hb hne=>by
  rw [hw2,Below.heap_alloc _ _ _ (by rw [s1];exact hb),Below.heap_setCell _ _ _ _ hne]
 have s2:w2.heap.size=w.heap.size+1:=by rw [hw2];simp [World.setCell]
 have K2:Keeps F w w2:=(Keeps.setCell w ⟨p,4,none⟩ (.int .i64 (M.last+1)) h.own.1).then_below (by rw [hw2];exact(Below.refl _ _).alloc (Nat.le_refl _) _)
 have p2:w2.heap[p]? = some (.cells #[.slice pa M.parents.length pc,.slice (some ⟨cg,0,none⟩) M.cuts.length cc,.map (some tb),.map (some fb),.int .i64 (M.last+1),.slice (some ⟨mg,0,none⟩) M.made.length mc] 140 (0,0)):=by
  rw [hw2];exact blk_old _ _ (blk_setCell h.hp 4 _)
 have B2:w2.heap[w.heap.size]? = some (.cells (thc t) 46 (0,0)):=by
  rw [hw2,← s1];exact blk_new _ _
 obtain⟨w3,hrun,th3,tu3⟩:=(drew_map (h.things.of_block (b2 tb Bt (Ne.symm pt)))).store keyedRef Tryz.underlying137 hnt (key_ref hwl) (.pointer (some ⟨w.heap.size,0,none⟩)) (thf_add h.ok t w.heap.size).1 (thf_add h.ok t w.heap.size).2;have T3:Turned w2 w3 tb:=Turned.of_drew tu3;have e0:(thf M bl (.int .i64 (M.last+1))).isSome=false:=by simp [thf,h.ok.none_above (r:=M.last+1) (by omega)]
 rw [e0]at th3;simp only [Bool.false_eq_true,if_false]at th3;have s3:=T3.1;have p3:=(T3.block pt).trans p2;have B3:w3.heap[w.heap.size]? = some (.cells (thc t) 46 (0,0)):=(T3.block (by omega)).trans B2;have m3:=h.mad.of_block ((T3.block mt).trans (b2 mg Bm (Ne.symm pm)));have f3:=h.facets.of_block ((T3.block (Ne.symm h.tf)).trans (b2 fb Bf (Ne.symm pf)));have K3:Keeps F w w3:=K2.trans (T3.2.mono (T:=F) (fun x _ e=>e ▸ h.own.2.2.2.1)) (fun _ _ h=>h) (fun _ _ h=>h);obtain⟨k0,k1,-,-,k6,-,k8,-⟩:=thc_cell B3;have d2:w3.cell? ⟨p,2,none⟩=some (.map (some tb)):=by rw [cell_blk p3];rfl
 have d3:w3.cell? ⟨p,3,none⟩=some (.map (some fb)):=by rw [cell_blk p3];rfl
 have d4:w3.cell? ⟨p,4,none⟩=some (.int .i64 (M.last+1)):=by rw [cell_blk p3];rfl
 have d5:w3.cell? ⟨p,5,none⟩=some (.slice (some ⟨mg,0,none⟩) M.made.length mc):=by rw [cell_blk p3];rfl
 have lk3:(Instr.lookup 137 (.map (some tb)) (.int .i64 (M.last+1)) false).run Tryz.prog w3=.ok (.pointer (some ⟨w.heap.size,0,none⟩)) w3:=by
  rw [th3.look keyedRef Tryz.underlying137 (zeroPWhat w3) (key_ref hwl),(thf_add h.ok t w.heap.size).1];rfl
 have g2:w2.cell? ⟨p,2,none⟩=some (.map (some tb)):=by rw [cell_blk p2];rfl
 have g4:w2.cell? ⟨p,4,none⟩=some (.int .i64 (M.last+1)):=by rw [cell_blk p2];rfl
 have HV:Hid (WV w p M F pa pc cg cc mg mc tb fb fn bl):=h
 have fin:∀ w',Hid (w.heap.size+1≤w'.heap.size->w'.heap[p]? = w3.heap[p]?->w'.heap[w.heap.size]? = w3.heap[w.heap.size]?->Row w' mg 3 mc ((M.add t).made.map (Value.int .i64))->w'.heap[tb]? = w3.heap[tb]? ->
  MapLe Tryz.prog 211 w' fb (faf (M.add t)) (fn+1)->(∀ b,b<w.heap.size->b≠mg->b≠fb->w'.heap[b]? = w3.heap[b]?)->IsW w' p (M.add t) (plusB (fun b=>F b\/F1 b) w.heap.size)):=fun w' h1 h2 h3 h4 h5 h6 h7 =>
  lay_fin h a hd hF1 h1 (h2.trans p3) (h3.trans B3) h4 (th3.of_block h5) h6 (fun b hb n1 n2 n3 n4=>(h7 b hb n2 n4).trans ((T3.block n3).trans (b2 b hb n1)))
 by_cases hk:t.kind=14
 ·have hfn:fn<maxLen:=by have:=h.fnle;unfold maxLen;omega
  have hix:=index_facet d2 d3 lk3 (by rw [<- hk];exact k0) k6 k8 a.wf.tgt (WalkArith.wf_u8 (by have:=a.wf.set;omega)) f3 hfn (faf_add hk (a.facet hk)).1 (faf_add hk (a.facet hk)).2;have Hix:=(show Hid (Calls Tryz.prog 133 #[.pointer (some ⟨p,0,none⟩),.int .i64 (M.last+1)] w3 fun e w'=>e=.returned (.tuple #[])/\Turned w3 w' fb/\MapLe Tryz.prog 211 w' fb (faf (M.add t)) (fn+1))from hix);have Hm:Hid (Row w3 mg 3 mc ((M.add t).made.map (Value.int .i64))):=by show Row _ _ _ _ _;simpa [WM.add,hk]using m3
  have Hk:Hid (Keeps F w w3):=K3;have Hb3:Hid (∀ b,b≠fb->True):=fun _ _=>trivial;have k0':w3.cell? ⟨w.heap.size,0,none⟩=some (.int .u8 14):=by rw [<- hk];exact k0
  have Hp:Hid (p≠fb/\w.heap.size≠fb/\mg≠fb/\tb≠fb/\F fb):=⟨pf,by omega,mf,h.tf,h.own.2.2.2.2⟩;have Hs:Hid (w3.heap.size=w.heap.size+1):=s3.trans s2;clear h a hd hF1 hm ht hf pm pt pf mt mf hnt hwl b2 s1 s2 K2 p2 B2 tu3 th3 T3 e0 s3 p3 B3 m3 f3 K3 k0 k1 k6 k8 hk hfn hix lk3 d2 d3 d5 Bm Bt Bf
  go_enter Tryz.func79,Tryz.ntmps79
  go_wp2
  rw [<- hw2];clear c4 f4 hw2
  go_still_tail 8,(by kernel_rfl)
  change wpList _ _ _ _ _ w2.drew
  go_wp2_with fail
  refine Hix.out.mono ?_;rintro e w4 ⟨rfl,hT,hM⟩;obtain⟨n1,n2,n3,n4,n5⟩:=Hp.out;have q0:=(hT.cell (a:=⟨w.heap.size,0,none⟩) n2).trans k0';have q4:=(hT.cell (a:=⟨p,4,none⟩) n1).trans d4;have HT:Hid (Turned w3 w4 fb):=hT;have HM:Hid (MapLe Tryz.prog 211 w4 fb (faf (M.add t)) (fn+1)):=hM;clear hT hM n1 n2 n3 n4 n5 k0' d4 g2 g4 hrun
  go_wp2_with fail
  go_ret
  obtain⟨n1,n2,n3,n4,n5⟩:=Hp.out;refine⟨rfl,(fin w4).out ?_ (HT.out.block n1) (HT.out.block n2) (Hm.out.of_block (HT.out.block n3)) (HT.out.block n4) HM.out (fun b _ _ hb=>HT.out.block hb),Hk.out.trans (HT.out.2.mono (T:=F) (fun x _ e=>e ▸ n5)) (fun _ _ h=>h) (fun _ _ h=>h)⟩;have:=HT.out.1;have:=Hs.out;omega
 ·obtain⟨h0,h1⟩:=a.home hk;obtain⟨n,hn⟩:=Int.eq_ofNat_of_zero_le h0;have hnl:n<M.made.length:=by omega
  have hix:=index_plain d2 lk3 k0 (by simp [hk])
  have hmc:(M.made.map (Value.int .i64))[n]? = some (.int .i64 (M.made.getD n 0)):=by
   rw [List.getElem?_map,List.getElem?_eq_getElem hnl,List.getD_eq_getElem?_getD,List.getElem?_eq_getElem hnl];rfl
  have m3c:=m3.cell hmc;have m3f:=m3.free n;have hmb:=a.made hk;rw [hn,Int.toNat_natCast]at hmb
  have hm0:0≤M.made.getD n 0:=by
   have:=h.ok.mades n (M.made.getD n 0) (by rw [List.getD_eq_getElem?_getD,List.getElem?_eq_getElem hnl];rfl);omega
  obtain⟨v,hv⟩:∃ v,v=M.made.getD n 0:=⟨_,rfl⟩;rw [<- hv]at m3c hmb hm0
  have Hm:Hid (Row ((w3.setCell ⟨mg,n,none⟩ (.int .i64 (v+1))).drew) mg 3 mc ((M.add t).made.map (Value.int .i64))):=by
   have:=m3.set n (.int .i64 (v+1))
   have e1:(M.made.map (Value.int .i64)).set n (.int .i64 (v+1))=(M.add t).made.map (Value.int .i64):=by
    simp [WM.add,hk,hn,hv]
   rw [e1]at this;exact this
  have kk:(t.kind==14)=false:=by simp [hk]
  have npm:¬ p=mg:=pm;have nmp:¬ mg=p:=Ne.symm pm;have k1':w3.cell? ⟨w.heap.size,1,none⟩=some (.int .i64 (n:Int)):=by rw [<- hn];exact k1
  have Hk:Hid (Keeps F w w3):=K3;have Hs:Hid (w3.heap.size=w.heap.size+1):=s3.trans s2;have Hp:Hid (p≠mg/\w.heap.size≠mg/\tb≠mg/\fb≠mg/\F mg):=⟨pm,by omega,Ne.symm mt,Ne.symm mf,h.own.2.2.1⟩;have Hf:Hid (HasMap Tryz.prog 211 w3 fb (faf M) fn):=f3;have Hff:Hid (∀ x,faf (M.add t) x=faf M x):=faf_add_not hk;have hml:(n:Int)<M.made.length:=by omega
  have hm16:(M.made.length:Int)≤16:=by have:=h.ok.made;have:=h.ok.sides;omega
  have hvb:v+1≤512:=by omega
  clear h a hd hF1 hm ht hf pm pt pf mt mf hnt hwl b2 s1 s2 K2 p2 B2 tu3 th3 T3 e0 s3 p3 B3 m3 f3 K3 k1 k6 k8 hk lk3 d3 Bm Bt Bf hv hmc h0 h1 hnl d2 hn hmb;have Hix:=(show Hid (Calls Tryz.prog 133 #[.pointer (some ⟨p,0,none⟩),.int .i64 (M.last+1)] w3 fun e w'=>e=.returned (.tuple #[])/\w3=w')from hix);clear hix
  go_enter Tryz.func79,Tryz.ntmps79
  go_wp2
  rw [<- hw2];clear c4 f4 hw2
  go_still_tail 8,(by kernel_rfl)
  change wpList _ _ _ _ _ w2.drew
  go_wp2_with fail
  refine Hix.out.mono ?_;rintro e w4 ⟨rfl,rfl⟩;clear g2 g4 hrun
  go_wp2_with fail
  go_still_tail 10,(by kernel_rfl)
  change wpList _ _ _ _ _ w3.drew
  go_wp2_with fail
  go_ret
  obtain⟨n1,n2,n3,n4,n5⟩:=Hp.out;have hs:∀ b,b≠mg->(w3.setCell ⟨mg,n,none⟩ (.int .i64 (v+1))).drew.heap[b]? = w3.heap[b]?:=fun b hb=>Below.heap_setCell w3 ⟨mg,n,none⟩ _ b hb;have hk3:Keeps F w3 (w3.setCell ⟨mg,n,none⟩ (.int .i64 (v+1))).drew:=(Keeps.setCell w3 ⟨mg,n,none⟩ _ n5).drew;refine⟨rfl,(fin _).out ?_ (hs p n1) (hs _ n2) Hm.out (hs tb n3) ⟨fn,by omega,(Hf.out.congr (fun x _ _=>Hff.out x)).of_block (hs fb n4)⟩ (fun b _ hb _=>hs b hb),Hk.out.trans hk3 (fun _ _ h=>h) (fun _ _ h=>h)⟩;have:=Hs.out;have:=hk3.size;omega
end
end Go.Proofs.YthaliljaglldjaaGreat
