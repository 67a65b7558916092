/- Part of the proof. -/
import Derived.Test.YthaliljaglldjaaGreatmBD
namespace Go.Proofs.YthaliljaglldjaaGreat
set_option maxHeartbeats 16000000
set_option maxRecDepth 20000
open Go.RowKit Go.ChangeMaps Go.MapKept
section
attribute [local go_sem ↓] aW in
theorem nH {w:World} {F:Nat->Prop} (vs:List Val) (raw:Value) (hS:SlAt w F raw vs) (hd:bY 17 (aJ vs)):Calls Tryz.prog 246 #[raw] w (dE w (aJ vs)):=by
 obtain⟨p,c,rfl⟩:=hS.form;have hb0:Bl w (w.alloc (.cells zV 27)):=(Below.refl _ w).alloc aH _;have HO:Hid _:=lO 17 (aJ vs) (.slice p vs.length c) (w.alloc (.cells zV 27)) F hd (hS.on hb0);have H0:Hid _:=And.intro hb0 (ai w (.cells zV 27));clear hS hd hb0;simp only [au,aJ,zV]at HO ⊢
 go_enter Tryz.func246,Tryz.ntmps246
 go_wp2_with fail
 refine Calls.mono HO.out ?_;rintro e w1 ⟨raw',rfl,hb1,hs1,hn1⟩;obtain⟨p1,c1,rfl⟩:=hs1.form;have hg1:=ae hb1 H0.out.2;have hst:=az (c':=#[U 3,J 0,T_,.slice p1 vs.length c1,J 0]) hg1 rfl rfl (by simp [go_sem]);have HZ:Hid _:=ah (c':=#[U 3,J 0,T_,.slice p1 vs.length c1,J 0]) hg1;have hk:=aQ w1 w.heap.size (V_ 3 0 ⟨#[]⟩ (.slice p1 vs.length c1) 0)
 have HE:Hid (Bl w (w1.setRow w.heap.size (V_ 3 0 ⟨#[]⟩ (.slice p1 vs.length c1) 0))/\SlAt (w1.setRow w.heap.size (V_ 3 0 ⟨#[]⟩ (.slice p1 vs.length c1) 0)) (fun b=>w.heap.size≤b) (.slice p1 vs.length c1) vs/\(vs = []->Value.slice p1 vs.length c1=.slice none 0 0)):=by
  have hbw:=H0.out.1.trans (hb1.mono H0.out.1.size);refine⟨Below.setRow hbw aH _,(SlAt.keeps hs1 hk fun b h1 h2=>?_).mono fun b hb=>?_,hn1⟩
  ·have:(w.alloc (.cells zV 27)).heap.size≤b:=h2;rw [World.size_alloc]at this;omega
  ·have:(w.alloc (.cells zV 27)).heap.size≤b:=hb;rw [World.size_alloc]at this;omega
 clear hg1 hb1 hs1 hn1 hk H0 HO;simp only [au]
 go_wp2_with fail
 obtain⟨⟨r0,r1,r2,r3,r4⟩,-⟩:=ax HZ.out;exact bodyPost_ret (v:=.agg (V_ 3 0 ⟨#[]⟩ (.slice p1 vs.length c1) 0)) (by simp [results,Tryz.results246,go_sem,r0,r1,r2,r3,r4]) rfl ⟨_,rfl,HE.out.1,HE.out.2.1,HE.out.2.2⟩
attribute [local go_sem ↓] aW in
theorem vh (w:World) (n:Int):Calls Tryz.prog 247 #[J n] w (dE w (cj n)):=by
 have hg:=ai w (.cells zV 27);have hst:=az (c':=#[U 1,J n,T_,S_,J 0]) hg rfl rfl (by simp [go_sem]);have HZ:Hid _:=ah (c':=#[U 1,J n,T_,S_,J 0]) hg;have HE:Hid (Bl w ((w.alloc (.cells zV 27)).setRow w.heap.size (V_ 1 n ⟨#[]⟩ (S_) 0))):=Below.setRow ((Below.refl _ w).alloc aH _) aH _;clear hg;simp only [zV]at hst HZ HE
 go_enter Tryz.func247,Tryz.ntmps247
 go_wp2_with fail
 obtain⟨⟨r0,r1,r2,r3,r4⟩,-⟩:=ax HZ.out;exact bodyPost_ret (v:=.agg (V_ 1 n ⟨#[]⟩ (S_) 0)) (by simp [results,Tryz.results247,go_sem,r0,r1,r2,r3,r4]) rfl ⟨_,rfl,HE.out,SlAt.nil _ _ _ _,fun _=>rfl⟩
def dI (t:Th) (v:Val):Val × Int :=
 if v.kind≠0 then (nilV,2)else if t.kind=2 then (aJ t.vs,0)else if t.kind=3 then (cj t.n,0)else if t.kind=10/\t.full=false then (nilV,82)else (t.v,0)
theorem mE:bX 29 27 28 bp:=fun _ _ _ _ _=>rfl
def wq (w:World) (t:Th) (v:Val) (e:Ending) (w':World):Prop :=
 ∃ raw',e=.returned (.tuple #[.agg (au (dI t v).1 raw'),J (dI t v).2])/\Bl w w'/\SlAt w' (fun b=>w.heap.size≤b) raw' (dI t v).1.l
theorem dS {w w1:World} {t:Th} {v x:Val} {n:Int} {raw':Value} {b:Nat} (hb:Bl w w1) (hg:w1.heap[b]? = some (.cells zV 27 (0,0))) (hbw:w.heap.size≤b) (hr:dI t v=(x,n)) (hS:SlAt w1 (fun y=>w.heap.size≤y/\y≠b) raw' x.l) :
 (w1.setRow b (au x raw')).heap[b]? = some (.cells (au x raw') 27 (0,0))/\wq w t v (.returned (.tuple #[.agg (au x raw'),J n])) (w1.setRow b (au x raw')) :=
 ⟨ah hg,raw',by rw [hr],Below.setRow hb hbw _,by rw [hr];exact(hS.keeps (aQ _ _ _) fun y h1 h2=>h2.2 h1).mono fun y h=>h.1⟩
attribute [local go_sem ↓] aW mE in
theorem wL {w:World} {F:Nat->Prop} (t:Th) (hk:t.kind=1\/t.kind=2\/t.kind=3\/t.kind=10) (h1:SlAt w F t.vl t.v.l) (h2:SlAt w F t.vals t.vs) (hd:bY 17 t.v) (hds:bY 17 (aJ t.vs)) (v:Val) (raw:Value) :
 Calls Tryz.prog 188 #[.agg (aF t),.agg (au v raw)] w (wq w t v):=by
 obtain⟨pv,cv,hv⟩:=h1.form;obtain⟨ps,cs,hvals⟩:=h2.form;obtain⟨k,h,⟨vk,vn,vstr,vl,vr⟩,tvl,vs,vals,n,lo,tg,bi,s,fu,code,names⟩:=t;obtain⟨ak,an,astr,al,ar⟩:=v;simp only at hv hvals h1 h2 hd hds hk;subst hv hvals;obtain⟨t,ht⟩:∃ t:Th,t=⟨k,h,⟨vk,vn,vstr,vl,vr⟩,.slice pv vl.length cv,vs,.slice ps vs.length cs,n,lo,tg,bi,s,fu,code,names⟩:=⟨_,rfl⟩;have e0:=aG ((w.alloc (.cells (aF t) 46)).alloc (.cells (V_ ak an astr raw ar) 27)) (.cells zV 27) (aL w (.cells (aF t) 46) (.cells (V_ ak an astr raw ar) 27));have e1:=aG ((w.alloc (.cells (aF t) 46)).alloc (.cells (V_ ak an astr raw ar) 27)) (.cells zV 27) (aK w (.cells (aF t) 46) (.cells (V_ ak an astr raw ar) 27));have e2:=ai ((w.alloc (.cells (aF t) 46)).alloc (.cells (V_ ak an astr raw ar) 27)) (.cells zV 27);rw [World.size_alloc,World.size_alloc]at e2;have hb0:Bl w (((w.alloc (.cells (aF t) 46)).alloc (.cells (V_ ak an astr raw ar) 27)).alloc (.cells zV 27)):=(((Below.refl _ w).alloc aH _).alloc (by simp) _).alloc (by simp;omega) _;have H0:Hid (∀ w1,w1=((w.alloc (.cells (aF t) 46)).alloc (.cells (V_ ak an astr raw ar) 27)).alloc (.cells zV 27)->Bl w w1/\w1.heap[w.heap.size]? = some (.cells (aF t) 46 (0,0))/\w1.heap[w.heap.size+1]? = some (.cells (V_ ak an astr raw ar) 27 (0,0))/\w1.heap[w.heap.size+1+1]? = some (.cells zV 27 (0,0))):=fun w1 e=>by subst e;exact⟨hb0,e0,e1,e2⟩
 have HS:Hid (SlAt w F (.slice pv vl.length cv) vl/\SlAt w F (.slice ps vs.length cs) vs/\bY 17 ⟨vk,vn,vstr,vl,vr⟩/\bY 17 (aJ vs)):=⟨h1,h2,hd,hds⟩;clear h1 h2 hd hds e0 e1 e2 hb0;rw [ht]at H0;simp only [au,aF,zV]at H0 ⊢
 go_enter Tryz.func188,Tryz.ntmps188
 go_upto_region 1 with fail
 revert H0;generalize World.alloc _ _=w1;intro H0;have H0:Hid (_/\_):=H0.out w1 rfl;have c0:=(ax H0.out.2.2.1).1.1;have HR:Hid (w.heap.size≤w.heap.size+1+1):=by show _≤_;omega
 have hst0:=az (c':=zV) H0.out.2.2.2 rfl rfl (by simp [go_sem,zV])
 by_cases hak:ak=0
 rotate_left
 ·have b0:(ak != 0)=true:=by simpa using hak
  have HF:Hid _:=dS (t:=t) (v:=⟨ak,an,astr,al,ar⟩) (x:=nilV) (n:=2) (raw':=S_) H0.out.1 H0.out.2.2.2 HR.out (by unfold dI;rw [if_pos (by simpa using hak)]) (SlAt.nil _ _ _ _);simp only [au,zV]at HF hst0;clear H0 hk
  go_wp2_with fail
  obtain⟨⟨r0,r1,r2,r3,r4⟩,-⟩:=ax HF.out.1;exact bodyPost_ret (by simp [results,Tryz.results188,go_sem,r0,r1,r2,r3,r4];rfl) rfl (by rw [<- ht];exact HF.out.2)
 subst hak
 rcases hk with rfl | rfl | rfl | rfl
 rotate_left
 ·-- a log
  obtain⟨⟨-,-,-,-,-⟩,-⟩:=ax H0.out.2.2.1;have k0:w1.cell? ⟨w.heap.size,0,none⟩=some (.int .u8 2):=by rw [ag H0.out.2.1];rfl
  have k7:w1.cell? ⟨w.heap.size,7,none⟩=some (.slice ps vs.length cs):=by rw [ag H0.out.2.1];rfl
  have HL:Hid _:=nH vs (.slice ps vs.length cs) (HS.out.2.1.on H0.out.1) HS.out.2.2.2;clear hst0
  go_wp2_with fail
  refine Calls.mono HL.out ?_;rintro e w5 ⟨raw',rfl,hb5,hs5,-⟩;obtain⟨p5,c5,rfl⟩:=hs5.form;have hg5:=ae hb5 H0.out.2.2.2;have hlt:=aw H0.out.2.2.2;have hst5:=az (c':=#[U 3,J 0,T_,.slice p5 vs.length c5,J 0]) hg5 rfl rfl (by simp [go_sem]);have HF:Hid _:=dS (t:=t) (v:=⟨0,an,astr,al,ar⟩) (x:=aJ vs) (n:=0) (raw':=.slice p5 vs.length c5) (H0.out.1.trans (hb5.mono H0.out.1.size)) hg5 HR.out (by rw [ht];rfl) (hs5.mono fun b hb=>⟨Nat.le_trans H0.out.1.size hb,fun e=>by have:w1.heap.size≤b:=hb;omega⟩);simp only [au,aJ]at HF ⊢;clear H0 HL hb5 hs5 hg5 k0 k7 c0 HS
  go_wp2_with fail
  obtain⟨⟨r0,r1,r2,r3,r4⟩,-⟩:=ax HF.out.1;exact bodyPost_ret (by simp [results,Tryz.results188,go_sem,r0,r1,r2,r3,r4];rfl) rfl (by rw [<- ht];exact HF.out.2)
 ·-- a tally
  have k0:w1.cell? ⟨w.heap.size,0,none⟩=some (.int .u8 3):=by rw [ag H0.out.2.1];rfl
  have k8:w1.cell? ⟨w.heap.size,8,none⟩=some (.int .i64 n):=by rw [ag H0.out.2.1];rfl
  have HL:Hid _:=vh w1 n;clear hst0
  go_wp2_with fail
  refine Calls.mono HL.out ?_;rintro e w5 ⟨raw',rfl,hb5,-,hn5⟩;obtain rfl:=hn5 rfl;have hg5:=ae hb5 H0.out.2.2.2;have hst5:=az (c':=#[U 1,J n,T_,S_,J 0]) hg5 rfl rfl (by simp [go_sem]);have HF:Hid _:=dS (t:=t) (v:=⟨0,an,astr,al,ar⟩) (x:=cj n) (n:=0) (raw':=S_) (H0.out.1.trans (hb5.mono H0.out.1.size)) hg5 HR.out (by rw [ht];rfl) (SlAt.nil _ _ _ _);simp only [au]at HF ⊢;clear H0 HL hb5 hg5 k0 k8 c0 HS
  go_wp2_with fail
  obtain⟨⟨r0,r1,r2,r3,r4⟩,-⟩:=ax HF.out.1;exact bodyPost_ret (by simp [results,Tryz.results188,go_sem,r0,r1,r2,r3,r4];rfl) rfl (by rw [<- ht];exact HF.out.2)
 ·-- a promise
  have k0:w1.cell? ⟨w.heap.size,0,none⟩=some (.int .u8 10):=by rw [ag H0.out.2.1];rfl
  have k13:w1.cell? ⟨w.heap.size,13,none⟩=some (.bool fu):=by rw [ag H0.out.2.1];rfl
  cases fu with
  | false =>
    have HF:Hid _:=dS (t:=t) (v:=⟨0,an,astr,al,ar⟩) (x:=nilV) (n:=82) (raw':=S_) H0.out.1 H0.out.2.2.2 HR.out (by rw [ht];rfl) (SlAt.nil _ _ _ _);simp only [au,zV]at HF hst0;clear H0
    go_wp2_with fail
    obtain⟨⟨r0,r1,r2,r3,r4⟩,-⟩:=ax HF.out.1;exact bodyPost_ret (by simp [results,Tryz.results188,go_sem,r0,r1,r2,r3,r4];rfl) rfl (by rw [<- ht];exact HF.out.2)
  | true =>
    have hld:=cF (t:=⟨10,h,⟨vk,vn,vstr,vl,vr⟩,.slice pv vl.length cv,vs,.slice ps vs.length cs,n,lo,tg,bi,s,true,code,names⟩) H0.out.2.1;have HL:Hid _:=lO 17 ⟨vk,vn,vstr,vl,vr⟩ (.slice pv vl.length cv) w1 F HS.out.2.2.1 (HS.out.1.on H0.out.1);clear hst0;simp only [au]at hld HL
    go_wp2_with fail
    refine Calls.mono HL.out ?_;rintro e w5 ⟨raw',rfl,hb5,hs5,-⟩;obtain⟨p5,c5,rfl⟩:=hs5.form;have hg5:=ae hb5 H0.out.2.2.2;have hlt:=aw H0.out.2.2.2;have hst5:=az (c':=#[U vk,J vn,.string vstr,.slice p5 vl.length c5,J vr]) hg5 rfl rfl (by simp [go_sem]);have HF:Hid _:=dS (t:=t) (v:=⟨0,an,astr,al,ar⟩) (x:=⟨vk,vn,vstr,vl,vr⟩) (n:=0) (raw':=.slice p5 vl.length c5) (H0.out.1.trans (hb5.mono H0.out.1.size)) hg5 HR.out (by rw [ht];rfl) (hs5.mono fun b hb=>⟨Nat.le_trans H0.out.1.size hb,fun e=>by have:w1.heap.size≤b:=hb;omega⟩);simp only [au]at HF ⊢;clear H0 HL hb5 hs5 hg5 k0 k13 c0 HS hld
    go_wp2_with fail
    obtain⟨⟨r0,r1,r2,r3,r4⟩,-⟩:=ax HF.out.1;exact bodyPost_ret (by simp [results,Tryz.results188,go_sem,r0,r1,r2,r3,r4];rfl) rfl (by rw [<- ht];exact HF.out.2)
 ·-- a cell
  have k0:w1.cell? ⟨w.heap.size,0,none⟩=some (.int .u8 1):=by rw [ag H0.out.2.1];rfl
  have hld:=cF (t:=⟨1,h,⟨vk,vn,vstr,vl,vr⟩,.slice pv vl.length cv,vs,.slice ps vs.length cs,n,lo,tg,bi,s,fu,code,names⟩) H0.out.2.1;have HL:Hid _:=lO 17 ⟨vk,vn,vstr,vl,vr⟩ (.slice pv vl.length cv) w1 F HS.out.2.2.1 (HS.out.1.on H0.out.1);clear hst0;simp only [au]at hld HL
  go_wp2_with fail
  refine Calls.mono HL.out ?_;rintro e w5 ⟨raw',rfl,hb5,hs5,-⟩;obtain⟨p5,c5,rfl⟩:=hs5.form;have hg5:=ae hb5 H0.out.2.2.2;have hlt:=aw H0.out.2.2.2;have hst5:=az (c':=#[U vk,J vn,.string vstr,.slice p5 vl.length c5,J vr]) hg5 rfl rfl (by simp [go_sem]);have HF:Hid _:=dS (t:=t) (v:=⟨0,an,astr,al,ar⟩) (x:=⟨vk,vn,vstr,vl,vr⟩) (n:=0) (raw':=.slice p5 vl.length c5) (H0.out.1.trans (hb5.mono H0.out.1.size)) hg5 HR.out (by rw [ht];rfl) (hs5.mono fun b hb=>⟨Nat.le_trans H0.out.1.size hb,fun e=>by have:w1.heap.size≤b:=hb;omega⟩);simp only [au]at HF ⊢;clear H0 HL hb5 hs5 hg5 k0 c0 HS hld
  go_wp2_with fail
  obtain⟨⟨r0,r1,r2,r3,r4⟩,-⟩:=ax HF.out.1;exact bodyPost_ret (by simp [results,Tryz.results188,go_sem,r0,r1,r2,r3,r4];rfl) rfl (by rw [<- ht];exact HF.out.2)
end
section
def LikeT (l l':List (Int × Th)):Prop:=l'.length=l.length/\∀ (i:Nat) (x:Int × Th),l[i]? = some x->∃ vl vals,l'[i]? = some (x.1,{ x.2 with vl:=vl,vals:=vals })
def Told7 (w:World) (B:Nat) (N:WM) (v:Value):Prop :=
 ∃ sP sT sM l,v=.agg #[sP,S_,sT,J N.last,sM]/\w.ownsRow B 35 1 sP N.parents.length (N.parents.map (Value.int .i64))/\RowE w B (fun b=>B≤b) sT l/\LikeT N.things l/\w.ownsRow B 3 1 sM N.made.length (N.made.map (Value.int .i64))
def yA (N:WM):Prop:=∀ x ∈ N.things,bY 16 x.2.v/\(∀ v ∈ x.2.vs,bY 16 v)/\x.2.vs.length≤1000
structure TL1 (w:World) (xs:List Int) (u:Value) (wr:World):Prop where
 bel:Bl w wr
 box:wr.heap[w.heap.size+1]? = some (.cells #[u,S_,S_,J 0,S_] 67 (0,0))
 res:wr.heap[w.heap.size]? = some (.cells #[S_,S_,S_,J 0,S_] 67 (0,0))
 row:wr.ownsRow (w.heap.size+2) 35 1 u xs.length (xs.map (Value.int .i64))
theorem rf:(Tryz.prog.info? 35).map (fun i=>(i.zero,i.size,i.bytes))=some (some (.int .i64 0),1,8):=by kernel_rfl
def zE (w1:World) (B:Nat) (u:Value) (xs:List Int) (x:Int) (v:Value) (wx:World):Prop:=wx.ownsRow B 35 1 v (xs ++ [x]).length ((xs ++ [x]).map (Value.int .i64))/\Keeps (fun b=>u.ownBlock=some b) w1 wx
theorem TL1.next {w wr w7:World} {xs:List Int} {x:Int} {u v:Value} (h:TL1 w xs u wr) (hq:zE wr (w.heap.size+2) u xs x v w7):TL1 w (xs ++ [x]) v (w7.setCell ⟨w.heap.size+1,0,none⟩ v):=by
 obtain⟨h1,hk⟩:=hq;have hu:∀ b,u.ownBlock=some b->w.heap.size+2≤b:=fun b hb=>(h.row.lt b hb).1;have hb7:=hk.none h.box (fun e=>by have:=hu _ e;omega);have hr7:=hk.none h.res (fun e=>by have:=hu _ e;omega);have hks:=Keeps.setCell (S:=fun b=>b=w.heap.size+1) w7 ⟨w.heap.size+1,0,none⟩ v rfl
 exact {
  bel:=(h.bel.trans (hk.below h.bel.size fun b hb=>by have:=hu b hb;omega)).setCell (by simp) _
  box:=aA hb7 0 v
  res:=hks.none hr7 (by omega)
  row:=ownsRow_keeps h1 hks fun b hb e=>by have:=(h1.lt b hb).1;omega }
structure TL2 (w:World) (N:WM) (sP:Value) (i:Nat) (u:Value) (L:List (Int × Th)) (wr:World):Prop where
 bel:Bl w wr
 box:wr.heap[w.heap.size+1]? = some (.cells #[sP,S_,u,J 0,S_] 67 (0,0))
 res:wr.heap[w.heap.size]? = some (.cells #[S_,S_,S_,J 0,S_] 67 (0,0))
 rowP:wr.ownsRow (w.heap.size+2) 35 1 sP N.parents.length (N.parents.map (Value.int .i64))
 rowE:RowE wr (w.heap.size+2) (fun b=>w.heap.size+2≤b) u L
 apart:∀ b,sP.ownBlock=some b->u.ownBlock≠some b
 like:LikeT (N.things.take i) L
theorem TL1.two {w wr:World} {N:WM} {u:Value} (h:TL1 w N.parents u wr):TL2 w N u 0 (S_) [] wr :=
 ⟨h.bel,h.box,h.res,h.row,RowE.nil _ _ _,(fun b _ e=>by cases e),rfl,fun i x hx=>by simp at hx⟩
def zH (w1:World) (B:Nat) (u:Value) (l:List (Int × Th)) (r:Int) (t:Th) (v:Value) (wx:World):Prop :=
 ∃ vl' vals',RowE wx B (fun b=>B≤b) v (l ++ [(r,{ t with vl:=vl',vals:=vals' })])/\Keeps (fun b=>u.ownBlock=some b) w1 wx/\(v.ownBlock=u.ownBlock\/∃ g,v.ownBlock=some g/\w1.heap.size≤g)
theorem LikeT.snoc {l l':List (Int × Th)} {x:Int × Th} {vl vals:Value} (h:LikeT l l'):LikeT (l ++ [x]) (l' ++ [(x.1,{ x.2 with vl:=vl,vals:=vals })]):=by
 obtain⟨h1,h2⟩:=h;refine⟨by simp [h1],fun i y hy=>?_⟩;rw [List.getElem?_append]at hy ⊢;rw [h1];split at hy
 ·rename_i hlt
  rw [if_pos hlt];exact h2 i y hy
 ·rename_i hlt
  rw [if_neg hlt]
  have:i - l.length=0:=by
   have:=ji hy;simp at this;omega
  rw [this]at hy ⊢;simp at hy;subst hy;exact⟨vl,vals,rfl⟩
theorem TL2.next {w wr w7:World} {N:WM} {sP u v:Value} {i:Nat} {L:List (Int × Th)} {x:Int × Th} (h:TL2 w N sP i u L wr) (hx:N.things[i]? = some x) (hq:zH wr (w.heap.size+2) u L x.1 x.2 v w7) :
 ∃ L',TL2 w N sP (i+1) v L' (w7.setCell ⟨w.heap.size+1,2,none⟩ v):=by
 obtain⟨vl,vals,h1,hk,ho⟩:=hq;have hu:∀ b,u.ownBlock=some b->w.heap.size+2≤b:=fun b hb=>(h.rowE.own b hb).1;have hb7:=hk.none h.box (fun e=>by have:=hu _ e;omega);have hr7:=hk.none h.res (fun e=>by have:=hu _ e;omega);have hks:=Keeps.setCell (S:=fun b=>b=w.heap.size+1) w7 ⟨w.heap.size+1,2,none⟩ v rfl;have hp7:=ownsRow_keeps h.rowP hk fun b hb e=>h.apart b hb e;refine⟨_,⟨(h.bel.trans (hk.below h.bel.size fun b hb=>by have:=hu b hb;omega)).setCell (by simp) _,aA hb7 2 v,hks.none hr7 (by omega),ownsRow_keeps hp7 hks fun b hb e=>by have:=(h.rowP.lt b hb).1;omega,⟨ownsRow_keeps h1.row hks fun b hb e=>by have:=(h1.own b hb).1;omega,fun y hy=>?_⟩,fun b hb e=>?_,?_⟩⟩
 ·exact((h1.deep y hy).keeps hks fun b hb _ e=>by have:=hb.1;omega).mono fun b hb=>hb.1
 ·rcases ho with ho | ⟨g,ho,hg⟩
  ·exact h.apart b hb (ho ▸ e)
  ·rw [ho]at e
   cases e
   have:=(h.rowP.lt _ hb).2;omega
 ·rw [List.take_add_one,hx];exact h.like.snoc
structure TL3 (w:World) (N:WM) (sP uT:Value) (L:List (Int × Th)) (md:Value) (wr:World):Prop where
 bel:Bl w wr
 box:wr.heap[w.heap.size+1]? = some (.cells #[sP,S_,uT,J N.last,md] 67 (0,0))
 res:wr.heap[w.heap.size]? = some (.cells #[S_,S_,S_,J 0,S_] 67 (0,0))
 rowP:wr.ownsRow (w.heap.size+2) 35 1 sP N.parents.length (N.parents.map (Value.int .i64))
 rowE:RowE wr (w.heap.size+2) (fun b=>w.heap.size+2≤b) uT L
 like:LikeT N.things L
theorem TL2.three {w wr:World} {N:WM} {u uT:Value} {i:Nat} {L:List (Int × Th)} (h:TL2 w N u i uT L wr) (hi:N.things.take i=N.things):TL3 w N u uT L (S_) (wr.setCell ⟨w.heap.size+1,3,none⟩ (J N.last)):=by
 have hks:=Keeps.setCell (S:=fun b=>b=w.heap.size+1) wr ⟨w.heap.size+1,3,none⟩ (J N.last) rfl;exact⟨h.bel.setCell (by simp) _,aA h.box 3 _,hks.none h.res (by omega),ownsRow_keeps h.rowP hks fun b hb e=>by have:=(h.rowP.lt b hb).1;omega,⟨ownsRow_keeps h.rowE.row hks fun b hb e=>by have:=(h.rowE.own b hb).1;omega,fun y hy=>((h.rowE.deep y hy).keeps hks fun b hb _ e=>by have:=hb.1;omega).mono fun b hb=>hb.1⟩,hi ▸ h.like⟩
def zD (w1:World) (B:Nat) (xs:List Int) (v:Value) (wx:World):Prop:=wx.ownsRow B 3 1 v xs.length (xs.map (Value.int .i64))/\Bl w1 wx
theorem lL (w:World) (b:Nat) (v:Value) (ts:Array Value) {x0 x1 x2 x3 x4:Value} (h:w.heap[b]? = some (.cells #[x0,x1,x2,x3,x4] 67 (0,0))) (h2:ts[2]? = some (.pointer (some ⟨b,0,none⟩))) (hv:v=.agg #[x0,x1,x2,x3,x4]) :
 (results Tryz.f26 ts).run Tryz.prog w=.ok v w:=by
 obtain⟨⟨c0,c1,c2,c3,c4⟩,-⟩:=ax h;simp [results,Tryz.results26,go_sem,c0,c1,c2,c3,c4,h2,hv]
theorem TL3.four {w wr w7:World} {N:WM} {u uT md v:Value} {L:List (Int × Th)} (h:TL3 w N u uT L md wr) (hq:zD wr (w.heap.size+2) N.made v w7) :
 TL3 w N u uT L v (w7.setCell ⟨w.heap.size+1,4,none⟩ v)/\(w7.setCell ⟨w.heap.size+1,4,none⟩ v).ownsRow (w.heap.size+2) 3 1 v N.made.length (N.made.map (Value.int .i64)):=by
 obtain⟨h1,hb⟩:=hq;have hks:=Keeps.setCell (S:=fun b=>b=w.heap.size+1) w7 ⟨w.heap.size+1,4,none⟩ v rfl;have hp:=lz h.rowP hb;have he:=h.rowE.below hb
 exact⟨⟨(h.bel.trans (hb.mono h.bel.size)).setCell (by simp) _,aA (ae hb h.box) 4 _,hks.none (ae hb h.res) (by omega),ownsRow_keeps hp hks fun b hb e=>by have:=(hp.lt b hb).1;omega,⟨ownsRow_keeps he.row hks fun b hb e=>by have:=(he.own b hb).1;omega,fun y hy=>((he.deep y hy).keeps hks fun b hb _ e=>by have:=hb.1;omega).mono fun b hb=>hb.1⟩,h.like⟩,
  ownsRow_keeps h1 hks fun b hb e=>by have:=(h1.lt b hb).1;omega⟩
def TmP (B1 q gm cm B2 nm:Nat) (wb:World) (xs:List Int) (p:Bool) (j:Nat) (v:Value) (wx:World):Prop :=
 match j with
 | 0=>v=R_ B1 4
 | 1=>v=.slice none 0 0
 | 2=>v=P_ q
 | 3=>v=P_ q
 | 4=>v=R_ q 4
 | 5=>p=false->(v=.slice (some ⟨gm,0,none⟩) nm cm)
 | 6=>p=true->zD wb B2 xs v wx
 | 7=>v=R_ B1 4
 | _=>True
theorem TmP.stab {B1 q gm cm B2 nm:Nat} {wb:World} {xs:List Int}:∀ (j:Nat) (v:Value) (w w':World),Bl w w'->TmP B1 q gm cm B2 nm wb xs false j v w->TmP B1 q gm cm B2 nm wb xs false j v w':=by
 intro j v w w' hR h;unfold TmP at h ⊢;split at h
 ·exact h
 ·exact h
 ·exact h
 ·exact h
 ·exact h
 ·exact h
 ·exact fun e=>by cases e
 ·exact h
 ·trivial
theorem TmP.turn {B1 q gm cm B2 nm:Nat} {wb:World} {xs:List Int}:∀ (j:Nat) (v:Value) (w w':World),j≠6->TmP B1 q gm cm B2 nm wb xs false j v w->TmP B1 q gm cm B2 nm wb xs true j v w':=by
 intro j v w w' hne h;unfold TmP at h ⊢;split at h
 ·exact h
 ·exact h
 ·exact h
 ·exact h
 ·exact h
 ·exact fun e=>by cases e
 ·exact absurd rfl hne
 ·exact h
 ·trivial
theorem jd:bX 67 46 66 dZ:=fun _ _ _ _ _=>rfl
def TeP (B1 q g jx nt cT B2:Nat) (uT:Value) (x:Int × Th) (wr:World) (L:List (Int × Th)) (p:Bool) (j:Nat) (v:Value) (wx:World):Prop :=
 match j with
 | 0=>v=R_ B1 2
 | 1=>v=uT
 | 2=>v=P_ q
 | 3=>v=P_ q
 | 4=>v=R_ q 2
 | 5=>v=.slice (some ⟨g,0,none⟩) nt cT
 | 6=>v=J jx
 | 7=>v=R_ g (jx * 17)
 | 8=>v=R_ g (jx * 17)
 | 9=>v=J x.1
 | 10=>v=P_ q
 | 11=>v=P_ q
 | 12=>v=R_ q 2
 | 13=>v=.slice (some ⟨g,0,none⟩) nt cT
 | 14=>v=J jx
 | 15=>v=R_ g (jx * 17)
 | 16=>v=R_ g (jx * 17+1)
 | 17=>v=.agg (aF x.2)
 | 18=>p=false->(∃ vl' vals',v=.agg (aF { x.2 with vl:=vl',vals:=vals' })/\Own7Q x.2 wr.heap.size vl' vals' wx)
 | 19=>p=false->(∃ vl' vals',v=.agg (bL (x.1,{ x.2 with vl:=vl',vals:=vals' })).toArray/\Own7Q x.2 wr.heap.size vl' vals' wx)
 | 20=>p=false->(∃ b vl' vals',v=.slice (some ⟨b,0,none⟩) 1 1/\wx.heap[b]? = some (.cells (bL (x.1,{ x.2 with vl:=vl',vals:=vals' })).toArray 117 (0,0))/\Own7Q x.2 wr.heap.size vl' vals' wx)
 | 21=>p=true->zH wr B2 uT L x.1 x.2 v wx
 | 22=>v=R_ B1 2
 | _=>True
theorem TeP.stab {B1 q g jx nt cT B2:Nat} {uT:Value} {x:Int × Th} {wr:World} {L:List (Int × Th)}:∀ (j:Nat) (v:Value) (w w':World),Bl w w'->TeP B1 q g jx nt cT B2 uT x wr L false j v w->TeP B1 q g jx nt cT B2 uT x wr L false j v w':=by
 intro j v w w' hR h;unfold TeP at h ⊢;split at h
 ·exact h
 ·exact h
 ·exact h
 ·exact h
 ·exact h
 ·exact h
 ·exact h
 ·exact h
 ·exact h
 ·exact h
 ·exact h
 ·exact h
 ·exact h
 ·exact h
 ·exact h
 ·exact h
 ·exact h
 ·exact h
 ·intro _;have h:=h rfl;exact h.imp fun _ h=>h.imp fun _ h=>⟨h.1,h.2.on hR⟩
 ·intro _;have h:=h rfl;exact h.imp fun _ h=>h.imp fun _ h=>⟨h.1,h.2.on hR⟩
 ·intro _;have h:=h rfl;exact h.imp fun _ h=>h.imp fun _ h=>h.imp fun _ h=>⟨h.1,ae hR h.2.1,h.2.2.on hR⟩
 ·exact fun e=>by cases e
 ·exact h
 ·trivial
theorem TeP.turn {B1 q g jx nt cT B2:Nat} {uT:Value} {x:Int × Th} {wr:World} {L:List (Int × Th)}:∀ (j:Nat) (v:Value) (w w':World),j≠21->TeP B1 q g jx nt cT B2 uT x wr L false j v w->TeP B1 q g jx nt cT B2 uT x wr L true j v w':=by
 intro j v w w' hne h;unfold TeP at h ⊢;split at h
 ·exact h
 ·exact h
 ·exact h
 ·exact h
 ·exact h
 ·exact h
 ·exact h
 ·exact h
 ·exact h
 ·exact h
 ·exact h
 ·exact h
 ·exact h
 ·exact h
 ·exact h
 ·exact h
 ·exact h
 ·exact h
 ·exact fun e=>by cases e
 ·exact fun e=>by cases e
 ·exact fun e=>by cases e
 ·exact absurd rfl hne
 ·exact h
 ·trivial
def TsP (B1 q g i np cP B2:Nat) (u:Value) (x:Int) (wr:World) (xs:List Int) (p:Bool) (j:Nat) (v:Value) (wx:World):Prop :=
 match j with
 | 0=>v=P_ B1
 | 1=>v=u
 | 2=>v=P_ q
 | 3=>v=P_ q
 | 4=>v=P_ q
 | 5=>v=.slice (some ⟨g,0,none⟩) np cP
 | 6=>v=J i
 | 7=>v=R_ g i
 | 8=>v=J x
 | 9=>p=false->(∃ b,v=.slice (some ⟨b,0,none⟩) 1 1/\wx.heap[b]? = some (.cells #[J x] 35 (0,0)))
 | 10=>p=true->zE wr B2 u xs x v wx
 | 11=>v=P_ B1
 | _=>True
theorem TsP.stab {B1 q g i np cP B2:Nat} {u:Value} {x:Int} {wr:World} {xs:List Int}:∀ (j:Nat) (v:Value) (w w':World),Bl w w'->TsP B1 q g i np cP B2 u x wr xs false j v w->TsP B1 q g i np cP B2 u x wr xs false j v w':=by
 intro j v w w' hR h;unfold TsP at h ⊢;split at h
 ·exact h
 ·exact h
 ·exact h
 ·exact h
 ·exact h
 ·exact h
 ·exact h
 ·exact h
 ·exact h
 ·intro _;have h:=h rfl;exact h.imp fun _ h=>⟨h.1,ae hR h.2⟩
 ·exact fun e=>by cases e
 ·exact h
 ·trivial
theorem TsP.turn {B1 q g i np cP B2:Nat} {u:Value} {x:Int} {wr:World} {xs:List Int}:∀ (j:Nat) (v:Value) (w w':World),j≠10->TsP B1 q g i np cP B2 u x wr xs false j v w->TsP B1 q g i np cP B2 u x wr xs true j v w':=by
 intro j v w w' hne h;unfold TsP at h ⊢;split at h
 ·exact h
 ·exact h
 ·exact h
 ·exact h
 ·exact h
 ·exact h
 ·exact h
 ·exact h
 ·exact h
 ·exact fun e=>by cases e
 ·exact absurd rfl hne
 ·exact h
 ·trivial
theorem wH {w:World} {q:Nat} {N:WM} {G:Nat->Prop} (hR:IsR w q N G) (hN:ROk N) (hM:yA N) (hp:N.parents.length≤15) (hcut:∀ b ∈ N.cuts.drop 1,b=false) (hcl:(N.cuts.drop 1).length=N.parents.length) (hmd:0<N.made.length) (hmd2:N.made.length≤1000) :
 Calls Tryz.prog 26 #[P_ q] w fun e w'=>∃ v,e=.returned v/\Told7 w' w.heap.size N v/\Bl w w':=by
 obtain⟨sP,sC,sT,sM,hV⟩:=hR;have HV:Hid (RVw w q N G sP sC sT sM):=hV;obtain⟨np,hnp⟩:∃ n,n=N.parents.length:=⟨_,rfl⟩
 obtain⟨pP,cP,hsP⟩:∃ p c,sP=.slice p np c:=by
  obtain⟨h1,⟨rfl,h0⟩ | ⟨g,cap,cur,rfl,-⟩⟩:=hV.rp
  ·exact⟨none,0,by rw [hnp,h0]⟩
  ·exact⟨_,_,by rw [hnp]⟩
 subst hsP;have HNp:Hid (np=N.parents.length/\np≤15):=⟨hnp,by omega⟩
 have HPs:Hid (∀ w',Bl w w'->∀ i x,N.parents[i]? = some x->∃ g,pP=some ⟨g,0,none⟩/\w'.cell? ⟨g,i,none⟩=some (.int .i64 x)):=fun w' hb i x hx=>by
  obtain⟨g,c,e1,e2,-,-⟩:=bP ((HV.out.below hb).rp) hx;exact⟨g,by injection e1,e2⟩
 have HCs:Hid (∀ w',Bl w w'->∀ i,i<np->∃ g c,sC=.slice (some ⟨g,0,none⟩) np c/\w'.cell? ⟨g,i,none⟩=some (.bool false)):=fun w' hb i hi=>by
  have hr:=(HV.out.below hb).rc;obtain⟨h1,⟨h2,h0⟩ | ⟨g,cap,cur,h2,hg,hblk,hc,hm,hcs,ht⟩⟩:=hr
  ·omega
  ·refine⟨g,cap,by rw [h2,hnp],?_⟩
   have hb1:(N.cuts.drop 1)[i]? = some false:=by
    have hl:i<(N.cuts.drop 1).length:=by omega
    rw [List.getElem?_eq_getElem hl,hcut _ (List.getElem_mem hl)]
   rw [ag hblk,← Array.getElem?_toList];have h3:((N.cuts.drop 1).map Value.bool)[i]? = some (.bool false):=by rw [List.getElem?_map,hb1];rfl
   rw [<- ht,List.getElem?_take]at h3;split at h3
   ·exact h3
   ·cases h3
 have HQ:Hid (∀ w',Bl w w'->w'.heap[q]? = some (.cells #[.slice pP np cP,sC,sT,J N.last,sM] 94 (0,0))):=fun w' hb=>ae hb hV.blk;have HA:Hid (ROk N/\yA N):=⟨hN,hM⟩
 have H0:Hid (∀ wx,wx=(w.alloc (.cells #[S_,S_,S_,J 0,S_] 67)).alloc (.cells #[S_,S_,S_,J 0,S_] 67)->TL1 w [] (S_) wx):=fun wx e=>by
  subst e;exact⟨((Below.refl _ w).alloc aH _).alloc (by simp) _,aK _ _ _,aL _ _ _,World.ownsRow_nil _ _ _ _⟩
 have HMs:Hid (∃ gm cm,sM=.slice (some ⟨gm,0,none⟩) N.made.length cm/\∀ w',Bl w w'->∀ j x,N.made[j]? = some x->w'.cell? ⟨gm,j,none⟩=some (.int .i64 x)):=by
  obtain⟨gm,cm,e1,-⟩:=bP hV.rm (List.getElem?_eq_getElem hmd);refine⟨gm,cm,e1,fun w' hb j x hx=>?_⟩;obtain⟨g',c',e2,e3,-⟩:=bP ((HV.out.below hb).rm) hx;rw [e1]at e2;injection e2 with e2
  cases e2
  exact e3
 have HMd:Hid (N.made.length≤1000):=hmd2;clear hV hN hM hp hcut hcl hnp hmd hmd2
 go_enter Tryz.func26,Tryz.ntmps26
 go_upto_region 2 with fail
 have H1:Hid (TL1 w [] (S_) _):=H0.out _ rfl;revert H1;generalize World.alloc (World.alloc w _) _=w1;intro H1;clear H0
 go_wp2_with fail
 go_loopw [4] (fun vi wr=>∃ (i:Nat) (u:Value),vi=J i/\i≤np/\Hid (TL1 w (N.parents.take i) u wr)) (fun vi _=>np - (intOf vi).toNat)
 case atStart=>exact⟨0,_,rfl,Nat.zero_le _,H1.out⟩
 case round =>
  clear H1;obtain⟨i,u,rfl,hi,HT⟩:=hrel;have c0:wr.cell? ⟨q,0,none⟩=some (.slice pP np cP):=by rw [ag (HQ.out wr HT.out.bel)];rfl
  by_cases hin:i<np
  ·have hiz:(i:Int)<(np:Int):=by omega
   have hi0:(0:Int)≤(i:Int):=by omega
   obtain⟨x,hx⟩:∃ x,N.parents[i]? = some x:=⟨_,List.getElem?_eq_getElem (by have:=HNp.out.1;omega)⟩;obtain⟨g,hpP,-⟩:=HPs.out wr HT.out.bel i x hx;subst hpP
   have HX:Hid (∀ w',Bl wr w'->w'.cell? ⟨g,i,none⟩=some (.int .i64 x)):=fun w' hb=>by
    obtain⟨g',e1,e2⟩:=HPs.out w' (HT.out.bel.trans (hb.mono HT.out.bel.size)) i x hx
    cases e1
    exact e2
   have HNt:Hid (N.parents.take (i+1)=N.parents.take i ++ [x]):=by show _=_;rw [List.take_add_one,hx];rfl
   have hwi:wrap64 ((i:Int)+1)=(i:Int)+1:=by have:=HNp.out.2;unfold wrap64;omega
   have HBx:Hid (wr.heap[w.heap.size+1]? = some (.cells #[u,S_,S_,J 0,S_] 67 (0,0))):=HT.out.box;have HQx:Hid (wr.heap[q]? = some (.cells #[.slice (some ⟨g,0,none⟩) np cP,sC,sT,J N.last,sM] 94 (0,0))):=HQ.out wr HT.out.bel;obtain⟨B1,hB1⟩:∃ b,b=w.heap.size+1:=⟨_,rfl⟩;rw [<- hB1]at HBx;have HWs:Hid (w.heap.size+2≤wr.heap.size):=aw HT.out.box;have HRow:Hid (wr.ownsRow (w.heap.size+2) 35 1 u (N.parents.take i).length ((N.parents.take i).map (Value.int .i64))):=HT.out.row;have HLn:Hid ((N.parents.take i).length≤15):=by show _≤_;rw [List.length_take];have:=HNp.out;omega
   go_upto_region 5 with fail
   rw [<- hB1];have HB1:Hid (B1=w.heap.size+1):=hB1;clear hB1 c0 hx;obtain⟨xs,hxs⟩:∃ xs,xs=N.parents.take i:=⟨_,rfl⟩;rw [<- hxs]at HRow HLn HNt;rw [<- hxs]at HT;clear hxs;refine bt 12 10 [11] (by kernel_rfl) rfl (by kernel_rfl) (by kernel_rfl) (by decide) (by kernel_rfl) (fun a b=>Bl a b) (TsP B1 q g i np cP (w.heap.size+2) u x wr xs) (fun p w'=>p=false->Bl wr w') TsP.stab (fun _=>below_drew) (fun a b h hR _=>(h rfl).trans (hR.mono (h rfl).size)) ?_ ?_ ?_ ?_ ?_
   ·exact fun _ _ _ _ _ h1 h2=>bC (by kernel_rfl) h1 h2
   ·intro j q a w7 hne hq hC hG;have hC:=hC rfl;have hj:j<12:=ji hq
    match j,hj with
    | 0,_=>cases hq;have h3':a.tmps[3]?.getD undef=P_ B1:=gq (hG.fr 3 (by simp));unfold Oper.wp;simp [go_sem,Act.eval,h3'];exact⟨_,rfl,br,rfl⟩
    | 1,_ =>
      cases hq;have h15':=gq (i:=15) (gd hG 0 rfl);have c3:w7.cell? ⟨B1,0,none⟩=some (u):=by rw [ag (ae hC HBx.out)];rfl
      unfold Oper.wp;simp [go_sem,Act.eval,h15',c3];exact⟨_,rfl,br,rfl⟩
    | 2,_=>cases hq;have h0':a.tmps[0]?.getD undef=P_ q:=gq (hG.fr 0 (by simp));unfold Oper.wp;simp [go_sem,Act.eval,h0'];exact⟨_,rfl,br,rfl⟩
    | 3,_=>cases hq;have h17':=gq (i:=17) (gd hG 2 rfl);unfold Oper.wp;simp [go_sem,Act.eval,h17'];exact⟨_,rfl,br,rfl⟩
    | 4,_=>cases hq;have h18':=gq (i:=18) (gd hG 3 rfl);unfold Oper.wp;simp [go_sem,Act.eval,h18'];exact⟨_,rfl,br,rfl⟩
    | 5,_ =>
      cases hq;have h19':=gq (i:=19) (gd hG 4 rfl);have c3:w7.cell? ⟨q,0,none⟩=some (.slice (some ⟨g,0,none⟩) np cP):=by rw [ag (ae hC HQx.out)];rfl
      unfold Oper.wp;simp [go_sem,Act.eval,h19',c3];exact⟨_,rfl,br,rfl⟩
    | 6,_=>cases hq;have h4':a.tmps[4]?.getD undef=J i:=gq (hG.fr 4 (by simp));unfold Oper.wp;simp [go_sem,Act.eval,h4'];exact⟨_,rfl,br,rfl⟩
    | 7,_=>cases hq;have h20':=gq (i:=20) (gd hG 5 rfl);have h21':=gq (i:=21) (gd hG 6 rfl);unfold Oper.wp;simp [go_sem,Act.eval,h20',h21',hiz,hi0];exact⟨_,rfl,br,rfl⟩
    | 8,_ =>
      cases hq;have h22':=gq (i:=22) (gd hG 7 rfl);have c3:w7.cell? ⟨g,i,none⟩=some (.int .i64 x):=HX.out w7 hC;unfold Oper.wp;simp [go_sem,Act.eval,h22',c3];exact⟨_,rfl,br,rfl⟩
    | 9,_ =>
      cases hq;have h23':=gq (i:=23) (gd hG 8 rfl);unfold Oper.wp;simp [go_sem,Act.eval,h23'];exact⟨_,rfl,br.alloc aH _,fun _=>⟨_,rfl,ai _ _⟩⟩
    | 10,_=>exact absurd rfl hne
    | 11,_=>cases hq;have h3':a.tmps[3]?.getD undef=P_ B1:=gq (hG.fr 3 (by simp));unfold Oper.wp;simp [go_sem,Act.eval,h3'];exact⟨_,rfl,br,rfl⟩
   ·intro q a w7 hq hC hG;have hC:=hC rfl;cases hq;have h16:a.tmps.getD 16 undef=u:=gd hG 1 rfl;have h16':a.tmps[16]?.getD undef=u:=gq h16;have p24:(∃ b,(a.tmps.getD 24 undef)=.slice (some ⟨b,0,none⟩) 1 1/\w7.heap[b]? = some (.cells #[J x] 35 (0,0))):=hG.dep ⟨9,.data⟩ (by simp) rfl _ rfl rfl;obtain⟨b,e24,hb24⟩:=p24;obtain⟨iv,hi',hz,i1,i2⟩:=info_parts rf;refine cD (.tmp 16) (.tmp 24) 39 rfl (w.heap.size+2) 35 iv (J 0) 1 8 Tryz.underlying39 hi' hz i1 i2 rfl (by decide) u xs.length _ h16 (lz HRow.out hC) ⟨b,0,none⟩ 1 1 [J x] e24 rfl (fun j y hj=>?_) (fun y hy=>?_) (by have:=HLn.out;unfold maxLen;omega) (by have:=HLn.out;omega) (Nat.le_trans HWs.out hC.size) ?_
    ·rw [Addr.add_lit,Nat.zero_add,ag hb24];simpa using hj
    ·rw [List.mem_singleton.1 hy];rfl
    ·intro v' w' r1 r2 r4;exact⟨v',rfl,(fun h=>by cases h),fun _=>⟨by simpa using r1,(Keeps.of_below hC).trans (Keeps.of_grown r2 (S:=fun b=>u.ownBlock=some b) fun y hy=>hy) (fun _ _ h=>h) (fun _ _ h=>h)⟩,fun j y hj h=>TsP.turn j y w7 w' hj h⟩
   ·intro j q a w7 hl hq hC hG;have hj:j<12:=ji hq
    match j,hj with
    | 0,_=>exact absurd hl (by decide)
    | 1,_=>exact absurd hl (by decide)
    | 2,_=>exact absurd hl (by decide)
    | 3,_=>exact absurd hl (by decide)
    | 4,_=>exact absurd hl (by decide)
    | 5,_=>exact absurd hl (by decide)
    | 6,_=>exact absurd hl (by decide)
    | 7,_=>exact absurd hl (by decide)
    | 8,_=>exact absurd hl (by decide)
    | 9,_=>exact absurd hl (by decide)
    | 10,_=>exact absurd hl (by decide)
    | 11,_ =>
      cases hq;have h3':a.tmps[3]?.getD undef=P_ B1:=gq (hG.fr 3 (by simp));refine aT (R:=fun x y=>y=x) (P_ B1) ?_ rfl rfl;simp [execOp,go_sem,Act.eval,h3']
   ·intro a w7 hC hdf hsz hfr hphi;have e0:a.tmps.getD 15 undef=_:=hphi 0 _ rfl;have e1:a.tmps.getD 16 undef=u:=hphi 1 _ rfl;have e2:a.tmps.getD 17 undef=_:=hphi 2 _ rfl;have e3:a.tmps.getD 18 undef=_:=hphi 3 _ rfl;have e4:a.tmps.getD 19 undef=_:=hphi 4 _ rfl;have e5:a.tmps.getD 20 undef=_:=hphi 5 _ rfl;have e6:a.tmps.getD 21 undef=J i:=hphi 6 _ rfl;have e7:a.tmps.getD 22 undef=_:=hphi 7 _ rfl;have e8:a.tmps.getD 23 undef=J x:=hphi 8 _ rfl;obtain⟨u9,e9⟩:∃ u,a.tmps.getD 24 undef=u:=⟨_,rfl⟩;have p10:zE wr (w.heap.size+2) u xs x (a.tmps.getD 25 undef) w7:=hphi 10 _ rfl rfl;obtain⟨u10,e10⟩:∃ u,a.tmps.getD 25 undef=u:=⟨_,rfl⟩;rw [e10]at p10;have e11:a.tmps.getD 26 undef=_:=hphi 11 _ rfl;have ha:=bq hdf hsz hfr;simp only [List.take_succ_cons,List.take_zero,List.filterMap_cons,List.filterMap_nil,List.foldl_cons,List.foldl_nil,List.setIfInBounds_toArray,List.set_cons_zero,List.set_cons_succ,e0,e1,e2,e3,e4,e5,e6,e7,e8,e9,e10,e11]at ha;clear hdf hsz hfr hphi hC e0 e1 e2 e3 e4 e5 e6 e7 e8 e9 e10 e11;subst ha;have HT7:Hid (TL1 w (N.parents.take (i+1)) u10 (w7.setCell ⟨w.heap.size+1,0,none⟩ u10)):=by rw [HNt.out];exact HT.out.next p10
    have hb7:w7.heap[B1]? = some (.cells #[u,S_,S_,J 0,S_] 67 (0,0)):=p10.2.none HBx.out (fun e=>by have:=(HRow.out.lt _ e).1;have:=HB1.out;omega);have c0:w7.cell? ⟨B1,0,none⟩=some u:=by rw [ag hb7];rfl
    have f0:=av hb7 0
    obtain⟨p8,n8,c8,hu8⟩:∃ p n c,u10=.slice p n c:=by
     obtain⟨h1,⟨h2,-⟩ | ⟨g',cap,cur,h2,-⟩⟩:=p10.1
     ·exact⟨_,_,_,h2⟩
     ·exact⟨_,_,_,h2⟩
    subst hu8;rw [<- HB1.out]at HT7;clear p10 hb7 HT HRow HBx HQx HX;refine⟨rfl,?_⟩;unfold Oper.wp;simp [execOp,go_sem,Act.eval,aV,c0,f0];refine ‹∀ (a:Act) (w:World),Code.wp Tryz.prog _ _ a w->_› _ _ ?_;revert HT7;generalize World.setCell _ _ _=w8;intro HT7;obtain⟨gc,cc,hsC,hcc⟩:=HCs.out w8 HT7.out.bel i hin;subst hsC;have c1:w8.cell? ⟨q,1,none⟩=some (.slice (some ⟨gc,0,none⟩) np cc):=by rw [ag (HQ.out w8 HT7.out.bel)];rfl
    clear c0 f0
    go_wp2_with fail
    have hb1:=HB1.out;subst hb1
    go_roundw
    case rel=>exact⟨i+1,_,by go_num,by omega,HT7.out⟩
    case measure=>rw [hwi];simp [intOf];omega
  ·have hiz:¬ (i:Int)<(np:Int):=by omega
   obtain rfl:i=np:=by omega
   have hkk:¬ (i:Int)<(i:Int):=by omega
   have hTx:=HT.out;rw [HNp.out.1,List.take_length]at hTx;have HT2:Hid (TL2 w N u 0 (S_) [] wr):=hTx.two
   have HA2:Hid (∀ w',Bl w w'->∀ j x,N.things[j]? = some x->∃ g,(∃ c,sT=.slice (some ⟨g,0,none⟩) N.things.length c)/\(∀ k v,(bL x)[k]? = some v->w'.cell? ⟨g,j * 17+k,none⟩=some v)):=fun w' hb j x hx=>by
    obtain⟨g,c,h1,h2,h3⟩:=(HV.out.below hb).ent hx;exact⟨g,⟨c,h1⟩,h3⟩
   clear HT hTx HCs HPs
   go_wp2_with fail
   obtain⟨nt,hnt⟩:∃ n,n=N.things.length:=⟨_,rfl⟩
   obtain⟨pT,cT,hsT⟩:∃ p c,sT=.slice p nt c:=by
    obtain⟨h1,⟨h2,h0⟩ | ⟨g,cap,cur,h2,-⟩⟩:=HV.out.rt
    ·exact⟨none,0,by rw [hnt,h0,h2]⟩
    ·exact⟨_,_,by rw [hnt,h2]⟩
   subst hsT;have HNt:Hid (nt=N.things.length/\nt≤100000):=⟨hnt,by have:=HA.out.1.len;omega⟩
   have HDp:Hid (∀ w',Bl w w'->∀ x ∈ N.things,∀ w'',Bl w' w''->Calls Tryz.prog 113 #[.agg (aF x.2)] w'' fun e w3=>∃ vl' vals',e=.returned (.agg (aF { x.2 with vl:=vl',vals:=vals' }))/\Bl w'' w3/\SlAt w3 (fun b=>w''.heap.size≤b) vl' x.2.v.l/\SlAt w3 (fun b=>w''.heap.size≤b) vals' x.2.vs/\(x.2.v.l = []->vl'=.slice none 0 0)/\(x.2.vs = []->vals'=.slice none 0 0)):=fun w' hb x hx w'' hb''=>by
    have hd:=(((HV.out.below hb).deep x.1 x.2 hx).on hb'');obtain⟨m1,m2,m3⟩:=HA.out.2 x hx;exact lN x.2 hd.v hd.vs hd.code hd.names m1 m2 m3
   clear hnt
   go_loopw [5] (fun vi wr=>∃ (jx:Nat) (uT:Value) (L:List (Int × Th)),vi=J jx/\jx≤nt/\Hid (TL2 w N u jx uT L wr)) (fun vi _=>nt - (intOf vi).toNat)
   case atStart=>exact⟨0,_,_,rfl,Nat.zero_le _,HT2.out⟩
   case round =>
    clear HT2;obtain⟨jx,uT,L,rfl,hj,HT⟩:=hrel;have d2:wr.cell? ⟨q,2,none⟩=some (.slice pT nt cT):=by rw [ag (HQ.out wr HT.out.bel)];rfl
    by_cases hjn:jx<nt
    ·have hjz:(jx:Int)<(nt:Int):=by omega
     have hj0:(0:Int)≤(jx:Int):=by omega
     obtain⟨x,hx⟩:∃ x,N.things[jx]? = some x:=⟨_,List.getElem?_eq_getElem (by have:=HNt.out.1;omega)⟩;obtain⟨g,⟨cg,hpT⟩,-⟩:=HA2.out wr HT.out.bel jx x hx;have hpT':pT=some ⟨g,0,none⟩:=by injection hpT
     subst hpT'
     have HX:Hid (∀ w',Bl wr w'->∀ k v,(bL x)[k]? = some v->w'.cell? ⟨g,jx * 17+k,none⟩=some v):=fun w' hb=>by
      obtain⟨g',⟨c',e1⟩,e2⟩:=HA2.out w' (HT.out.bel.trans (hb.mono HT.out.bel.size)) jx x hx;injection e1 with e1
      cases e1
      exact e2
     have HOw:Hid _:=HDp.out wr HT.out.bel x (List.mem_of_getElem? hx);have Hx:Hid (N.things[jx]? = some x):=hx;have hwj:wrap64 ((jx:Int)+1)=(jx:Int)+1:=by have:=HNt.out.2;unfold wrap64;omega
     have HBx:Hid (wr.heap[w.heap.size+1]? = some (.cells #[u,S_,uT,J 0,S_] 67 (0,0))):=HT.out.box;have HQx:Hid (wr.heap[q]? = some (.cells #[.slice pP i cP,sC,.slice (some ⟨g,0,none⟩) nt cT,J N.last,sM] 94 (0,0))):=HQ.out wr HT.out.bel
     have HL:Hid (L.length≤100000/\x.2.code=.slice none 0 0/\x.2.names=.slice none 0 0/\∀ vl' vals',(∃ p n c,vl'=.slice p n c)->(∃ p n c,vals'=.slice p n c)->(aF { x.2 with vl:=vl',vals:=vals' }).all (·.oneCell')=true):=by
      have hd:=HV.out.deep x.1 x.2 (List.mem_of_getElem? hx);refine⟨by rw [HT.out.like.1,List.length_take];have:=HNt.out;omega,hd.code,hd.names,fun vl' vals' ⟨p,n,c,e⟩ ⟨p',n',c',e'⟩=>?_⟩;subst e e';simp only [aF,hd.code,hd.names];simp [go_sem]
     have HWs:Hid (w.heap.size+2≤wr.heap.size):=aw HT.out.box;have HRE:Hid (RowE wr (w.heap.size+2) (fun b=>w.heap.size+2≤b) uT L):=HT.out.rowE;obtain⟨B1,hB1⟩:∃ b,b=w.heap.size+1:=⟨_,rfl⟩;rw [<- hB1]at HBx;clear hx hpT
     go_upto_region 11 with fail
     clear d2;rw [<- hB1];have HB1:Hid (B1=w.heap.size+1):=hB1;clear hB1;refine bt 23 21 [22] (by kernel_rfl) rfl (by kernel_rfl) (by kernel_rfl) (by decide) (by kernel_rfl) (fun a b=>Bl a b) (TeP B1 q g jx nt cT (w.heap.size+2) uT x wr L) (fun p w'=>p=false->Bl wr w') TeP.stab (fun _=>below_drew) (fun a b h hR _=>(h rfl).trans (hR.mono (h rfl).size)) ?_ ?_ ?_ ?_ ?_
     ·exact fun _ _ _ _ _ h1 h2=>bC (by kernel_rfl) h1 h2
     ·intro j q a w7 hne hq hC hG;have hC:=hC rfl;have hj:j<23:=ji hq
      match j,hj with
      | 0,_=>cases hq;have h3':a.tmps[3]?.getD undef=P_ B1:=gq (hG.fr 3 (by simp));unfold Oper.wp;simp [go_sem,Act.eval,h3'];exact⟨_,rfl,br,rfl⟩
      | 1,_ =>
        cases hq;have h50':=gq (i:=50) (gd hG 0 rfl);have c3:w7.cell? ⟨B1,2,none⟩=some (uT):=by rw [ag (ae hC HBx.out)];rfl
        unfold Oper.wp;simp [go_sem,Act.eval,h50',c3];exact⟨_,rfl,br,rfl⟩
      | 2,_=>cases hq;have h0':a.tmps[0]?.getD undef=P_ q:=gq (hG.fr 0 (by simp));unfold Oper.wp;simp [go_sem,Act.eval,h0'];exact⟨_,rfl,br,rfl⟩
      | 3,_=>cases hq;have h52':=gq (i:=52) (gd hG 2 rfl);unfold Oper.wp;simp [go_sem,Act.eval,h52'];exact⟨_,rfl,br,rfl⟩
      | 4,_=>cases hq;have h53':=gq (i:=53) (gd hG 3 rfl);unfold Oper.wp;simp [go_sem,Act.eval,h53'];exact⟨_,rfl,br,rfl⟩
      | 5,_ =>
        cases hq;have h54':=gq (i:=54) (gd hG 4 rfl);have c3:w7.cell? ⟨q,2,none⟩=some (.slice (some ⟨g,0,none⟩) nt cT):=by rw [ag (ae hC HQx.out)];rfl
        unfold Oper.wp;simp [go_sem,Act.eval,h54',c3];exact⟨_,rfl,br,rfl⟩
      | 6,_=>cases hq;have h5':a.tmps[5]?.getD undef=J jx:=gq (hG.fr 5 (by simp));unfold Oper.wp;simp [go_sem,Act.eval,h5'];exact⟨_,rfl,br,rfl⟩
      | 7,_=>cases hq;have h55':=gq (i:=55) (gd hG 5 rfl);have h56':=gq (i:=56) (gd hG 6 rfl);unfold Oper.wp;simp [go_sem,Act.eval,h55',h56',hjz,hj0];exact⟨_,rfl,br,rfl⟩
      | 8,_=>cases hq;have h57':=gq (i:=57) (gd hG 7 rfl);unfold Oper.wp;simp [go_sem,Act.eval,h57'];exact⟨_,rfl,br,rfl⟩
      | 9,_ =>
        cases hq;have h58':=gq (i:=58) (gd hG 8 rfl);have c3:w7.cell? ⟨g,jx * 17,none⟩=some (.int .i64 x.1):=HX.out w7 hC 0 _ rfl;unfold Oper.wp;simp [go_sem,Act.eval,h58',c3];exact⟨_,rfl,br,rfl⟩
      | 10,_=>cases hq;have h0':a.tmps[0]?.getD undef=P_ q:=gq (hG.fr 0 (by simp));unfold Oper.wp;simp [go_sem,Act.eval,h0'];exact⟨_,rfl,br,rfl⟩
      | 11,_=>cases hq;have h60':=gq (i:=60) (gd hG 10 rfl);unfold Oper.wp;simp [go_sem,Act.eval,h60'];exact⟨_,rfl,br,rfl⟩
      | 12,_=>cases hq;have h61':=gq (i:=61) (gd hG 11 rfl);unfold Oper.wp;simp [go_sem,Act.eval,h61'];exact⟨_,rfl,br,rfl⟩
      | 13,_ =>
        cases hq;have h62':=gq (i:=62) (gd hG 12 rfl);have c3:w7.cell? ⟨q,2,none⟩=some (.slice (some ⟨g,0,none⟩) nt cT):=by rw [ag (ae hC HQx.out)];rfl
        unfold Oper.wp;simp [go_sem,Act.eval,h62',c3];exact⟨_,rfl,br,rfl⟩
      | 14,_=>cases hq;have h5':a.tmps[5]?.getD undef=J jx:=gq (hG.fr 5 (by simp));unfold Oper.wp;simp [go_sem,Act.eval,h5'];exact⟨_,rfl,br,rfl⟩
      | 15,_=>cases hq;have h63':=gq (i:=63) (gd hG 13 rfl);have h64':=gq (i:=64) (gd hG 14 rfl);unfold Oper.wp;simp [go_sem,Act.eval,h63',h64',hjz,hj0];exact⟨_,rfl,br,rfl⟩
      | 16,_=>cases hq;have h65':=gq (i:=65) (gd hG 15 rfl);unfold Oper.wp;simp [go_sem,Act.eval,h65'];exact⟨_,rfl,br,rfl⟩
      | 17,_ =>
        cases hq;have h66:a.tmps.getD 66 undef=R_ g (jx * 17+1):=gd hG 16 rfl;refine aT (.agg (aF x.2)) ?_ br rfl;rw [jd];show (dZ (a.tmps.getD 66 undef)).run _ _=_;rw [h66];exact cB fun k v hv=>by have:=HX.out w7 hC (k+1) v (by rw [<- hv];show (_ :: (aF x.2).toList)[k+1]? = _;simp);rw [show jx * 17+1+k=jx * 17+(k+1) by omega];exact this
      | 18,_ =>
        cases hq;have h67':=gq (i:=67) (gd hG 17 rfl);unfold Oper.wp;simp [go_sem,callFunc,Act.eval,Tryz.func113,h67'];refine Calls.mono (HOw.out _ hC) ?_;rintro e w8 ⟨vl',vals',rfl,hb8,o1,o2,o3,o4⟩;exact⟨_,rfl,hb8,fun _=>⟨vl',vals',rfl,o1.mono fun b hb=>Nat.le_trans hC.size hb,o2.mono fun b hb=>Nat.le_trans hC.size hb,o3,o4⟩⟩
      | 19,_ =>
        cases hq;have h59':=gq (i:=59) (gd hG 9 rfl);have p68:(∃ vl' vals',(a.tmps.getD 68 undef)=.agg (aF { x.2 with vl:=vl',vals:=vals' })/\Own7Q x.2 wr.heap.size vl' vals' w7):=hG.dep ⟨18,.data⟩ (by simp) rfl _ rfl rfl
        obtain⟨vl',vals',e68,hq⟩:=p68;have h68':a.tmps[68]?.getD undef=.agg #[U x.2.kind,J x.2.home,U x.2.v.kind,J x.2.v.n,.string x.2.v.s,vl',J x.2.v.r,vals',J x.2.n,J x.2.lost,J x.2.tgt,J x.2.bi,U x.2.set,.bool x.2.full,x.2.code,x.2.names]:=by have e68':=e68;simp only [aF]at e68';rw [<- e68'];simp [Array.getD_eq_getD_getElem?]
        unfold Oper.wp;simp [go_sem,Act.eval,h59',h68'];exact⟨_,rfl,br,fun _=>⟨vl',vals',rfl,hq⟩⟩
      | 20,_ =>
        cases hq;have p69:(∃ vl' vals',(a.tmps.getD 69 undef)=.agg (bL (x.1,{ x.2 with vl:=vl',vals:=vals' })).toArray/\Own7Q x.2 wr.heap.size vl' vals' w7):=hG.dep ⟨19,.data⟩ (by simp) rfl _ rfl rfl
        obtain⟨vl',vals',e69,hq⟩:=p69;have h69':a.tmps[69]?.getD undef=.agg #[J x.1,U x.2.kind,J x.2.home,U x.2.v.kind,J x.2.v.n,.string x.2.v.s,vl',J x.2.v.r,vals',J x.2.n,J x.2.lost,J x.2.tgt,J x.2.bi,U x.2.set,.bool x.2.full,x.2.code,x.2.names]:=by rw [show (#[J x.1,U x.2.kind,J x.2.home,U x.2.v.kind,J x.2.v.n,.string x.2.v.s,vl',J x.2.v.r,vals',J x.2.n,J x.2.lost,J x.2.tgt,J x.2.bi,U x.2.set,.bool x.2.full,x.2.code,x.2.names]:Array Value)=(bL (x.1,{ x.2 with vl:=vl',vals:=vals' })).toArray from rfl,← e69];simp [Array.getD_eq_getD_getElem?]
        unfold Oper.wp;simp [go_sem,Act.eval,h69'];exact⟨_,rfl,br.alloc aH _,fun _=>⟨_,vl',vals',rfl,ai _ _,hq.on (br.alloc aH _)⟩⟩
      | 21,_=>exact absurd rfl hne
      | 22,_=>cases hq;have h3':a.tmps[3]?.getD undef=P_ B1:=gq (hG.fr 3 (by simp));unfold Oper.wp;simp [go_sem,Act.eval,h3'];exact⟨_,rfl,br,rfl⟩
     ·intro q a w7 hq hC hG;have hC:=hC rfl;cases hq;have h51:a.tmps.getD 51 undef=uT:=gd hG 1 rfl;have h51':a.tmps[51]?.getD undef=uT:=gq h51;have p70:(∃ b vl' vals',(a.tmps.getD 70 undef)=.slice (some ⟨b,0,none⟩) 1 1/\w7.heap[b]? = some (.cells (bL (x.1,{ x.2 with vl:=vl',vals:=vals' })).toArray 117 (0,0))/\Own7Q x.2 wr.heap.size vl' vals' w7):=hG.dep ⟨20,.data⟩ (by simp) rfl _ rfl rfl
      obtain⟨b,vl',vals',e70,hg,hq⟩:=p70;refine hQ (.tmp 51) (.tmp 70) rfl (w.heap.size+2) (G:=_) (G':=fun b=>w.heap.size+2≤b) uT L h51 (HRE.out.below hC) (x.1,{ x.2 with vl:=vl',vals:=vals' }) e70 hg ?_ ?_ (fun b h=>h) (by have:=HL.out.1;omega) (Nat.le_trans HWs.out hC.size) ?_
      ·exact⟨hq.1.mono fun b hb=>⟨Nat.le_trans HWs.out hb,fun e=>by have:=(HRE.out.own b e).2;omega⟩,hq.2.1.mono fun b hb=>⟨Nat.le_trans HWs.out hb,fun e=>by have:=(HRE.out.own b e).2;omega⟩,HL.out.2.1,HL.out.2.2.1⟩
      ·exact HL.out.2.2.2 vl' vals' (by obtain⟨p,c,e⟩:=hq.1.form;exact⟨p,_,c,e⟩) (by obtain⟨p,c,e⟩:=hq.2.1.form;exact⟨p,_,c,e⟩)
      ·intro v' w' hr hk ho;exact⟨v',rfl,(fun h=>by cases h),fun _=>⟨vl',vals',hr,(Keeps.of_below hC).trans hk (fun _ _ h=>h) (fun _ _ h=>h),ho.imp id fun h=>⟨_,h,hC.size⟩⟩,fun k y hj h=>TeP.turn k y w7 w' hj h⟩
     ·intro j q a w7 hl hq hC hG;have hj:j<23:=ji hq
      match j,hj with
      | 0,_=>exact absurd hl (by decide)
      | 1,_=>exact absurd hl (by decide)
      | 2,_=>exact absurd hl (by decide)
      | 3,_=>exact absurd hl (by decide)
      | 4,_=>exact absurd hl (by decide)
      | 5,_=>exact absurd hl (by decide)
      | 6,_=>exact absurd hl (by decide)
      | 7,_=>exact absurd hl (by decide)
      | 8,_=>exact absurd hl (by decide)
      | 9,_=>exact absurd hl (by decide)
      | 10,_=>exact absurd hl (by decide)
      | 11,_=>exact absurd hl (by decide)
      | 12,_=>exact absurd hl (by decide)
      | 13,_=>exact absurd hl (by decide)
      | 14,_=>exact absurd hl (by decide)
      | 15,_=>exact absurd hl (by decide)
      | 16,_=>exact absurd hl (by decide)
      | 17,_=>exact absurd hl (by decide)
      | 18,_=>exact absurd hl (by decide)
      | 19,_=>exact absurd hl (by decide)
      | 20,_=>exact absurd hl (by decide)
      | 21,_=>exact absurd hl (by decide)
      | 22,_ =>
        cases hq;have h3':a.tmps[3]?.getD undef=P_ B1:=gq (hG.fr 3 (by simp));refine aT (R:=fun x y=>y=x) (R_ B1 2) ?_ rfl rfl;simp [execOp,go_sem,Act.eval,h3']
     ·intro a w7 hC hdf hsz hfr hphi;have e0:a.tmps.getD 50 undef=_:=hphi 0 _ rfl;have e1:a.tmps.getD 51 undef=uT:=hphi 1 _ rfl;have e2:a.tmps.getD 52 undef=_:=hphi 2 _ rfl;have e3:a.tmps.getD 53 undef=_:=hphi 3 _ rfl;have e4:a.tmps.getD 54 undef=_:=hphi 4 _ rfl;have e5:a.tmps.getD 55 undef=_:=hphi 5 _ rfl;have e6:a.tmps.getD 56 undef=_:=hphi 6 _ rfl;have e7:a.tmps.getD 57 undef=_:=hphi 7 _ rfl;have e8:a.tmps.getD 58 undef=_:=hphi 8 _ rfl;have e9:a.tmps.getD 59 undef=_:=hphi 9 _ rfl;have e10:a.tmps.getD 60 undef=_:=hphi 10 _ rfl;have e11:a.tmps.getD 61 undef=_:=hphi 11 _ rfl;have e12:a.tmps.getD 62 undef=_:=hphi 12 _ rfl;have e13:a.tmps.getD 63 undef=_:=hphi 13 _ rfl;have e14:a.tmps.getD 64 undef=_:=hphi 14 _ rfl;have e15:a.tmps.getD 65 undef=_:=hphi 15 _ rfl;have e16:a.tmps.getD 66 undef=_:=hphi 16 _ rfl;have e17:a.tmps.getD 67 undef=_:=hphi 17 _ rfl;obtain⟨u18,e18⟩:∃ u,a.tmps.getD 68 undef=u:=⟨_,rfl⟩;obtain⟨u19,e19⟩:∃ u,a.tmps.getD 69 undef=u:=⟨_,rfl⟩;obtain⟨u20,e20⟩:∃ u,a.tmps.getD 70 undef=u:=⟨_,rfl⟩;have p21:zH wr (w.heap.size+2) uT L x.1 x.2 (a.tmps.getD 71 undef) w7:=hphi 21 _ rfl rfl;obtain⟨u21,e21⟩:∃ u,a.tmps.getD 71 undef=u:=⟨_,rfl⟩;rw [e21]at p21;have e22:a.tmps.getD 72 undef=_:=hphi 22 _ rfl;have ha:=bq hdf hsz hfr;simp only [List.take_succ_cons,List.take_zero,List.filterMap_cons,List.filterMap_nil,List.foldl_cons,List.foldl_nil,List.setIfInBounds_toArray,List.set_cons_zero,List.set_cons_succ,e0,e1,e2,e3,e4,e5,e6,e7,e8,e9,e10,e11,e12,e13,e14,e15,e16,e17,e18,e19,e20,e21,e22]at ha;clear hdf hsz hfr hphi hC e0 e1 e2 e3 e4 e5 e6 e7 e8 e9 e10 e11 e12 e13 e14 e15 e16 e17 e18 e19 e20 e21 e22;subst ha;have HT7:Hid (∃ L',TL2 w N u (jx+1) u21 L' (w7.setCell ⟨B1,2,none⟩ u21)):=by rw [HB1.out];exact HT.out.next Hx.out p21
      obtain⟨vl',vals',hre,hk,-⟩:=p21;have hb7:w7.heap[B1]? = some (.cells #[u,S_,uT,J 0,S_] 67 (0,0)):=hk.none HBx.out (fun e=>by have:=(HRE.out.own _ e).1;have:=HB1.out;omega);have c2:w7.cell? ⟨B1,2,none⟩=some uT:=by rw [ag hb7];rfl
      have f2:=av hb7 2;obtain⟨p8,c8,hu8⟩:=hre.form;obtain⟨n8,hn8⟩:∃ n8,n8=(L ++ [(x.1,{ x.2 with vl:=vl',vals:=vals' })]).length:=⟨_,rfl⟩
      rw [<- hn8]at hu8;subst hu8;clear hre hk hb7 HT HRE HBx HQx HX HOw HL hn8;refine⟨rfl,?_⟩;unfold Oper.wp;simp [execOp,go_sem,Act.eval,aV,c2,f2];refine ‹∀ (a:Act) (w:World),Code.wp Tryz.prog _ _ a w->_› _ _ ?_;obtain⟨L',HT8⟩:=HT7.out;have HT9:Hid (TL2 w N u (jx+1) (.slice p8 n8 c8) L' (w7.setCell ⟨B1,2,none⟩ (.slice p8 n8 c8))):=HT8;clear HT7 HT8 c2 f2;revert HT9;generalize World.setCell _ _ _=w8;intro HT9
      go_wp2_with fail
      have hb1:=HB1.out;subst hb1
      go_roundw
      case rel=>exact⟨⟨jx+1,by go_num,by omega,.slice p8 n8 c8,L',HT9⟩,rfl⟩
      case measure=>simp [intOf];omega
    ·have hjz:¬ (jx:Int)<(nt:Int):=by omega
     obtain rfl:jx=nt:=by omega
     have hkk2:¬ (jx:Int)<(jx:Int):=by omega
     have hTx:=HT.out;have c3:wr.cell? ⟨q,3,none⟩=some (.int .i64 N.last):=by rw [ag (HQ.out wr hTx.bel)];rfl
     have d3:wr.cell? ⟨w.heap.size+1,3,none⟩=some (.int .i64 0):=by rw [ag hTx.box];rfl
     have f3:=av hTx.box 3;clear hTx;obtain⟨gm,cm,hsM,hms⟩:=HMs.out;subst hsM;have HMs2:Hid (∀ w',Bl w w'->∀ j x,N.made[j]? = some x->w'.cell? ⟨gm,j,none⟩=some (.int .i64 x)):=hms;clear hms HMs;have HT3:Hid (TL3 w N u uT L (S_) _):=HT.out.three (by have:=HNt.out;rw [this.1,List.take_length])
     go_upto_region 13 with fail
     revert HT3;generalize World.setCell _ _ _=wb;intro HT3;obtain⟨B1,hB1⟩:∃ b,b=w.heap.size+1:=⟨_,rfl⟩;have HBx:Hid (wb.heap[B1]? = some (.cells #[u,S_,uT,J N.last,S_] 67 (0,0))):=by rw [hB1];exact HT3.out.box
     obtain⟨nm,hnm⟩:∃ n,n=N.made.length:=⟨_,rfl⟩;have HQx:Hid (wb.heap[q]? = some (.cells #[.slice pP i cP,sC,.slice pT jx cT,J N.last,.slice (some ⟨gm,0,none⟩) nm cm] 94 (0,0))):=by rw [hnm];exact HQ.out wb HT3.out.bel
     have Hnm:Hid (nm=N.made.length/\nm≤1000):=⟨hnm,by rw [hnm];exact HMd.out⟩;clear hnm;have HWb:Hid (∀ w',Bl wb w'->Bl w w'):=fun w' hb=>HT3.out.bel.trans (hb.mono HT3.out.bel.size);have HWs:Hid (w.heap.size+2≤wb.heap.size):=aw HT3.out.box;rw [<- hB1];have HB1:Hid (B1=w.heap.size+1):=hB1;clear hB1 c3 d3 f3 HT;refine bt 8 6 [7] (by kernel_rfl) rfl (by kernel_rfl) (by kernel_rfl) (by decide) (by kernel_rfl) (fun a b=>Bl a b) (TmP B1 q gm cm (w.heap.size+2) nm wb N.made) (fun p w'=>p=false->Bl wb w') TmP.stab (fun _=>below_drew) (fun a b h hR _=>(h rfl).trans (hR.mono (h rfl).size)) ?_ ?_ ?_ ?_ ?_
     ·exact fun _ _ _ _ _ h1 h2=>bC (by kernel_rfl) h1 h2
     ·intro j q a w7 hne hq hC hG;have hC:=hC rfl;have hj:j<8:=ji hq
      match j,hj with
      | 0,_=>cases hq;have h3':a.tmps[3]?.getD undef=P_ B1:=gq (hG.fr 3 (by simp));unfold Oper.wp;simp [go_sem,Act.eval,h3'];exact⟨_,rfl,br,rfl⟩
      | 1,_ =>
        cases hq;have h78':=gq (i:=78) (gd hG 0 rfl);have c3:w7.cell? ⟨B1,4,none⟩=some (.slice none 0 0):=by rw [ag (ae hC HBx.out)];rfl
        unfold Oper.wp;simp [go_sem,Act.eval,h78',c3];exact⟨_,rfl,br,rfl⟩
      | 2,_=>cases hq;have h0':a.tmps[0]?.getD undef=P_ q:=gq (hG.fr 0 (by simp));unfold Oper.wp;simp [go_sem,Act.eval,h0'];exact⟨_,rfl,br,rfl⟩
      | 3,_=>cases hq;have h80':=gq (i:=80) (gd hG 2 rfl);unfold Oper.wp;simp [go_sem,Act.eval,h80'];exact⟨_,rfl,br,rfl⟩
      | 4,_=>cases hq;have h81':=gq (i:=81) (gd hG 3 rfl);unfold Oper.wp;simp [go_sem,Act.eval,h81'];exact⟨_,rfl,br,rfl⟩
      | 5,_ =>
        cases hq;have h82':=gq (i:=82) (gd hG 4 rfl);have c3:w7.cell? ⟨q,4,none⟩=some (.slice (some ⟨gm,0,none⟩) nm cm):=by rw [ag (ae hC HQx.out)];rfl
        unfold Oper.wp;simp [go_sem,Act.eval,h82',c3];exact⟨_,rfl,br,fun _=>rfl⟩
      | 6,_=>exact absurd rfl hne
      | 7,_=>cases hq;have h3':a.tmps[3]?.getD undef=P_ B1:=gq (hG.fr 3 (by simp));unfold Oper.wp;simp [go_sem,Act.eval,h3'];exact⟨_,rfl,br,rfl⟩
     ·intro q a w7 hq hC hG;have hC:=hC rfl;cases hq;have h79:a.tmps.getD 79 undef=.slice none 0 0:=gd hG 1 rfl;have h79':a.tmps[79]?.getD undef=.slice none 0 0:=gq h79;have p83:((a.tmps.getD 83 undef)=.slice (some ⟨gm,0,none⟩) nm cm):=hG.dep ⟨5,.data⟩ (by simp) rfl _ rfl rfl;obtain⟨iv,hi',hz,i1,i2⟩:=info_parts nI;refine cD (.tmp 79) (.tmp 83) 64 rfl (w.heap.size+2) 3 iv (J 0) 1 8 Tryz.underlying64 hi' hz i1 i2 rfl (by decide) (S_) 0 [] h79 (World.ownsRow_nil _ _ _ _) ⟨gm,0,none⟩ nm cm (N.made.map (Value.int .i64)) p83 (by rw [Hnm.out.1];simp) (fun jj y hj=>?_) (fun y hy=>?_) (by have:=Hnm.out.2;unfold maxLen;omega) (by have:=Hnm.out.2;omega) (Nat.le_trans HWs.out hC.size) ?_
      ·rw [Addr.add_lit,Nat.zero_add];rw [List.getElem?_map,Option.map_eq_some_iff]at hj;obtain⟨x,hx,rfl⟩:=hj;exact HMs2.out w7 (HWb.out w7 hC) jj x hx
      ·obtain⟨x,-,rfl⟩:=List.mem_map.1 hy;rfl
      ·intro v' w' r1 r2 r4;exact⟨v',rfl,(fun h=>by cases h),fun _=>⟨by rw [Nat.zero_add,Hnm.out.1]at r1;simpa using r1,hC.trans ((Keeps.of_grown r2 (S:=fun _=>False) fun y hy=>by cases hy).below hC.size fun _ h=>h.elim)⟩,fun k y hj h=>TmP.turn k y w7 w' hj h⟩
     ·intro j q a w7 hl hq hC hG;have hj:j<8:=ji hq
      match j,hj with
      | 0,_=>exact absurd hl (by decide)
      | 1,_=>exact absurd hl (by decide)
      | 2,_=>exact absurd hl (by decide)
      | 3,_=>exact absurd hl (by decide)
      | 4,_=>exact absurd hl (by decide)
      | 5,_=>exact absurd hl (by decide)
      | 6,_=>exact absurd hl (by decide)
      | 7,_ =>
        cases hq;have h3':a.tmps[3]?.getD undef=P_ B1:=gq (hG.fr 3 (by simp));refine aT (R:=fun x y=>y=x) (R_ B1 4) ?_ rfl rfl;simp [execOp,go_sem,Act.eval,h3']
     ·intro a w7 hC hdf hsz hfr hphi;have e0:a.tmps.getD 78 undef=_:=hphi 0 _ rfl;have e1:a.tmps.getD 79 undef=_:=hphi 1 _ rfl;have e2:a.tmps.getD 80 undef=_:=hphi 2 _ rfl;have e3:a.tmps.getD 81 undef=_:=hphi 3 _ rfl;have e4:a.tmps.getD 82 undef=_:=hphi 4 _ rfl;obtain⟨u5,e5⟩:∃ u,a.tmps.getD 83 undef=u:=⟨_,rfl⟩;have p6:zD wb (w.heap.size+2) N.made (a.tmps.getD 84 undef) w7:=hphi 6 _ rfl rfl;obtain⟨u6,e6⟩:∃ u,a.tmps.getD 84 undef=u:=⟨_,rfl⟩;rw [e6]at p6;have e7:a.tmps.getD 85 undef=_:=hphi 7 _ rfl;have ha:=bq hdf hsz hfr;simp only [List.take_succ_cons,List.take_zero,List.filterMap_cons,List.filterMap_nil,List.foldl_cons,List.foldl_nil,List.setIfInBounds_toArray,List.set_cons_zero,List.set_cons_succ,e0,e1,e2,e3,e4,e5,e6,e7]at ha;clear hdf hsz hfr hphi hC e0 e1 e2 e3 e4 e5 e6 e7;subst ha;have hb7:=ae p6.2 HBx.out;have c4:w7.cell? ⟨B1,4,none⟩=some (.slice none 0 0):=by rw [ag hb7];rfl
      have f4:=av hb7 4
      have HT4:=(show Hid (TL3 w N u uT L u6 (w7.setCell ⟨B1,4,none⟩ u6)/\(w7.setCell ⟨B1,4,none⟩ u6).ownsRow (w.heap.size+2) 3 1 u6 N.made.length (N.made.map (Value.int .i64)))from by
       rw [HB1.out]
       exact HT3.out.four p6)
      obtain⟨p8,n8,c8,hu8⟩:∃ p n c,u6=.slice p n c:=by
       obtain⟨h1,⟨h2,-⟩ | ⟨g',cap,cur,h2,-⟩⟩:=p6.1
       ·exact⟨_,_,_,h2⟩
       ·exact⟨_,_,_,h2⟩
      subst hu8;clear p6 hb7 HBx HQx HT3;refine⟨rfl,?_⟩;unfold Oper.wp;simp [execOp,go_sem,Act.eval,aV,c4,f4];refine ‹∀ (a:Act) (w:World),Code.wp Tryz.prog _ _ a w->_› _ _ ?_;clear c4 f4;revert HT4;generalize World.setCell _ _ _=w8;intro HT4;obtain⟨⟨z0,z1,z2,z3,z4⟩,-⟩:=ax HT4.out.1.box;obtain⟨⟨r0,r1,r2,r3,r4⟩,⟨s0,s1,s2,s3,s4⟩⟩:=ax HT4.out.1.res;have hb1:=HB1.out;subst hb1
      obtain⟨pu,nu,cu,hu⟩:∃ p n c,u=.slice p n c:=by
       obtain⟨h1,⟨h2,-⟩ | ⟨g',cap,cur,h2,-⟩⟩:=HT4.out.1.rowP
       ·exact⟨_,_,_,h2⟩
       ·exact⟨_,_,_,h2⟩
      subst hu;obtain⟨pt,ct,ht⟩:=HT4.out.1.rowE.form;obtain⟨nL,hnL⟩:∃ n,n=L.length:=⟨_,rfl⟩;rw [<- hnL]at ht;subst ht;clear hnL
      have HF:Hid (∀ wE,wE=((((w8.setCell ⟨w.heap.size,0,none⟩ (.slice pu nu cu)).setCell ⟨w.heap.size,1,none⟩ (S_)).setCell ⟨w.heap.size,2,none⟩ (.slice pt nL ct)).setCell ⟨w.heap.size,3,none⟩ (J N.last)).setCell ⟨w.heap.size,4,none⟩ (.slice p8 n8 c8) ->
       wE.heap[w.heap.size]? = some (.cells #[.slice pu nu cu,S_,.slice pt nL ct,J N.last,.slice p8 n8 c8] 67 (0,0))/\Told7 wE w.heap.size N (.agg #[.slice pu nu cu,S_,.slice pt nL ct,J N.last,.slice p8 n8 c8])/\Bl w wE):=fun wE e=>by
       obtain⟨h3,hmr⟩:=HT4.out;have kk:∀ (w:World) (b k:Nat) (v:Value),Keeps (fun x=>x=b) w (w.setCell ⟨b,k,none⟩ v):=fun w b k v=>Keeps.setCell (S:=fun x=>x=b) w ⟨b,k,none⟩ v rfl
       have hks:Keeps (fun b=>b=w.heap.size) w8 wE:=by
        rw [e];exact((((kk _ _ _ _).trans (kk _ _ _ _) (fun _ _ h=>h) (fun _ _ h=>h)).trans (kk _ _ _ _) (fun _ _ h=>h) (fun _ _ h=>h)).trans (kk _ _ _ _) (fun _ _ h=>h) (fun _ _ h=>h)).trans (kk _ _ _ _) (fun _ _ h=>h) (fun _ _ h=>h)
       refine⟨?_,⟨_,_,_,L,rfl,?_,⟨?_,fun y hy=>?_⟩,h3.like,?_⟩,h3.bel.trans (hks.below h3.bel.size fun b hb=>by omega)⟩
       ·rw [e];exact aA (aA (aA (aA (aA h3.res 0 _) 1 _) 2 _) 3 _) 4 _
       ·exact eH (ownsRow_keeps h3.rowP hks fun b hb e=>by have:=(h3.rowP.lt b hb).1;omega) (Nat.le_add_right _ 2)
       ·exact eH (ownsRow_keeps h3.rowE.row hks fun b hb e=>by have:=(h3.rowE.own b hb).1;omega) (Nat.le_add_right _ 2)
       ·exact((h3.rowE.deep y hy).keeps hks fun b hb _ e=>by have:=hb.1;omega).mono fun b hb=>⟨by have:=hb.1.1;omega,hb.1.2⟩
       ·exact eH (ownsRow_keeps hmr hks fun b hb e=>by have:=(hmr.lt b hb).1;omega) (Nat.le_add_right _ 2)
      clear HT4
      go_wp2_with fail
      exact bodyPost_ret (lL _ _ _ _ (HF.out _ rfl).1 rfl rfl) rfl ⟨_,rfl,(HF.out _ rfl).2⟩
end
end Go.Proofs.YthaliljaglldjaaGreat
