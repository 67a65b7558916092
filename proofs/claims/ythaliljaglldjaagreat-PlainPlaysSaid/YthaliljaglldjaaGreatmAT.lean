/- Part of the proof. -/
import Derived.Test.YthaliljaglldjaaGreatmAS
namespace Go.Proofs.YthaliljaglldjaaGreat
set_option maxHeartbeats 16000000
set_option maxRecDepth 20000
open Go.RowKit Go.ChangeMaps Go.MapKept
section
variable {w:World} {p:Nat} {M:WM} {F:Nat->Prop}
theorem iL {w:World} {b o:Nat} {c:Array Value} {e:TypeId} {fr:Nat × Nat} (hb:w.heap[b]? = some (.cells c e fr)) {cs:List Value} (hc:∀ j x,cs[j]? = some x->c[o+j]? = some x) (hs:cs.length=5):(bp (R_ b o)).run Tryz.prog w=.ok (.value (.agg cs.toArray)) w :=
 aY (fun j x hj=>by rw [ag hb];exact hc j x hj) hs
theorem eP {p:Nat} {r:Int} {t:Th} {pv:Option Addr} {nl cv:Nat} (hvl:t.vl=.slice pv nl cv) {j:Nat} {x:Value} (h:((V_ t.v.kind t.v.n t.v.s (.slice pv nl cv) t.v.r):Array Value).toList[j]? = some x):(bj p r t)[4+j]? = some x:=by
 rw [<- hvl]at h;have hj:j<5:=ji h
 match j,hj,h with
 | 0,_,h=>exact h
 | 1,_,h=>exact h
 | 2,_,h=>exact h
 | 3,_,h=>exact h
 | 4,_,h=>exact h
theorem dN (w:World) (c c':Array Value):Bl w ((w.alloc (.cells c 27)).alloc (.cells c' 27))/\((w.alloc (.cells c 27)).alloc (.cells c' 27)).heap[w.heap.size]? = some (.cells c 27 (0,0))/\((w.alloc (.cells c 27)).alloc (.cells c' 27)).heap[w.heap.size+1]? = some (.cells c' 27 (0,0)) :=
 ⟨(br.alloc aH _).alloc (by simp) _,aL _ _ _,aK _ _ _⟩
structure Ans where
 k:Int
 n:Int
 s:ByteArray
 p:Option Addr
 l:Nat
 c:Nat
 r:Int
 e:Int
abbrev Ans.cs (z:Ans):Array Value:=#[U z.k,J z.n,.string z.s,.slice z.p z.l z.c,J z.r]
def Af (a v:Array Value) (z:Ans):Prop:=∀ w,Calls Tryz.prog 325 #[.agg a,.agg v] w fun e w'=>e=.returned (.tuple #[.agg z.cs,J z.e])/\Bl w w'
theorem Ad (k n r:Int) (s:ByteArray) (a:Option Addr) (m c:Nat):Af zV (V_ k n s (.slice a m c) r) ⟨k,n,s,a,m,c,r,0⟩:=fun w=>mm w k n r s a m c
def Am (w:World) (z:Ans) (e:Ending) (w':World):Prop:=e=.returned (.tuple #[.agg z.cs,J z.e])/\Bl w w'
theorem Ac:bX 6 27 3 bp:=fun _ _ _ _ _=>rfl
theorem zZ:bX 12 27 11 bp:=fun _ _ _ _ _=>rfl
def vy (b am ac nl cv:Nat) (ap pv:Option Addr) (ak an ar xk xn xr:Int) (astr xs:ByteArray) (z:Ans) (j:Nat) (v:Value) (_:World):Prop :=
 match j with
 | 0=>v=.agg (V_ ak an astr (.slice ap am ac) ar)
 | 1=>v=P_ b
 | 2=>v=P_ b
 | 3=>v=P_ b
 | 4=>v=R_ b 2
 | 5=>v=R_ b 4
 | 6=>v=.agg (V_ xk xn xs (.slice pv nl cv) xr)
 | 7=>v=.tuple #[.agg (V_ z.k z.n z.s (.slice z.p z.l z.c) z.r),J z.e]
 | 8=>v=.agg (V_ z.k z.n z.s (.slice z.p z.l z.c) z.r)
 | 9=>v=J z.e
 | _=>True
theorem Ak {b:Nat} {r:Int} {t:Th} (hb:w.heap[b]? = some (.cells (bj p r t) 247 (0,0))) {xk xn xr:Int} {xs:ByteArray} {pv:Option Addr} {nl cv:Nat} (hx:t.v.kind=xk/\t.v.n=xn/\t.v.s=xs/\t.v.r=xr/\t.vl=.slice pv nl cv) {ak an ar:Int} {astr:ByteArray} {ap:Option Addr} {am ac:Nat} {z:Ans} (ht:Af (V_ ak an astr (.slice ap am ac) ar) (V_ xk xn xs (.slice pv nl cv) xr) z) :
 Calls Tryz.prog 321 #[P_ b,.agg (V_ ak an astr (.slice ap am ac) ar)] w (Am w z):=by
 have hlt:=aw hb;have HT:Hid (∀ w,Calls Tryz.prog 325 #[.agg (V_ ak an astr (.slice ap am ac) ar),.agg (V_ xk xn xs (.slice pv nl cv) xr)] w fun e w'=>e=.returned (.tuple #[.agg (V_ z.k z.n z.s (.slice z.p z.l z.c) z.r),J z.e])/\Bl w w'):=ht;have HX:Hid _:=dN w (V_ ak an astr (.slice ap am ac) ar) zV;clear ht;simp only [zV]at HX
 go_enter Tryz.func321,Tryz.ntmps321
 go_upto_region 1 with fail
 revert HX;generalize (w.alloc _).alloc _=wa;intro HX;have Hb:Hid (wa.heap[b]? = some (.cells (bj p r t) 247 (0,0))):=(HX.out.1.block b hlt).trans hb;have HV:Hid _:=hx;clear hx;refine aR 10 (by kernel_rfl) rfl (by kernel_rfl) (by kernel_rfl) (fun a b=>Bl a b) (vy b am ac nl cv ap pv ak an ar xk xn xr astr xs z) (fun w'=>Bl wa w') (fun j v w w' _ h=>h) below_drew (fun a b h hR=>h.trans (hR.mono h.size)) ?_ ?_ ?_
 ·exact fun _ _ _ _ h1 h2=>bC (by kernel_rfl) h1 h2
 ·intro j q a w7 hq hC hG;have hj:j<10:=ji hq
  match j,hj with
  | 0,_ =>
    cases hq;have h3:a.tmps.getD 3 undef=P_ w.heap.size:=hG.fr 3 (by simp);refine aT (.agg (V_ ak an astr (.slice ap am ac) ar)) ?_ br rfl;rw [Ac];show (bp (a.tmps.getD 3 undef)).run _ _=_;rw [h3];exact aI (ae hC HX.out.2.1) rfl
  | 1,_=>cases hq;have h0':a.tmps[0]?.getD undef=P_ b:=gq (hG.fr 0 (by simp));unfold Oper.wp;simp [go_sem,Act.eval,h0'];exact⟨_,rfl,br,rfl⟩
  | 2,_=>cases hq;have h7':=gq (i:=7) (gd hG 1 rfl);unfold Oper.wp;simp [go_sem,Act.eval,h7'];exact⟨_,rfl,br,rfl⟩
  | 3,_=>cases hq;have h8':=gq (i:=8) (gd hG 2 rfl);unfold Oper.wp;simp [go_sem,Act.eval,h8'];exact⟨_,rfl,br,rfl⟩
  | 4,_=>cases hq;have h9':=gq (i:=9) (gd hG 3 rfl);unfold Oper.wp;simp [go_sem,Act.eval,h9'];exact⟨_,rfl,br,rfl⟩
  | 5,_=>cases hq;have h10':=gq (i:=10) (gd hG 4 rfl);unfold Oper.wp;simp [go_sem,Act.eval,h10'];exact⟨_,rfl,br,rfl⟩
  | 6,_ =>
    cases hq;have h11:a.tmps.getD 11 undef=R_ b 4:=gd hG 5 rfl;refine aT (.agg (V_ xk xn xs (.slice pv nl cv) xr)) ?_ br rfl;rw [zZ];show (bp (a.tmps.getD 11 undef)).run _ _=_;rw [h11];exact iL (ae hC Hb.out) (cs:=#[.int .u8 xk,.int .i64 xn,.string xs,.slice pv nl cv,.int .i64 xr].toList) (by obtain⟨x1,x2,x3,x4,x5⟩:=HV.out;subst x1 x2 x3 x4;intro j x hj;exact eP x5 hj) rfl
  | 7,_ =>
    cases hq;have h6':=gq (i:=6) (gd hG 0 rfl);have h12':=gq (i:=12) (gd hG 6 rfl);unfold Oper.wp;simp [go_sem,callFunc,Act.eval,Tryz.func325,h6',h12'];refine Calls.mono (HT.out _) ?_;rintro e w8 ⟨rfl,hb8⟩;exact⟨_,rfl,hb8,rfl⟩
  | 8,_=>cases hq;have h13':=gq (i:=13) (gd hG 7 rfl);unfold Oper.wp;simp [go_sem,Act.eval,h13'];exact⟨_,rfl,br,rfl⟩
  | 9,_=>cases hq;have h13':=gq (i:=13) (gd hG 7 rfl);unfold Oper.wp;simp [go_sem,Act.eval,h13'];exact⟨_,rfl,br,rfl⟩
 intro a w7 hC hdf hsz hfr hphi;have e0:a.tmps.getD 6 undef=_:=hphi 0 _ rfl;have e1:a.tmps.getD 7 undef=_:=hphi 1 _ rfl;have e2:a.tmps.getD 8 undef=_:=hphi 2 _ rfl;have e3:a.tmps.getD 9 undef=_:=hphi 3 _ rfl;have e4:a.tmps.getD 10 undef=_:=hphi 4 _ rfl;have e5:a.tmps.getD 11 undef=_:=hphi 5 _ rfl;have e6:a.tmps.getD 12 undef=_:=hphi 6 _ rfl;have e7:a.tmps.getD 13 undef=_:=hphi 7 _ rfl;have e8:a.tmps.getD 14 undef=_:=hphi 8 _ rfl;have e9:a.tmps.getD 15 undef=_:=hphi 9 _ rfl;have ha:=bq hdf hsz hfr;simp only [List.take_succ_cons,List.take_zero,List.filterMap_cons,List.filterMap_nil,List.foldl_cons,List.foldl_nil,List.setIfInBounds_toArray,List.set_cons_zero,List.set_cons_succ,e0,e1,e2,e3,e4,e5,e6,e7,e8,e9]at ha;clear hdf hsz hfr hphi e0 e1 e2 e3 e4 e5 e6 e7 e8 e9;subst ha;have hg7:=ae hC HX.out.2.2;have hst:=az (c':=#[U z.k,J z.n,.string z.s,.slice z.p z.l z.c,J z.r]) hg7 rfl rfl (by simp [go_sem]);have HZ:Hid _:=ah (c':=#[U z.k,J z.n,.string z.s,.slice z.p z.l z.c,J z.r]) hg7;have HB:Hid (Bl w (w7.setRow (w.heap.size+1) (V_ z.k z.n z.s (.slice z.p z.l z.c) z.r))):=Below.setRow (HX.out.1.trans (hC.mono HX.out.1.size)) (Nat.le_succ _) _;clear hC hg7 HX Hb HT;refine⟨rfl,?_⟩;unfold Oper.wp;rw [aW];simp [go_sem,Act.eval,hst];refine⟨rfl,?_⟩;unfold Oper.wp;simp [execOp,go_sem,Act.eval,aV];obtain⟨⟨r0,r1,r2,r3,r4⟩,-⟩:=ax HZ.out;refine ‹∀ (a:Act) (w:World),Code.wp Tryz.prog _ _ a w->_› _ _ ?_
 go_wp2_with fail
 exact bodyPost_ret (v:=.tuple #[.agg (V_ z.k z.n z.s (.slice z.p z.l z.c) z.r),J z.e]) (by simp [results,Tryz.results321,go_sem,r0,r1,r2,r3,r4]) rfl ⟨rfl,HB.out⟩
theorem Ab:bX 6 27 3 bp:=fun _ _ _ _ _=>rfl
def wC (b am ac ns cs:Nat) (ap ps:Option Addr) (ak an ar:Int) (astr:ByteArray) (z:Ans) (j:Nat) (v:Value) (_:World):Prop :=
 match j with
 | 0=>v=.agg (V_ ak an astr (.slice ap am ac) ar)
 | 1=>v=P_ b
 | 2=>v=P_ b
 | 3=>v=P_ b
 | 4=>v=R_ b 2
 | 5=>v=R_ b 9
 | 6=>v=.slice ps ns cs
 | 7=>v=.agg (V_ 3 0 ⟨#[]⟩ (.slice ps ns cs) 0)
 | 8=>v=.tuple #[.agg (V_ z.k z.n z.s (.slice z.p z.l z.c) z.r),J z.e]
 | 9=>v=.agg (V_ z.k z.n z.s (.slice z.p z.l z.c) z.r)
 | 10=>v=J z.e
 | _=>True
theorem Al {b:Nat} {r:Int} {t:Th} (hb:w.heap[b]? = some (.cells (bj p r t) 165 (0,0))) {ps:Option Addr} {ns cs:Nat} (hx:t.vals=.slice ps ns cs) {ak an ar:Int} {astr:ByteArray} {ap:Option Addr} {am ac:Nat} {z:Ans} (ht:Af (V_ ak an astr (.slice ap am ac) ar) (V_ 3 0 ⟨#[]⟩ (.slice ps ns cs) 0) z) :
 Calls Tryz.prog 326 #[P_ b,.agg (V_ ak an astr (.slice ap am ac) ar)] w (Am w z):=by
 have hlt:=aw hb;have HT:Hid (∀ w,Calls Tryz.prog 325 #[.agg (V_ ak an astr (.slice ap am ac) ar),.agg (V_ 3 0 ⟨#[]⟩ (.slice ps ns cs) 0)] w fun e w'=>e=.returned (.tuple #[.agg (V_ z.k z.n z.s (.slice z.p z.l z.c) z.r),J z.e])/\Bl w w'):=ht;have HX:Hid _:=dN w (V_ ak an astr (.slice ap am ac) ar) zV;clear ht;simp only [zV]at HX
 go_enter Tryz.func326,Tryz.ntmps326
 go_upto_region 1 with fail
 revert HX;generalize (w.alloc _).alloc _=wa;intro HX;have Hb:Hid (wa.heap[b]? = some (.cells (bj p r t) 165 (0,0))):=(HX.out.1.block b hlt).trans hb;have Hc:Hid (∀ w7,Bl wa w7->w7.cell? ⟨b,9,none⟩=some (.slice ps ns cs)):=fun w7 hC=>by rw [ag (ae hC Hb.out),← hx];rfl
 clear hx;refine aR 11 (by kernel_rfl) rfl (by kernel_rfl) (by kernel_rfl) (fun a b=>Bl a b) (wC b am ac ns cs ap ps ak an ar astr z) (fun w'=>Bl wa w') (fun j v w w' _ h=>h) below_drew (fun a b h hR=>h.trans (hR.mono h.size)) ?_ ?_ ?_
 ·exact fun _ _ _ _ h1 h2=>bC (by kernel_rfl) h1 h2
 ·intro j q a w7 hq hC hG;have hj:j<11:=ji hq
  match j,hj with
  | 0,_ =>
    cases hq;have h3:a.tmps.getD 3 undef=P_ w.heap.size:=hG.fr 3 (by simp);refine aT (.agg (V_ ak an astr (.slice ap am ac) ar)) ?_ br rfl;rw [Ab];show (bp (a.tmps.getD 3 undef)).run _ _=_;rw [h3];exact aI (ae hC HX.out.2.1) rfl
  | 1,_=>cases hq;have h0':a.tmps[0]?.getD undef=P_ b:=gq (hG.fr 0 (by simp));unfold Oper.wp;simp [go_sem,Act.eval,h0'];exact⟨_,rfl,br,rfl⟩
  | 2,_=>cases hq;have h7':=gq (i:=7) (gd hG 1 rfl);unfold Oper.wp;simp [go_sem,Act.eval,h7'];exact⟨_,rfl,br,rfl⟩
  | 3,_=>cases hq;have h8':=gq (i:=8) (gd hG 2 rfl);unfold Oper.wp;simp [go_sem,Act.eval,h8'];exact⟨_,rfl,br,rfl⟩
  | 4,_=>cases hq;have h9':=gq (i:=9) (gd hG 3 rfl);unfold Oper.wp;simp [go_sem,Act.eval,h9'];exact⟨_,rfl,br,rfl⟩
  | 5,_=>cases hq;have h10':=gq (i:=10) (gd hG 4 rfl);unfold Oper.wp;simp [go_sem,Act.eval,h10'];exact⟨_,rfl,br,rfl⟩
  | 6,_=>cases hq;have h11':=gq (i:=11) (gd hG 5 rfl);unfold Oper.wp;simp [go_sem,Act.eval,h11',Hc.out w7 hC];exact⟨_,rfl,br,rfl⟩
  | 7,_ =>
    cases hq;have h12':=gq (i:=12) (gd hG 6 rfl);unfold Oper.wp;simp [go_sem,callFunc,Act.eval,Tryz.func329,h12'];refine Calls.mono (pw _ ps ns cs) ?_;rintro e w8 ⟨rfl,hb8⟩;exact⟨_,rfl,hb8,rfl⟩
  | 8,_ =>
    cases hq;have h6':=gq (i:=6) (gd hG 0 rfl);have h13':=gq (i:=13) (gd hG 7 rfl);unfold Oper.wp;simp [go_sem,callFunc,Act.eval,Tryz.func325,h6',h13'];refine Calls.mono (HT.out _) ?_;rintro e w8 ⟨rfl,hb8⟩;exact⟨_,rfl,hb8,rfl⟩
  | 9,_=>cases hq;have h14':=gq (i:=14) (gd hG 8 rfl);unfold Oper.wp;simp [go_sem,Act.eval,h14'];exact⟨_,rfl,br,rfl⟩
  | 10,_=>cases hq;have h14':=gq (i:=14) (gd hG 8 rfl);unfold Oper.wp;simp [go_sem,Act.eval,h14'];exact⟨_,rfl,br,rfl⟩
 intro a w7 hC hdf hsz hfr hphi;have e0:a.tmps.getD 6 undef=_:=hphi 0 _ rfl;have e1:a.tmps.getD 7 undef=_:=hphi 1 _ rfl;have e2:a.tmps.getD 8 undef=_:=hphi 2 _ rfl;have e3:a.tmps.getD 9 undef=_:=hphi 3 _ rfl;have e4:a.tmps.getD 10 undef=_:=hphi 4 _ rfl;have e5:a.tmps.getD 11 undef=_:=hphi 5 _ rfl;have e6:a.tmps.getD 12 undef=_:=hphi 6 _ rfl;have e7:a.tmps.getD 13 undef=_:=hphi 7 _ rfl;have e8:a.tmps.getD 14 undef=_:=hphi 8 _ rfl;have e9:a.tmps.getD 15 undef=_:=hphi 9 _ rfl;have e10:a.tmps.getD 16 undef=_:=hphi 10 _ rfl;have ha:=bq hdf hsz hfr;simp only [List.take_succ_cons,List.take_zero,List.filterMap_cons,List.filterMap_nil,List.foldl_cons,List.foldl_nil,List.setIfInBounds_toArray,List.set_cons_zero,List.set_cons_succ,e0,e1,e2,e3,e4,e5,e6,e7,e8,e9,e10]at ha;clear hdf hsz hfr hphi e0 e1 e2 e3 e4 e5 e6 e7 e8 e9 e10;subst ha;have hg7:=ae hC HX.out.2.2;have hst:=az (c':=#[U z.k,J z.n,.string z.s,.slice z.p z.l z.c,J z.r]) hg7 rfl rfl (by simp [go_sem]);have HZ:Hid _:=ah (c':=#[U z.k,J z.n,.string z.s,.slice z.p z.l z.c,J z.r]) hg7;have HB:Hid (Bl w (w7.setRow (w.heap.size+1) (V_ z.k z.n z.s (.slice z.p z.l z.c) z.r))):=Below.setRow (HX.out.1.trans (hC.mono HX.out.1.size)) (Nat.le_succ _) _;clear hC hg7 HX Hb HT;refine⟨rfl,?_⟩;unfold Oper.wp;rw [aW];simp [go_sem,Act.eval,hst];refine⟨rfl,?_⟩;unfold Oper.wp;simp [execOp,go_sem,Act.eval,aV];obtain⟨⟨r0,r1,r2,r3,r4⟩,-⟩:=ax HZ.out;refine ‹∀ (a:Act) (w:World),Code.wp Tryz.prog _ _ a w->_› _ _ ?_
 go_wp2_with fail
 exact bodyPost_ret (v:=.tuple #[.agg (V_ z.k z.n z.s (.slice z.p z.l z.c) z.r),J z.e]) (by simp [results,Tryz.results326,go_sem,r0,r1,r2,r3,r4]) rfl ⟨rfl,HB.out⟩
theorem Aa:bX 6 27 3 bp:=fun _ _ _ _ _=>rfl
def AH (b am ac:Nat) (ap:Option Addr) (ak an ar tn:Int) (astr:ByteArray) (z:Ans) (j:Nat) (v:Value) (_:World):Prop :=
 match j with
 | 0=>v=.agg (V_ ak an astr (.slice ap am ac) ar)
 | 1=>v=P_ b
 | 2=>v=P_ b
 | 3=>v=P_ b
 | 4=>v=R_ b 2
 | 5=>v=R_ b 10
 | 6=>v=J tn
 | 7=>v=.agg (V_ 1 tn ⟨#[]⟩ (S_) 0)
 | 8=>v=.tuple #[.agg (V_ z.k z.n z.s (.slice z.p z.l z.c) z.r),J z.e]
 | 9=>v=.agg (V_ z.k z.n z.s (.slice z.p z.l z.c) z.r)
 | 10=>v=J z.e
 | _=>True
theorem Aj {b:Nat} {r:Int} {t:Th} (hb:w.heap[b]? = some (.cells (bj p r t) 249 (0,0))) {tn:Int} (hx:t.n=tn) {ak an ar:Int} {astr:ByteArray} {ap:Option Addr} {am ac:Nat} {z:Ans} (ht:Af (V_ ak an astr (.slice ap am ac) ar) (V_ 1 tn ⟨#[]⟩ (S_) 0) z) :
 Calls Tryz.prog 334 #[P_ b,.agg (V_ ak an astr (.slice ap am ac) ar)] w (Am w z):=by
 have hlt:=aw hb;have HT:Hid (∀ w,Calls Tryz.prog 325 #[.agg (V_ ak an astr (.slice ap am ac) ar),.agg (V_ 1 tn ⟨#[]⟩ (S_) 0)] w fun e w'=>e=.returned (.tuple #[.agg (V_ z.k z.n z.s (.slice z.p z.l z.c) z.r),J z.e])/\Bl w w'):=ht;have HX:Hid _:=dN w (V_ ak an astr (.slice ap am ac) ar) zV;clear ht;simp only [zV]at HX
 go_enter Tryz.func334,Tryz.ntmps334
 go_upto_region 1 with fail
 revert HX;generalize (w.alloc _).alloc _=wa;intro HX;have Hb:Hid (wa.heap[b]? = some (.cells (bj p r t) 249 (0,0))):=(HX.out.1.block b hlt).trans hb;have Hc:Hid (∀ w7,Bl wa w7->w7.cell? ⟨b,10,none⟩=some (.int .i64 tn)):=fun w7 hC=>by rw [ag (ae hC Hb.out),← hx];rfl
 clear hx;refine aR 11 (by kernel_rfl) rfl (by kernel_rfl) (by kernel_rfl) (fun a b=>Bl a b) (AH b am ac ap ak an ar tn astr z) (fun w'=>Bl wa w') (fun j v w w' _ h=>h) below_drew (fun a b h hR=>h.trans (hR.mono h.size)) ?_ ?_ ?_
 ·exact fun _ _ _ _ h1 h2=>bC (by kernel_rfl) h1 h2
 ·intro j q a w7 hq hC hG;have hj:j<11:=ji hq
  match j,hj with
  | 0,_ =>
    cases hq;have h3:a.tmps.getD 3 undef=P_ w.heap.size:=hG.fr 3 (by simp);refine aT (.agg (V_ ak an astr (.slice ap am ac) ar)) ?_ br rfl;rw [Aa];show (bp (a.tmps.getD 3 undef)).run _ _=_;rw [h3];exact aI (ae hC HX.out.2.1) rfl
  | 1,_=>cases hq;have h0':a.tmps[0]?.getD undef=P_ b:=gq (hG.fr 0 (by simp));unfold Oper.wp;simp [go_sem,Act.eval,h0'];exact⟨_,rfl,br,rfl⟩
  | 2,_=>cases hq;have h7':=gq (i:=7) (gd hG 1 rfl);unfold Oper.wp;simp [go_sem,Act.eval,h7'];exact⟨_,rfl,br,rfl⟩
  | 3,_=>cases hq;have h8':=gq (i:=8) (gd hG 2 rfl);unfold Oper.wp;simp [go_sem,Act.eval,h8'];exact⟨_,rfl,br,rfl⟩
  | 4,_=>cases hq;have h9':=gq (i:=9) (gd hG 3 rfl);unfold Oper.wp;simp [go_sem,Act.eval,h9'];exact⟨_,rfl,br,rfl⟩
  | 5,_=>cases hq;have h10':=gq (i:=10) (gd hG 4 rfl);unfold Oper.wp;simp [go_sem,Act.eval,h10'];exact⟨_,rfl,br,rfl⟩
  | 6,_=>cases hq;have h11':=gq (i:=11) (gd hG 5 rfl);unfold Oper.wp;simp [go_sem,Act.eval,h11',Hc.out w7 hC];exact⟨_,rfl,br,rfl⟩
  | 7,_ =>
    cases hq;have h12':=gq (i:=12) (gd hG 6 rfl);unfold Oper.wp;simp [go_sem,callFunc,Act.eval,Tryz.func158,h12'];refine Calls.mono (jt _ tn) ?_;rintro e w8 ⟨rfl,hb8⟩;exact⟨_,rfl,hb8,rfl⟩
  | 8,_ =>
    cases hq;have h6':=gq (i:=6) (gd hG 0 rfl);have h13':=gq (i:=13) (gd hG 7 rfl);unfold Oper.wp;simp [go_sem,callFunc,Act.eval,Tryz.func325,h6',h13'];refine Calls.mono (HT.out _) ?_;rintro e w8 ⟨rfl,hb8⟩;exact⟨_,rfl,hb8,rfl⟩
  | 9,_=>cases hq;have h14':=gq (i:=14) (gd hG 8 rfl);unfold Oper.wp;simp [go_sem,Act.eval,h14'];exact⟨_,rfl,br,rfl⟩
  | 10,_=>cases hq;have h14':=gq (i:=14) (gd hG 8 rfl);unfold Oper.wp;simp [go_sem,Act.eval,h14'];exact⟨_,rfl,br,rfl⟩
 intro a w7 hC hdf hsz hfr hphi;have e0:a.tmps.getD 6 undef=_:=hphi 0 _ rfl;have e1:a.tmps.getD 7 undef=_:=hphi 1 _ rfl;have e2:a.tmps.getD 8 undef=_:=hphi 2 _ rfl;have e3:a.tmps.getD 9 undef=_:=hphi 3 _ rfl;have e4:a.tmps.getD 10 undef=_:=hphi 4 _ rfl;have e5:a.tmps.getD 11 undef=_:=hphi 5 _ rfl;have e6:a.tmps.getD 12 undef=_:=hphi 6 _ rfl;have e7:a.tmps.getD 13 undef=_:=hphi 7 _ rfl;have e8:a.tmps.getD 14 undef=_:=hphi 8 _ rfl;have e9:a.tmps.getD 15 undef=_:=hphi 9 _ rfl;have e10:a.tmps.getD 16 undef=_:=hphi 10 _ rfl;have ha:=bq hdf hsz hfr;simp only [List.take_succ_cons,List.take_zero,List.filterMap_cons,List.filterMap_nil,List.foldl_cons,List.foldl_nil,List.setIfInBounds_toArray,List.set_cons_zero,List.set_cons_succ,e0,e1,e2,e3,e4,e5,e6,e7,e8,e9,e10]at ha;clear hdf hsz hfr hphi e0 e1 e2 e3 e4 e5 e6 e7 e8 e9 e10;subst ha;have hg7:=ae hC HX.out.2.2;have hst:=az (c':=#[U z.k,J z.n,.string z.s,.slice z.p z.l z.c,J z.r]) hg7 rfl rfl (by simp [go_sem]);have HZ:Hid _:=ah (c':=#[U z.k,J z.n,.string z.s,.slice z.p z.l z.c,J z.r]) hg7;have HB:Hid (Bl w (w7.setRow (w.heap.size+1) (V_ z.k z.n z.s (.slice z.p z.l z.c) z.r))):=Below.setRow (HX.out.1.trans (hC.mono HX.out.1.size)) (Nat.le_succ _) _;clear hC hg7 HX Hb HT;refine⟨rfl,?_⟩;unfold Oper.wp;rw [aW];simp [go_sem,Act.eval,hst];refine⟨rfl,?_⟩;unfold Oper.wp;simp [execOp,go_sem,Act.eval,aV];obtain⟨⟨r0,r1,r2,r3,r4⟩,-⟩:=ax HZ.out;refine ‹∀ (a:Act) (w:World),Code.wp Tryz.prog _ _ a w->_› _ _ ?_
 go_wp2_with fail
 exact bodyPost_ret (v:=.tuple #[.agg (V_ z.k z.n z.s (.slice z.p z.l z.c) z.r),J z.e]) (by simp [results,Tryz.results334,go_sem,r0,r1,r2,r3,r4]) rfl ⟨rfl,HB.out⟩
theorem wl {b:Nat} {r:Int} {t:Th} (hb:w.heap[b]? = some (.cells (bj p r t) 249 (0,0))):Calls Tryz.prog 334 #[P_ b,.agg zV] w fun e w'=>e=.returned (.tuple #[.agg (V_ 1 t.n ⟨#[]⟩ (S_) 0),J 0])/\Bl w w' :=
 Aj hb rfl (Ad _ _ _ _ _ _ _)
theorem yf {b:Nat} {r:Int} {t:Th} (hb:w.heap[b]? = some (.cells (bj p r t) 247 (0,0))) {pv:Option Addr} {nl cv:Nat} (hvl:t.vl=.slice pv nl cv):Calls Tryz.prog 321 #[P_ b,.agg zV] w fun e w'=>e=.returned (.tuple #[.agg (V_ t.v.kind t.v.n t.v.s (.slice pv nl cv) t.v.r),J 0])/\Bl w w' :=
 Ak hb ⟨rfl,rfl,rfl,rfl,hvl⟩ (Ad _ _ _ _ _ _ _)
theorem yJ {b:Nat} {r:Int} {t:Th} (hb:w.heap[b]? = some (.cells (bj p r t) 165 (0,0))) {ps:Option Addr} {ns cs:Nat} (hvl:t.vals=.slice ps ns cs):Calls Tryz.prog 326 #[P_ b,.agg zV] w fun e w'=>e=.returned (.tuple #[.agg (V_ 3 0 ⟨#[]⟩ (.slice ps ns cs) 0),J 0])/\Bl w w' :=
 Al hb hvl (Ad _ _ _ _ _ _ _)
theorem yB (w:World) (q:Option Addr) (vk vn vr:Int) (vstr:ByteArray) (pv:Option Addr) (nl cv:Nat):Calls Tryz.prog 328 #[.pointer q,.agg (V_ vk vn vstr (.slice pv nl cv) vr)] w fun e w'=>e=.returned (.tuple #[.agg zV,J 6])/\Below w.heap.size w w':=by
 go_enter Tryz.func328,Tryz.ntmps328
 go_wp2
 go_returns
 exact⟨rfl,by go_grown⟩
end
end Go.Proofs.YthaliljaglldjaaGreat
