/- Part of the proof. -/
import Derived.Test.YthaliljaglldjaaGreatmAT
namespace Go.Proofs.YthaliljaglldjaaGreat
set_option maxHeartbeats 16000000
set_option maxRecDepth 20000
open Go.RowKit Go.ChangeMaps Go.MapKept
section
variable {w:World} {p:Nat} {M:WM} {F:Nat->Prop}
abbrev qT (k h:Int) (vs:List Val) (vals:Value):Th:=⟨k,h,⟨0,0,⟨#[]⟩,[],0⟩,S_,vs,vals,0,0,0,0,0,false,S_,S_⟩
theorem fj:bX 25 27 3 bp:=fun _ _ _ _ _=>rfl
def AdPhi (b n cs:Nat) (ps:Option Addr) (vk vn vr:Int) (vstr:ByteArray) (pv:Option Addr) (nv cv:Nat) (FA FB:Nat->Prop) (B:Nat) (l:List Val) (j:Nat) (v:Value) (w:World):Prop :=
 match j with
 | 0=>v=P_ b
 | 1=>v=P_ b
 | 2=>v=R_ b 2
 | 3=>v=R_ b 9
 | 4=>v=.slice ps n cs
 | 5=>v=P_ b
 | 6=>v=P_ b
 | 7=>v=R_ b 2
 | 8=>v=R_ b 9
 | 9=>v=.slice ps n cs
 | 10=>v=J n
 | 11=>v=P_ b
 | 12=>v=P_ b
 | 13=>v=R_ b 2
 | 14=>v=R_ b 9
 | 15=>v=.slice ps n cs
 | 16=>v=J n
 | 17=>v=.slice ps n n
 | 18=>v=.agg (V_ vk vn vstr (.slice pv nv cv) vr)
 | 19=>∃ g,v=.slice (some ⟨g,0,none⟩) 1 1/\w.heap[g]? = some (.cells (V_ vk vn vstr (.slice pv nv cv) vr) 27 (0,0))
 | 20=>SlAt w (fun y=>FA y\/FB y\/B≤y) v l/\dQ v
 | _=>True
theorem AdPhi.stab {b n cs:Nat} {ps:Option Addr} {vk vn vr:Int} {vstr:ByteArray} {pv:Option Addr} {nv cv:Nat} {FA FB:Nat->Prop} {B:Nat} {l:List Val}:∀ (j:Nat) (v:Value) (w w':World),Bl w w'->AdPhi b n cs ps vk vn vr vstr pv nv cv FA FB B l j v w->AdPhi b n cs ps vk vn vr vstr pv nv cv FA FB B l j v w':=by
 intro j v w w' hR h;unfold AdPhi at h ⊢;split at h
 ·exact h
 ·exact h
 ·exact h
 ·exact h
 ·exact h
 ·exact h
 ·exact h
 ·exact h
 ·exact h
 ·exact h
 ·exact h
 ·exact h
 ·exact h
 ·exact h
 ·exact h
 ·exact h
 ·exact h
 ·exact h
 ·exact h
 ·obtain⟨g,h1,h2⟩:=h;exact⟨g,h1,ae hR h2⟩
 ·exact⟨h.1.on hR,h.2⟩
 ·trivial
theorem sn {k h:Int} {vs:List Val} {v:Val} {a b:Value} (h1:∀ r ∈ bk (qT k h vs a),(Lit.int .i64 r).wf=true/\(M.at r).isSome=true) (h2:∀ r ∈ aM v,(Lit.int .i64 r).wf=true/\(M.at r).isSome=true) :
 ∀ r ∈ bk (qT k h (vs ++ [v]) b),(Lit.int .i64 r).wf=true/\(M.at r).isSome=true:=by
 intro r hr;have e:bk (qT k h (vs ++ [v]) b)=bk (qT k h vs a) ++ aM v:=by simp [bk]
 rw [e]at hr
 rcases List.mem_append.1 hr with hr | hr
 ·exact h1 r hr
 ·exact h2 r hr
theorem dg {l:List Val} (h:ay (aJ l)=true):l.length≤511:=by
 unfold ay at h
 by_cases hl:l.length > 511
 ·rw [show (512:Nat)=511+1 from rfl,nh (v:=aJ l) rfl hl]at h
  cases h
 ·omega
theorem ls {l:List Val} (h1:∀ x ∈ l,ay x=true) (h2:ay (aJ l)=true):rD l=0:=by
 unfold rD;rw [List.all_eq_true.2 h1,h2];rfl
theorem pE (w:World) (ps:Option Addr) (n cs:Nat) (h:n≤cs):(Instr.sliceAt 24 (.slice ps n cs) none (some (.int .i64 n)) (some (.int .i64 n))).run Tryz.prog w=.ok (.slice ps n n) w:=by
 simp [go_sem,h]
attribute [local go_sem ↓] fj in
theorem ow (hW:IsW w p M F) {r:Int} (hr:(Lit.int .i64 r).wf=true) {k h:Int} (hk:k=2\/k=4) {vs:List Val} {vals0 vals:Value} (ht:M.at r=some (qT k h vs vals0)) {ty:TypeId} {b:Nat} (hb:w.heap[b]? = some (.cells (bj p r (qT k h vs vals)) ty (0,0))) (hbF:¬ F b)
 (hh:be M h=true) {FA FB:Nat->Prop} (hS:SlAt w FA vals vs) (hFA:∀ y,FA y->y≠b) (hcap:dQ vals) (hheld:∀ r ∈ bk (qT k h vs vals0),(Lit.int .i64 r).wf=true/\(M.at r).isSome=true) (hmay:∀ x ∈ vs,ay x=true) (hlen:vs.length≤1024)
 {v:Val} {raw:Value} (hv:SlAt w FB raw v.l) (hFB:∀ y,FB y->y≠b) (hm:ay v=true) (hkn:∀ r ∈ aM v,(Lit.int .i64 r).wf=true/\(M.at r).isSome=true) :
 Calls Tryz.prog 320 #[P_ b,.agg (au v raw)] w fun e w' =>
  (ay (aJ (vs ++ [v]))=true/\e=.returned (.tuple #[.agg zV,J 0])/\∃ vals',LaidB w p M F r (qT k h (vs ++ [v]) vals') b w') \/
  (ay (aJ (vs ++ [v]))=false/\e=.returned (.tuple #[.agg zV,J 8])/\Bl w w'):=by
 obtain⟨pv,cv,rfl⟩:=hv.form;obtain⟨ps,cs,hvals⟩:=hS.form;subst hvals;have hlt:=aw hb;have HS:Hid (SlAt w FA (.slice ps vs.length cs) vs/\SlAt w FB (.slice pv v.l.length cv) v.l/\vs.length≤1024):=⟨hS,hv,hlen⟩
 have Hn:Hid (vs.length≤cs/\(ps=none->vs.length=0)):=by
  obtain⟨a,n,c,e,h1,h2⟩:=hcap
  cases e
  exact⟨h1,fun e=>by have:=h2 e;omega⟩
 have HP:Hid ((∀ y,FA y->y≠b)/\(∀ y,FB y->y≠b)/\(∀ r ∈ bk (qT k h vs vals0),(Lit.int .i64 r).wf=true/\(M.at r).isSome=true)/\(∀ x ∈ vs,ay x=true)/\ay v=true/\(∀ r ∈ aM v,(Lit.int .i64 r).wf=true/\(M.at r).isSome=true)/\IsW w p M F/\M.at r=some (qT k h vs vals0)/\be M h=true/\(k=2\/k=4)):=⟨hFA,hFB,hheld,hmay,hm,hkn,hW,ht,hh,hk⟩;clear hFA hFB hheld hmay hm hkn hS hv hlen hcap hW ht hh hk;obtain⟨vk,vn,vstr,vl,vr⟩:=v;simp only [au]at HS HP ⊢;generalize hnv:vl.length=nv at *;generalize hn:vs.length=n at *
 have HX:Hid (Bl w ((w.alloc (.cells (V_ vk vn vstr (.slice pv nv cv) vr) 27)).alloc (.cells O 27)) /\
  ((w.alloc (.cells (V_ vk vn vstr (.slice pv nv cv) vr) 27)).alloc (.cells O 27)).heap[w.heap.size]? = some (.cells (V_ vk vn vstr (.slice pv nv cv) vr) 27 (0,0)) /\
  ((w.alloc (.cells (V_ vk vn vstr (.slice pv nv cv) vr) 27)).alloc (.cells O 27)).heap[w.heap.size+1]? = some (.cells zV 27 (0,0))) :=
  ⟨(br.alloc aH _).alloc (by simp) _,aL _ _ _,aK _ _ _⟩
 go_enter Tryz.func320,Tryz.ntmps320
 go_upto_region 1 with fail
 revert HX;generalize (w.alloc _).alloc _=wa;intro HX;have Hb:Hid (wa.heap[b]? = some (.cells (bj p r (qT k h vs (.slice ps n cs))) ty (0,0))):=(HX.out.1.block b hlt).trans hb
 have HS:Hid (SlAt wa FA (.slice ps n n) vs/\SlAt wa FB (.slice pv nv cv) vl/\vs.length≤1024):=by
  refine⟨?_,HS.out.2.1.on HX.out.1,by have:=HS.out.2.2;omega⟩;have:=(HS.out.1.on HX.out.1).front (k:=vs.length) aH n ⟨by omega,fun h0=>by have h3:=HS.out.1.room;have h4:=h3.2 h0;omega⟩
  rwa [List.take_length,hn]at this
 refine aR 21 (by kernel_rfl) rfl (by kernel_rfl) (by kernel_rfl) (fun a b=>Bl a b) (AdPhi b n cs ps vk vn vr vstr pv nv cv FA FB wa.heap.size (vs ++ [⟨vk,vn,vstr,vl,vr⟩])) (fun w'=>Bl wa w') (fun j v w w'=>AdPhi.stab j v w w') below_drew (fun a b h hR=>h.trans (hR.mono h.size)) ?_ ?_ ?_
 ·exact fun _ _ _ _ h1 h2=>bC (by kernel_rfl) h1 h2
 ·intro j q a w7 hq hC hG;have hj:j<21:=ji hq
  match j,hj with
  | 0,_ =>
    cases hq;have h0:a.tmps.getD 0 undef=P_ b:=hG.fr 0 (by simp);exact aT (P_ b) (by rw [<- h0];rfl) br rfl
  | 1,_=>cases hq;have h7':=gq (i:=7) (gd hG 0 rfl);unfold Oper.wp;simp [go_sem,Act.eval,h7'];exact⟨_,rfl,br,rfl⟩
  | 2,_=>cases hq;have h8':=gq (i:=8) (gd hG 1 rfl);unfold Oper.wp;simp [go_sem,Act.eval,h8'];exact⟨_,rfl,br,rfl⟩
  | 3,_=>cases hq;have h9':=gq (i:=9) (gd hG 2 rfl);unfold Oper.wp;simp [go_sem,Act.eval,h9'];exact⟨_,rfl,br,rfl⟩
  | 4,_ =>
    cases hq;have h10':=gq (i:=10) (gd hG 3 rfl);have c:w7.cell? ⟨b,9,none⟩=some (.slice ps n cs):=by rw [ag (ae hC Hb.out)];rfl
    unfold Oper.wp;simp [go_sem,Act.eval,h10',c];exact⟨_,rfl,br,rfl⟩
  | 5,_ =>
    cases hq;have h0:a.tmps.getD 0 undef=P_ b:=hG.fr 0 (by simp);exact aT (P_ b) (by rw [<- h0];rfl) br rfl
  | 6,_=>cases hq;have h12':=gq (i:=12) (gd hG 5 rfl);unfold Oper.wp;simp [go_sem,Act.eval,h12'];exact⟨_,rfl,br,rfl⟩
  | 7,_=>cases hq;have h13':=gq (i:=13) (gd hG 6 rfl);unfold Oper.wp;simp [go_sem,Act.eval,h13'];exact⟨_,rfl,br,rfl⟩
  | 8,_=>cases hq;have h14':=gq (i:=14) (gd hG 7 rfl);unfold Oper.wp;simp [go_sem,Act.eval,h14'];exact⟨_,rfl,br,rfl⟩
  | 9,_ =>
    cases hq;have h15':=gq (i:=15) (gd hG 8 rfl);have c:w7.cell? ⟨b,9,none⟩=some (.slice ps n cs):=by rw [ag (ae hC Hb.out)];rfl
    unfold Oper.wp;simp [go_sem,Act.eval,h15',c];exact⟨_,rfl,br,rfl⟩
  | 10,_=>cases hq;have h16':=gq (i:=16) (gd hG 9 rfl);unfold Oper.wp;simp [go_sem,Act.eval,h16'];exact⟨_,rfl,br,rfl⟩
  | 11,_ =>
    cases hq;have h0:a.tmps.getD 0 undef=P_ b:=hG.fr 0 (by simp);exact aT (P_ b) (by rw [<- h0];rfl) br rfl
  | 12,_=>cases hq;have h18':=gq (i:=18) (gd hG 11 rfl);unfold Oper.wp;simp [go_sem,Act.eval,h18'];exact⟨_,rfl,br,rfl⟩
  | 13,_=>cases hq;have h19':=gq (i:=19) (gd hG 12 rfl);unfold Oper.wp;simp [go_sem,Act.eval,h19'];exact⟨_,rfl,br,rfl⟩
  | 14,_=>cases hq;have h20':=gq (i:=20) (gd hG 13 rfl);unfold Oper.wp;simp [go_sem,Act.eval,h20'];exact⟨_,rfl,br,rfl⟩
  | 15,_ =>
    cases hq;have h21':=gq (i:=21) (gd hG 14 rfl);have c:w7.cell? ⟨b,9,none⟩=some (.slice ps n cs):=by rw [ag (ae hC Hb.out)];rfl
    unfold Oper.wp;simp [go_sem,Act.eval,h21',c];exact⟨_,rfl,br,rfl⟩
  | 16,_=>cases hq;have h22':=gq (i:=22) (gd hG 15 rfl);unfold Oper.wp;simp [go_sem,Act.eval,h22'];exact⟨_,rfl,br,rfl⟩
  | 17,_ =>
    cases hq;have h11':=gq (i:=11) (gd hG 4 rfl);have h17':=gq (i:=17) (gd hG 10 rfl);have h23':=gq (i:=23) (gd hG 16 rfl);have hncs:=Hn.out.1;refine aT (.slice ps n n) ?_ br rfl;have hsl:=pE w7 ps n cs hncs;simp [execOp,Act.eval,h11',h17',h23',hsl,Result.andThen]
  | 18,_ =>
    cases hq;have h3:a.tmps.getD 3 undef=P_ w.heap.size:=hG.fr 3 (by simp);refine aT (.agg (V_ vk vn vstr (.slice pv nv cv) vr)) ?_ br rfl;rw [fj];show (bp (a.tmps.getD 3 undef)).run _ _=_;rw [h3];exact aI (ae hC HX.out.2.1) rfl
  | 19,_ =>
    cases hq;have h25':=gq (i:=25) (gd hG 18 rfl);unfold Oper.wp;simp [go_sem,Act.eval,h25'];exact⟨_,rfl,br.alloc aH _,w7.heap.size,rfl,ai _ _⟩
  | 20,_ =>
    cases hq;have h24:a.tmps.getD 24 undef=.slice ps n n:=gd hG 17 rfl;obtain⟨g,h26,hg26⟩:=gd hG 19 rfl;have h26:a.tmps.getD 26 undef=.slice (some ⟨g,0,none⟩) 1 1:=h26;obtain⟨u,w8,hrun,hs8,hb8,hc8⟩:=tu (v:=⟨vk,vn,vstr,vl,vr⟩) (rv:=.slice pv nv cv) (HS.out.1.on hC) (HS.out.2.1.on hC) HS.out.2.2 hg26 Hn.out.2 24;refine aT u ?_ hb8 ⟨hs8.mono fun y hy=>by rcases hy with hy | hy | hy;exact .inl hy;exact .inr (.inl hy);exact .inr (.inr (Nat.le_trans hC.size hy)),hc8⟩
    simp [execOp,resolve,invoke,builtin,Act.eval,h24,h26,hrun,Result.andThen]
 ·intro a w7 hC hdf hsz hfr hphi;obtain⟨u,hu⟩:∃ u,a.tmps.getD 27 undef=u:=⟨_,rfl⟩;obtain⟨q19,h19,-⟩:=hphi 19 _ rfl;have e19:a.tmps.getD 26 undef=.slice (some ⟨q19,0,none⟩) 1 1:=h19;have hsu:SlAt w7 (fun y=>FA y\/FB y\/wa.heap.size≤y) (a.tmps.getD 27 undef) (vs ++ [⟨vk,vn,vstr,vl,vr⟩])/\dQ (a.tmps.getD 27 undef):=hphi 20 _ rfl;rw [hu]at hsu;have e20:a.tmps.getD 27 undef=u:=hu;have e0:a.tmps.getD 7 undef=_:=hphi 0 _ rfl;have e1:a.tmps.getD 8 undef=_:=hphi 1 _ rfl;have e2:a.tmps.getD 9 undef=_:=hphi 2 _ rfl;have e3:a.tmps.getD 10 undef=_:=hphi 3 _ rfl;have e4:a.tmps.getD 11 undef=_:=hphi 4 _ rfl;have e5:a.tmps.getD 12 undef=_:=hphi 5 _ rfl;have e6:a.tmps.getD 13 undef=_:=hphi 6 _ rfl;have e7:a.tmps.getD 14 undef=_:=hphi 7 _ rfl;have e8:a.tmps.getD 15 undef=_:=hphi 8 _ rfl;have e9:a.tmps.getD 16 undef=_:=hphi 9 _ rfl;have e10:a.tmps.getD 17 undef=J n:=hphi 10 _ rfl;have e11:a.tmps.getD 18 undef=_:=hphi 11 _ rfl;have e12:a.tmps.getD 19 undef=_:=hphi 12 _ rfl;have e13:a.tmps.getD 20 undef=_:=hphi 13 _ rfl;have e14:a.tmps.getD 21 undef=_:=hphi 14 _ rfl;have e15:a.tmps.getD 22 undef=_:=hphi 15 _ rfl;have e16:a.tmps.getD 23 undef=J n:=hphi 16 _ rfl;have e17:a.tmps.getD 24 undef=_:=hphi 17 _ rfl;have e18:a.tmps.getD 25 undef=_:=hphi 18 _ rfl;have ha:=bq hdf hsz hfr;simp only [List.take_succ_cons,List.take_zero,List.filterMap_cons,List.filterMap_nil,List.foldl_cons,List.foldl_nil,List.setIfInBounds_toArray,List.set_cons_zero,List.set_cons_succ,e0,e1,e2,e3,e4,e5,e6,e7,e8,e9,e10,e11,e12,e13,e14,e15,e16,e17,e18,e19,e20]at ha;clear hdf hsz hfr hphi e0 e1 e2 e3 e4 e5 e6 e7 e8 e9 e10 e11 e12 e13 e14 e15 e16 e17 e18 e19 e20 h19 hu;subst ha;refine⟨rfl,?_⟩;unfold Oper.wp;simp [execOp,go_sem,Act.eval,aV];obtain⟨pu,cu,hform⟩:=hsu.1.form;have Hnu:Hid ((vs ++ [⟨vk,vn,vstr,vl,vr⟩]:List Val).length=n+1):=by show _=_;simp [hn]
  rw [Hnu.out]at hform;subst hform
  have HU:Hid (Bl w w7/\SlAt w7 (fun y=>FA y\/FB y\/wa.heap.size≤y) (.slice pu (n+1) cu) (vs ++ [⟨vk,vn,vstr,vl,vr⟩])/\w7.heap[b]? = some (.cells (bj p r (qT k h vs (.slice ps n cs))) ty (0,0))/\w7.heap[w.heap.size+1]? = some (.cells zV 27 (0,0))/\w.heap.size≤wa.heap.size) :=
   ⟨HX.out.1.trans (hC.mono HX.out.1.size),hsu.1,ae hC Hb.out,ae hC HX.out.2.2,HX.out.1.size⟩
  clear hsu hC Hb HX HS;refine ‹∀ (a:Act) (w:World),Code.wp Tryz.prog _ _ a w->_› _ _ ?_
  go_wp2_with fail
  refine(pw _ _ _ _).mono ?_;rintro e w8 ⟨rfl,hb8⟩
  have HU8:Hid (Bl w w8/\SlAt w8 (fun y=>FA y\/FB y\/wa.heap.size≤y) (.slice pu (n+1) cu) (vs ++ [⟨vk,vn,vstr,vl,vr⟩])/\w8.heap[b]? = some (.cells (bj p r (qT k h vs (.slice ps n cs))) ty (0,0))/\w8.heap[w.heap.size+1]? = some (.cells zV 27 (0,0))) :=
   ⟨HU.out.1.trans (hb8.mono HU.out.1.size),HU.out.2.1.on hb8,ae hb8 HU.out.2.2.1,ae hb8 HU.out.2.2.2.1⟩
  clear hb8
  go_wp2_with fail
  have hml:=dF (v:=aJ (vs ++ [⟨vk,vn,vstr,vl,vr⟩])) (raw:=.slice pu (n+1) cu) HU8.out.2.1;have HML:Hid (Calls Tryz.prog 161 #[.agg (V_ 3 0 ⟨#[]⟩ (.slice pu (n+1) cu) 0)] w8 fun e w'=>e=.returned (.bool (ay (aJ (vs ++ [⟨vk,vn,vstr,vl,vr⟩]))))/\Bl w8 w'):=hml;clear hml
  cases hmay:ay (aJ (vs ++ [⟨vk,vn,vstr,vl,vr⟩]))with
  | false =>
    rw [hmay]at HML;have Hmay:Hid _:=hmay;refine Calls.mono HML.out ?_;rintro e w9 ⟨rfl,hb9⟩;have HB9:Hid (Bl w w9):=HU8.out.1.trans (hb9.mono HU8.out.1.size);have hr9:=ae hb9 HU8.out.2.2.2;have HR9:Hid _:=hr9;obtain⟨⟨r0,r1,r2,r3,r4⟩,q0,q1,q2,q3,q4⟩:=ax hr9;have s0:w9.setCell ⟨w.heap.size+1,0,none⟩ (U 0)=w9:=bv hr9 rfl;have s1:w9.setCell ⟨w.heap.size+1,1,none⟩ (J 0)=w9:=bv hr9 rfl;have s2:w9.setCell ⟨w.heap.size+1,2,none⟩ (T_)=w9:=bv hr9 rfl;have s3:w9.setCell ⟨w.heap.size+1,3,none⟩ (S_)=w9:=bv hr9 rfl;have s4:w9.setCell ⟨w.heap.size+1,4,none⟩ (J 0)=w9:=bv hr9 rfl;clear hb9 HU8 HU hr9 HML
    go_wp2_with fail
    refine bodyPost_ret (v:=.tuple #[.agg zV,J 8]) (by simp [results,Tryz.results320,go_sem,r0,r1,r2,r3,r4,zV]) rfl (.inr ⟨Hmay.out,rfl,HB9.out⟩)
  | true =>
    rw [hmay]at HML;have Hmay:Hid _:=hmay;refine Calls.mono HML.out ?_;rintro e w9 ⟨rfl,hb9⟩
    have HU9:Hid (Bl w w9/\SlAt w9 (fun y=>FA y\/FB y\/wa.heap.size≤y) (.slice pu (n+1) cu) (vs ++ [⟨vk,vn,vstr,vl,vr⟩])/\w9.heap[b]? = some (.cells (bj p r (qT k h vs (.slice ps n cs))) ty (0,0))/\w9.heap[w.heap.size+1]? = some (.cells zV 27 (0,0))) :=
     ⟨HU8.out.1.trans (hb9.mono HU8.out.1.size),HU8.out.2.1.on hb9,ae hb9 HU8.out.2.2.1,ae hb9 HU8.out.2.2.2⟩
    have f9:=av HU9.out.2.2.1 9;have c9:w9.cell? ⟨b,9,none⟩=some (.slice ps n cs):=by rw [ag HU9.out.2.2.1];rfl
    have hb3:(w9.setCell ⟨b,9,none⟩ (.slice pu (n+1) cu)).heap[b]? = some (.cells (bj p r (qT k h (vs ++ [⟨vk,vn,vstr,vl,vr⟩]) (.slice pu (n+1) cu))) ty (0,0)):=aA HU9.out.2.2.1 9 (.slice pu (n+1) cu);have hk3:Keeps (fun y=>y=b) w (w9.setCell ⟨b,9,none⟩ (.slice pu (n+1) cu)):=Below.keeps HU9.out.1 (Keeps.setCell (S:=fun y=>y=b) w9 ⟨b,9,none⟩ _ rfl);have hr3:(w9.setCell ⟨b,9,none⟩ (.slice pu (n+1) cu)).heap[w.heap.size+1]? = some (.cells zV 27 (0,0)):=eK HU9.out.2.2.2 ⟨b,9,none⟩ _ (by simp;omega)
    have hs3:SlAt (w9.setCell ⟨b,9,none⟩ (.slice pu (n+1) cu)) (fun y=>FA y\/FB y\/wa.heap.size≤y) (.slice pu (n+1) cu) (vs ++ [⟨vk,vn,vstr,vl,vr⟩]):=HU9.out.2.1.of_blocks (fun y hy=>Below.heap_setCell w9 ⟨b,9,none⟩ _ y (fun e=>by
     rcases hy with hy | hy | hy
     ·exact HP.out.1 y hy e
     ·exact HP.out.2.1 y hy e
     ·have:y=b:=e;have:=HU.out.2.2.2.2
      omega)) (fun _ h=>h)
    have HS3:Hid _:=And.intro hb3 (And.intro hk3 (And.intro hr3 hs3));clear hb9 HU8 HML hb3 hk3 hr3 hs3
    go_wp2_with fail
    revert HS3;generalize World.setCell _ _ _=w3;intro HS3;have hb3:=HS3.out.1;have c0:w3.drew.cell? ⟨b,0,none⟩=some (.pointer (some ⟨p,0,none⟩)):=by rw [ag (aX hb3)];rfl
    have c1:w3.drew.cell? ⟨b,1,none⟩=some (.int .i64 r):=by rw [ag (aX hb3)];rfl
    have ldx:(dZ (R_ b 2)).run Tryz.prog w3.drew=.ok (.value (.agg (X_ k h 0 0 ⟨#[]⟩ (S_) 0 (.slice pu (n+1) cu) 0 0 0 0 0 false))) w3.drew:=iH (aX hb3) (cs:=#[.int .u8 k,.int .i64 h,.int .u8 0,.int .i64 0,.string ⟨#[]⟩,.slice none 0 0,.int .i64 0,.slice pu (n+1) cu,.int .i64 0,.int .i64 0,.int .i64 0,.int .i64 0,.int .u8 0,.bool false,.slice none 0 0,.slice none 0 0].toList) (by intro j x hj;exact fS (t:=qT k h (vs ++ [⟨vk,vn,vstr,vl,vr⟩]) (.slice pu (n+1) cu)) hj) rfl;obtain⟨-,-,hheld,hmayl,hm,hkn,hW,ht,hh,hk⟩:=HP.out;have hW3:IsW w3.drew p M F:=hW.keeps HS3.out.2.1.drew (fun y hy e=>hbF (e ▸ hy));have hs3:SlAt w3.drew (fun y=>FA y\/FB y\/wa.heap.size≤y) (.slice pu (n+1) cu) (vs ++ [⟨vk,vn,vstr,vl,vr⟩]):=HS3.out.2.2.2.of_blocks (fun _ _=>rfl) fun _ h=>h
    have hall:∀ x ∈ vs ++ [⟨vk,vn,vstr,vl,vr⟩],ay x=true:=fun x hx=>by
     rcases List.mem_append.1 hx with hx | hx
     ·exact hmayl x hx
     ·simp at hx;subst hx;exact hm
    have hl3:=dg Hmay.out;have hhm:=sn (b:=.slice pu (n+1) cu) hheld hkn
    have HL:Hid (Calls Tryz.prog 107 #[P_ p,J r,.agg (X_ k h 0 0 ⟨#[]⟩ (S_) 0 (.slice pu (n+1) cu) 0 0 0 0 0 false)] w3.drew fun e w'=>e=.returned (J 0)/\nb w3.drew p M F r (qT k h (vs ++ [⟨vk,vn,vstr,vl,vr⟩]) (.slice pu (n+1) cu)) w'):=by
     refine xa hW3 hr ht rfl (x:=qT k h (vs ++ [⟨vk,vn,vstr,vl,vr⟩]) (.slice pu (n+1) cu)) ⟨SlAt.nil _ _ _ _,hs3,rfl,rfl⟩ ⟨(aZ 0 0 (.inl ⟨rfl,rfl⟩)).2,hall,by show (vs ++ [_]).length≤_;omega⟩ rfl rfl rfl rfl rfl (fun r hr=>(hhm r hr).1) (by unfold cX;rw [List.all_eq_true];exact fun r hr=>(hhm r hr).2) ?_;intro w' hb';have hO:ez w' (.slice pu (n+1) cu):=wU (hs3.on hb') (by omega) (ls hall Hmay.out)
     rcases hk with rfl | rfl
     ·exact uQ (hW3.below hb') hh uB hO
     ·exact Az (hW3.below hb') hh uB hO
    have HK:Hid _:=And.intro HS3.out.2.1 (And.intro HS3.out.2.2.1 hlt);have HbF:Hid (∀ y,F y->y<w.heap.size):=hW.lt;clear hheld hmayl hm hkn hW ht hh hk hW3 hs3 hall hl3 hhm;refine cl (z:=_) 13 [0] (fun i=>match i with | 0=>.agg zV | 1=>P_ b | 2=>P_ b | 3=>P_ b | 4=>P_ p | 5=>P_ b | 6=>P_ b | 7=>R_ b 1 | 8=>J r | 9=>P_ b | 10=>P_ b | 11=>R_ b 2 | 12=>.agg (X_ k h 0 0 ⟨#[]⟩ (S_) 0 (.slice pu (n+1) cu) 0 0 0 0 0 false) | _=>undef) (fun v w'=>v=J 0/\nb w3.drew p M F r (qT k h (vs ++ [⟨vk,vn,vstr,vl,vr⟩]) (.slice pu (n+1) cu)) w') (by kernel_rfl) rfl (by kernel_rfl) rfl (by kernel_rfl) (by kernel_rfl) ?_ ?_ ?_
    ·intro i q a w7 hq hw hdep hfr;have hj:i<13:=ji hq
     match i,hj with
     | 0,_ =>
       cases hq;clear hw hdep hfr;simp [go_sem,zV]
     | 1,_ =>
       cases hq;have hw:w7=w3.drew:=by simpa using hw
       subst hw;have h0':a.tmps[0]?.getD undef=P_ b:=gq (hfr 0 (by simp));clear hdep hfr;simp [go_sem,Act.eval,h0']
     | 2,_ =>
       cases hq;have hw:w7=w3.drew:=by simpa using hw
       subst hw;have h0:a.tmps.getD 39 undef=P_ b:=hdep ⟨1,.data⟩ (by simp) rfl _ rfl;have h0':a.tmps[39]?.getD undef=P_ b:=by rw [<- h0];simp [Array.getD_eq_getD_getElem?]
       clear hdep hfr;simp [go_sem,Act.eval,h0']
     | 3,_ =>
       cases hq;have hw:w7=w3.drew:=by simpa using hw
       subst hw;have h0:a.tmps.getD 40 undef=P_ b:=hdep ⟨2,.data⟩ (by simp) rfl _ rfl;have h0':a.tmps[40]?.getD undef=P_ b:=by rw [<- h0];simp [Array.getD_eq_getD_getElem?]
       clear hdep hfr;simp [go_sem,Act.eval,h0']
     | 4,_ =>
       cases hq;have hw:w7=w3.drew:=by simpa using hw
       subst hw;have h0:a.tmps.getD 41 undef=P_ b:=hdep ⟨3,.data⟩ (by simp) rfl _ rfl;have h0':a.tmps[41]?.getD undef=P_ b:=by rw [<- h0];simp [Array.getD_eq_getD_getElem?]
       clear hdep hfr;simp [go_sem,Act.eval,h0',c0]
     | 5,_ =>
       cases hq;have hw:w7=w3.drew:=by simpa using hw
       subst hw;have h0':a.tmps[0]?.getD undef=P_ b:=gq (hfr 0 (by simp));clear hdep hfr;simp [go_sem,Act.eval,h0']
     | 6,_ =>
       cases hq;have hw:w7=w3.drew:=by simpa using hw
       subst hw;have h0:a.tmps.getD 43 undef=P_ b:=hdep ⟨5,.data⟩ (by simp) rfl _ rfl;have h0':a.tmps[43]?.getD undef=P_ b:=by rw [<- h0];simp [Array.getD_eq_getD_getElem?]
       clear hdep hfr;simp [go_sem,Act.eval,h0']
     | 7,_ =>
       cases hq;have hw:w7=w3.drew:=by simpa using hw
       subst hw;have h0:a.tmps.getD 44 undef=P_ b:=hdep ⟨6,.data⟩ (by simp) rfl _ rfl;have h0':a.tmps[44]?.getD undef=P_ b:=by rw [<- h0];simp [Array.getD_eq_getD_getElem?]
       clear hdep hfr;simp [go_sem,Act.eval,h0']
     | 8,_ =>
       cases hq;have hw:w7=w3.drew:=by simpa using hw
       subst hw;have h0:a.tmps.getD 45 undef=R_ b 1:=hdep ⟨7,.data⟩ (by simp) rfl _ rfl;have h0':a.tmps[45]?.getD undef=R_ b 1:=by rw [<- h0];simp [Array.getD_eq_getD_getElem?]
       clear hdep hfr;simp [go_sem,Act.eval,h0',c1]
     | 9,_ =>
       cases hq;have hw:w7=w3.drew:=by simpa using hw
       subst hw;have h0':a.tmps[0]?.getD undef=P_ b:=gq (hfr 0 (by simp));clear hdep hfr;simp [go_sem,Act.eval,h0']
     | 10,_ =>
       cases hq;have hw:w7=w3.drew:=by simpa using hw
       subst hw;have h0:a.tmps.getD 47 undef=P_ b:=hdep ⟨9,.data⟩ (by simp) rfl _ rfl;have h0':a.tmps[47]?.getD undef=P_ b:=by rw [<- h0];simp [Array.getD_eq_getD_getElem?]
       clear hdep hfr;simp [go_sem,Act.eval,h0']
     | 11,_ =>
       cases hq;have hw:w7=w3.drew:=by simpa using hw
       subst hw;have h0:a.tmps.getD 48 undef=P_ b:=hdep ⟨10,.data⟩ (by simp) rfl _ rfl;have h0':a.tmps[48]?.getD undef=P_ b:=by rw [<- h0];simp [Array.getD_eq_getD_getElem?]
       clear hdep hfr;simp [go_sem,Act.eval,h0']
     | 12,_ =>
       cases hq;have hw:w7=w3.drew:=by simpa using hw
       subst hw;have h0:a.tmps.getD 49 undef=R_ b 2:=hdep ⟨11,.data⟩ (by simp) rfl _ rfl;have h0':a.tmps[49]?.getD undef=R_ b 2:=by rw [<- h0];simp [Array.getD_eq_getD_getElem?]
       clear hdep hfr;rw [execOp_ldW];show (dZ (a.tmps.getD 49 undef)).run _ _=_;rw [h0];exact ldx
    ·intro a hdep hfr;have g0:a.tmps.getD 42 undef=P_ p:=hdep ⟨4,.data⟩ (by simp) rfl _ rfl;have g0':a.tmps[42]?.getD undef=P_ p:=by rw [<- g0];simp [Array.getD_eq_getD_getElem?]
     have g1:a.tmps.getD 46 undef=J r:=hdep ⟨8,.data⟩ (by simp) rfl _ rfl;have g1':a.tmps[46]?.getD undef=J r:=by rw [<- g1];simp [Array.getD_eq_getD_getElem?]
     have g2:a.tmps.getD 50 undef=.agg (X_ k h 0 0 ⟨#[]⟩ (S_) 0 (.slice pu (n+1) cu) 0 0 0 0 0 false):=hdep ⟨12,.data⟩ (by simp) rfl _ rfl;have g2':a.tmps[50]?.getD undef=.agg (X_ k h 0 0 ⟨#[]⟩ (S_) 0 (.slice pu (n+1) cu) 0 0 0 0 0 false):=by rw [<- g2];simp [Array.getD_eq_getD_getElem?]
     clear hdep hfr;unfold Oper.wp;simp [go_sem,callFunc,Act.eval,Tryz.func107,g0',g1',g2'];refine Calls.mono HL.out ?_;rintro e w5 ⟨rfl,hl⟩;exact⟨_,rfl,rfl,hl⟩
    ·intro a w5 v hP hdf hsz hfr hval hv;obtain⟨rfl,hl⟩:=hP;have e0:a.tmps.getD 38 undef=.agg zV:=hval 0 _ rfl;have e1:a.tmps.getD 39 undef=P_ b:=hval 1 _ rfl;have e2:a.tmps.getD 40 undef=P_ b:=hval 2 _ rfl;have e3:a.tmps.getD 41 undef=P_ b:=hval 3 _ rfl;have e4:a.tmps.getD 42 undef=P_ p:=hval 4 _ rfl;have e5:a.tmps.getD 43 undef=P_ b:=hval 5 _ rfl;have e6:a.tmps.getD 44 undef=P_ b:=hval 6 _ rfl;have e7:a.tmps.getD 45 undef=R_ b 1:=hval 7 _ rfl;have e8:a.tmps.getD 46 undef=J r:=hval 8 _ rfl;have e9:a.tmps.getD 47 undef=P_ b:=hval 9 _ rfl;have e10:a.tmps.getD 48 undef=P_ b:=hval 10 _ rfl;have e11:a.tmps.getD 49 undef=R_ b 2:=hval 11 _ rfl;have e12:a.tmps.getD 50 undef=.agg (X_ k h 0 0 ⟨#[]⟩ (S_) 0 (.slice pu (n+1) cu) 0 0 0 0 0 false):=hval 12 _ rfl;have ha:=bq hdf hsz hfr;simp only [List.take_succ_cons,List.take_zero,List.cons_append,List.nil_append,List.filterMap_cons,List.filterMap_nil,List.foldl_cons,List.foldl_nil,List.setIfInBounds_toArray,List.set_cons_zero,List.set_cons_succ,e0,e1,e2,e3,e4,e5,e6,e7,e8,e9,e10,e11,e12,hv]at ha;clear hdf hsz hfr hval hv e0 e1 e2 e3 e4 e5 e6 e7 e8 e9 e10 e11 e12;subst ha
     have hr5:w5.heap[w.heap.size+1]? = some (.cells zV 27 (0,0)):=by
      obtain⟨vl',vals',F',l0,l1,l2,l3⟩:=hl;exact(l2.block _ (aw (aX HK.out.2.1)) (fun e=>by have:=HbF.out _ e;omega)).trans (aX HK.out.2.1)
     have hst:(bZ (P_ (w.heap.size+1)) (.agg zV)).run Tryz.prog w5=.ok .skip w5:=bf hr5 rfl (by simp [zV]) (by simp [zV,go_sem]) (by simp [zV])
     have HE:Hid (LaidB w p M F r (qT k h (vs ++ [⟨vk,vn,vstr,vl,vr⟩]) (.slice pu (n+1) cu)) b w5):=by
      obtain⟨vl',vals',F',l0,l1,l2,l3⟩:=hl;exact⟨vl',vals',F',l0,l1,(HK.out.1.drew).trans l2 (fun _ _ h=>.inr h) (fun _ _ h=>.inl h),fun y hy=>(l3 y hy).imp id fun h=>Nat.le_trans HK.out.1.drew.size h⟩
     obtain⟨⟨r0,r1,r2,r3,r4⟩,-⟩:=ax hr5;clear hl hr5 c0 c1 ldx HL HK hb3 HS3 HU9 HU;unfold bQ Oper.wp;rw [aW];simp [go_sem,Act.eval,hst];unfold bQ Oper.wp;simp [execOp,go_sem,Act.eval,bQ];refine ‹∀ (a:Act) (w:World),Code.wp Tryz.prog _ _ a w->_› _ _ ?_
     go_wp2_with fail
     refine bodyPost_ret (v:=.tuple #[.agg zV,J 0]) (by simp [results,Tryz.results320,go_sem,r0,r1,r2,r3,r4,zV]) rfl (.inl ⟨Hmay.out,rfl,_,HE.out⟩)
end
section
theorem rK {n:Nat} (l m:List Val) (p:Nat):bc n p (l ++ m)=(bc n p l).bind fun q=>bc n q m:=by
 unfold bc;rw [List.foldlM_append];rfl
theorem ew {n:Nat} (ih:∀ p v q d,aP n p v=some q->aP n (p+d) v=some (q+d)):∀ (l:List Val) (p q d:Nat),bc n p l=some q->bc n (p+d) l=some (q+d)
 | [],p,q,d,h=>by
   cases h
   rfl
 | x :: l,p,q,d,h=>by
   have e:∀ p,bc n p (x :: l)=(aP n p x).bind fun q=>bc n q l:=fun p=>by
    unfold bc;rw [List.foldlM_cons];rfl
   rw [e]at h ⊢
   cases hx:aP n p x with
   | none=>rw [hx]at h;cases h
   | some q' =>
     rw [hx]at h;rw [ih p x q' d hx];exact ew ih l q' q d h
theorem om:∀ (n p:Nat) (v:Val) (q d:Nat),aP n p v=some q->aP n (p+d) v=some (q+d):=by
 intro n
 induction n with
 | zero =>
   intro p v q d h
   cases p with
   | zero=>cases h
   | succ p =>
     have e:p+1+d=(p+d)+1:=by omega
     rw [e]
     by_cases h0:v.kind=0
     ·rw [sq h0]at h ⊢;split at h
      ·rw [if_pos (by assumption)];cases h;rfl
      ·cases h
     by_cases h1:v.kind=1
     ·rw [sw h1]at h ⊢;split at h
      ·rw [if_pos (by assumption)];cases h;rfl
      ·cases h
     by_cases h2:v.kind=2
     ·rw [so h2]at h ⊢;split at h
      ·cases h
      ·rename_i hs
       rw [if_neg hs];split at h
       ·rw [if_pos (by assumption)];cases h;rfl
       ·cases h
     by_cases h4:v.kind=4
     ·rw [sr h4]at h ⊢;split at h
      ·cases h
      ·rename_i hs
       rw [if_neg hs];split at h
       ·rw [if_pos (by assumption)];cases h;rfl
       ·cases h
     by_cases h3:v.kind=3
     ·rw [uG h3]at h
      cases h
     ·rw [wS h0 h1 h2 h3 h4]at h
      cases h
 | succ n ih =>
   intro p v q d h
   cases p with
   | zero=>cases h
   | succ p =>
     have e:p+1+d=(p+d)+1:=by omega
     rw [e]
     by_cases h0:v.kind=0
     ·rw [sq h0]at h ⊢;split at h
      ·rw [if_pos (by assumption)];cases h;rfl
      ·cases h
     by_cases h1:v.kind=1
     ·rw [sw h1]at h ⊢;split at h
      ·rw [if_pos (by assumption)];cases h;rfl
      ·cases h
     by_cases h2:v.kind=2
     ·rw [so h2]at h ⊢;split at h
      ·cases h
      ·rename_i hs
       rw [if_neg hs];split at h
       ·rw [if_pos (by assumption)];cases h;rfl
       ·cases h
     by_cases h4:v.kind=4
     ·rw [sr h4]at h ⊢;split at h
      ·cases h
      ·rename_i hs
       rw [if_neg hs];split at h
       ·rw [if_pos (by assumption)];cases h;rfl
       ·cases h
     by_cases h3:v.kind=3
     ·by_cases hl:v.l.length > p
      ·rw [nh h3 hl]at h
       cases h
      ·rw [uI h3 hl]at h;rw [uI h3 (by omega)];cases hq:bc n p v.l with
       | none=>rw [hq]at h;cases h
       | some q' =>
         rw [hq]at h;rw [ew ih v.l p q' d hq];simp only at h ⊢;split at h
         ·rw [if_pos (by assumption)];cases h;rfl
         ·cases h
     ·rw [wS h0 h1 h2 h3 h4]at h
      cases h
theorem dz (l:List Val):ay (aJ l)=true ↔ l.length≤511/\∃ q,bc 15 511 l=some q:=by
 unfold ay
 by_cases hl:l.length > 511
 ·rw [show (512:Nat)=511+1 from rfl,show (16:Nat)=15+1 from rfl,nh (v:=aJ l) rfl hl];constructor
  ·intro h;cases h
  ·intro h;omega
 ·rw [show (512:Nat)=511+1 from rfl,show (16:Nat)=15+1 from rfl,uI (v:=aJ l) rfl hl];show (match bc 15 511 l with | none=>none | some q=>if dC 0 ⟨#[]⟩ 0 0 then some q else none).isSome=true ↔ _
  cases hq:bc 15 511 l with
  | none =>
    constructor
    ·intro h;cases h
    ·intro h;obtain⟨_,q,h⟩:=h
     cases h
  | some q=>exact⟨fun _=>⟨by omega,q,rfl⟩,fun _=>rfl⟩
theorem ga {l:List Val} (h:ay (aJ l)=true) (k:Nat):ay (aJ (l.take k))=true:=by
 rw [dz]at h ⊢;obtain⟨h1,q,h2⟩:=h;refine⟨by simp;omega,?_⟩;cases hq:bc 15 511 (l.take k)with
 | none=>rw [fv hq]at h2;cases h2
 | some q'=>exact⟨q',rfl⟩
theorem da {l:List Val} (h:ay (aJ l)=true) (k:Nat):ay (aJ (l.drop k))=true:=by
 rw [dz]at h ⊢;obtain⟨h1,q,h2⟩:=h;refine⟨by simp;omega,?_⟩;rw [<- List.take_append_drop k l,rK]at h2;cases hq:bc 15 511 (l.take k)with
 | none=>rw [hq]at h2;cases h2
 | some q' =>
   rw [hq]at h2;have hle:q'≤511:=dU (fun p v q h=>Nat.le_of_lt (bJ h)) _ _ _ hq;have:=ew (om 15) (l.drop k) q' q (511 - q') h2;rw [show q'+(511 - q')=511 by omega]at this;exact⟨_,this⟩
end
end Go.Proofs.YthaliljaglldjaaGreat
