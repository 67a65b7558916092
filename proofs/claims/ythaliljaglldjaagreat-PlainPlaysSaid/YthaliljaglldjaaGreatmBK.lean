/- Part of the proof. -/
import Derived.Test.YthaliljaglldjaaGreatmBJ
namespace Go.Proofs.YthaliljaglldjaaGreat
set_option maxHeartbeats 16000000
set_option maxRecDepth 20000
open Go.RowKit Go.ChangeMaps Go.MapKept
section
variable {w:World} {p:Nat} {M:WM} {F:Nat->Prop}
attribute [local go_sem ↓] ju js kx im in
theorem tP (hW:IsW w p M F) {r:Int} (hr:(Lit.int .i64 r).wf=true) {t:Th} (ht:M.at r=some t) (hf:Fair t) (hk:t.kind=8) :
 Calls Tryz.prog 93 #[P_ p,J r] w fun e w'=>e=.returned (.tuple #[.nilIface,J 80])/\Bl w w':=by
 have HW:Hid _:=pD hW hr ht hf;clear hW ht hf;obtain⟨k,h,⟨vk,vn,vstr,vl,vr⟩,raw,vs,vals,n,l,tg,bi,s,fu,code,names⟩:=t;simp only at hk;subst hk;simp only [aF]at HW
 go_enter Tryz.func93,Tryz.ntmps93
 go_wp2_with fail
 refine Calls.mono HW.out ?_;rintro e w1 ⟨vl',vals',rfl,hb1,hd1,hn1,hn2,hn3⟩;obtain⟨pv,cv,hv⟩:=hd1.v.form;obtain⟨ps,cs,hs⟩:=hd1.vs.form;have hcode:=hd1.code;have hnames:=hd1.names;simp only at hv hs hcode hnames hn1 hn2;subst hv hs hcode hnames;have hal:=qB (w1.alloc (.cells (X_ 8 h vk vn vstr (.slice pv vl.length cv) vr (.slice ps vs.length cs) n l tg bi s fu) 46));rw [World.size_alloc]at hal;have g2:=aG (w1.alloc (.cells (X_ 8 h vk vn vstr (.slice pv vl.length cv) vr (.slice ps vs.length cs) n l tg bi s fu) 46)) (.cells eg 163) (ai w1 (.cells (X_ 8 h vk vn vstr (.slice pv vl.length cv) vr (.slice ps vs.length cs) n l tg bi s fu) 46));have g3:=ai (w1.alloc (.cells (X_ 8 h vk vn vstr (.slice pv vl.length cv) vr (.slice ps vs.length cs) n l tg bi s fu) 46)) (.cells eg 163);rw [World.size_alloc]at g3;have hb2:Bl w1 ((w1.alloc (.cells (X_ 8 h vk vn vstr (.slice pv vl.length cv) vr (.slice ps vs.length cs) n l tg bi s fu) 46)).alloc (.cells eg 163)):=(br.alloc aH _).alloc (by simp) _;have hst0:=pW (c':=#[P_ p,J r,U 8,J h,U vk,J vn,.string vstr,.slice pv vl.length cv,J vr,.slice ps vs.length cs,J n,J l,J tg,J bi,U s,.bool fu,S_,S_]) g3 rfl rfl (by simp [go_sem,show (Value.pointer (some ⟨p,0,none⟩)).oneCell'=true from rfl]);have hbld:=fun w0:World=>nx w0 p r (x0:=U 8) (x1:=J h) (x2:=U vk) (x3:=J vn) (x4:=.string vstr) (x5:=.slice pv vl.length cv) (x6:=J vr) (x7:=.slice ps vs.length cs) (x8:=J n) (x9:=J l) (x10:=J tg) (x11:=J bi) (x12:=U s) (x13:=.bool fu) (x14:=S_) (x15:=S_);have hg2:=(aj _ (w1.heap.size+1) #[P_ p,J r,U 8,J h,U vk,J vn,.string vstr,.slice pv vl.length cv,J vr,.slice ps vs.length cs,J n,J l,J tg,J bi,U s,.bool fu,S_,S_] w1.heap.size (by omega)).trans g2;have hg3:=ah (c':=#[P_ p,J r,U 8,J h,U vk,J vn,.string vstr,.slice pv vl.length cv,J vr,.slice ps vs.length cs,J n,J l,J tg,J bi,U s,.bool fu,S_,S_]) g3;have hb3:=Below.setRow hb2 (Nat.le_succ _) #[P_ p,J r,U 8,J h,U vk,J vn,.string vstr,.slice pv vl.length cv,J vr,.slice ps vs.length cs,J n,J l,J tg,J bi,U s,.bool fu,S_,S_];have hz3:(((w1.alloc (.cells (X_ 8 h vk vn vstr (.slice pv vl.length cv) vr (.slice ps vs.length cs) n l tg bi s fu) 46)).alloc (.cells eg 163)).setRow (w1.heap.size+1) #[P_ p,J r,U 8,J h,U vk,J vn,.string vstr,.slice pv vl.length cv,J vr,.slice ps vs.length cs,J n,J l,J tg,J bi,U s,.bool fu,S_,S_]).heap.size=w1.heap.size+2:=by simp [World.setRow]
 revert hal hst0 hg2 hg3 hb3 hz3;clear g2 g3 hb2;generalize World.setRow _ _ _=w4;generalize ((w1.alloc (.cells (X_ 8 h vk vn vstr (.slice pv vl.length cv) vr (.slice ps vs.length cs) n l tg bi s fu) 46)).alloc (.cells eg 163))=w3;intro hal hst hg2 hg3 hb3 hz3;have c0:w4.cell? ⟨w1.heap.size,0,none⟩=some (.int .u8 8):=by rw [ag hg2];rfl
 have HB:Hid (Bl w w4):=hb1.trans (hb3.mono hb1.size);clear hg2 hg3 hb3 hb1 hd1 HW hn1 hn2 hn3 hz3
 go_wp2_with fail
 go_ret2
 exact⟨rfl,HB.out⟩
abbrev zG (M:WM) (n:Int) (v:Val) (c:Int) (N:WM):Prop:=v=nilV/\c=n/\N=M
theorem eJ (hW:IsW w p M F) {n:Int} {w':World} (hb:Bl w w'):ActPost w p F (zG M n) (.returned (.tuple #[.agg O,J n])) w' :=
 ⟨nilV,none,0,n,M,F,rfl,⟨rfl,rfl,rfl⟩,Keeps.of_below hb,hW.below hb,fun _ h=>.inl h,SlT.nil _ _ _ _⟩
def zO (M:WM) (r a:Int) (v:Val):Prop:=cS a=false\/ay v=false\/M.at r=none\/knownB M v=false\/∃ t,M.at r=some t/\Fair t/\(t.kind=8\/bD t.kind=true/\(a=16\/a=32))
def DoB (w:World) (x:Array Value) (w':World):Prop:=Bl w w'/\w'.heap[w.heap.size]? = some (.cells x 27 (0,0))/\w'.heap[w.heap.size+1]? = some (.cells zV 27 (0,0))
theorem DoB.on {w w' w'':World} {x:Array Value} (h:DoB w x w') (hb:Bl w' w''):DoB w x w'':=⟨h.1.trans (hb.mono h.1.size),ae hb h.2.1,ae hb h.2.2⟩
theorem DoB.st {w w':World} {x:Array Value} (h:DoB w x w'):(bZ (P_ (w.heap.size+1)) (.agg O)).run Tryz.prog w'=.ok .skip w':=bf h.2.2 rfl (by simp [zV]) (by simp [go_sem]) (by simp [zV])
attribute [local go_sem ↓] jW aW in
theorem ze (hW:IsW w p M F) {r a:Int} (hr:(Lit.int .i64 r).wf=true) (ha:(Lit.int .u8 a).wf=true) {F1:Nat->Prop} {v:Val} {raw:Value} (hS:SlAt w F1 raw v.l) (hwf:v.wf) (hc:zO M r a v) {n:Int} (hn:dw M r a v=(nilV,n,none)) :
 Calls Tryz.prog 90 #[P_ p,J r,U a,.agg (au v raw)] w (ActPost w p F (zG M n)):=by
 obtain⟨pa,c,rfl⟩:=hS.form;have HW:Hid (IsW w p M F/\(Lit.int .i64 r).wf=true/\(Lit.int .u8 a).wf=true):=⟨hW,hr,ha⟩;have hmf:∀ (fn:Fn) (first cap:Array Value) (w:World),(Instr.makeFunc fn first cap).run Tryz.prog w=.ok (.func fn first cap) w:=fun _ _ _ _=>rfl;have HM:Hid (∀ w',Bl w w'->Calls Tryz.prog 161 #[.agg (au v (.slice pa v.l.length c))] w' fun e w''=>e=.returned (.bool (ay v))/\Bl w' w''):=fun w' hb=>dF (hS.on hb);have HK:Hid (∀ w',Bl w w'->Calls Tryz.prog 185 #[P_ p,.agg (au v (.slice pa v.l.length c))] w' fun e w''=>e=.returned (.bool (knownB M v))/\Bl w' w''):=fun w' hb=>kI (hW.below hb) v _ (hS.on hb) (fX hwf);have HN:Hid (zO M r a v):=hc
 have HE:Hid ((if cS a=false then (nilV,2,none)else if ay v=false then (nilV,2,none)else match M.at r with
  | none=>(nilV,5,none)
  | some t=>if knownB M v=false then (nilV,5,none)else bG M r t a v)=(nilV,n,none)):=hn
 clear hW hr ha hS hwf hc hn;obtain⟨vk,vn,vstr,vl,vr⟩:=v;simp only [au]at HM HK ⊢
 obtain⟨w4,hst,HX⟩:∃ w4,(zs (P_ (w.heap.size+1+1)) (.agg dx)).run Tryz.prog (((w.alloc (.cells (V_ vk vn vstr (.slice pa vl.length c) vr) 27)).alloc (.cells O 27)).alloc (.cells #[.nilFunc,.nilFunc,.nilFunc,.nilFunc] 240))=.ok .skip w4 /\
  Hid (DoB w (V_ vk vn vstr (.slice pa vl.length c) vr) w4):=by
  have g3:=ai ((w.alloc (.cells (V_ vk vn vstr (.slice pa vl.length c) vr) 27)).alloc (.cells O 27)) (.cells #[.nilFunc,.nilFunc,.nilFunc,.nilFunc] 240);rw [World.size_alloc,World.size_alloc]at g3;refine⟨_,qp (c':=dx) g3 rfl rfl (by simp only [dx];simp;exact⟨rfl,rfl,rfl,rfl⟩),Below.setRow ((((br.alloc aH _).alloc (by simp) _).alloc (by simp;omega) _)) (by omega) _,?_,?_⟩
  ·rw [aj _ _ _ _ (by omega)];exact aG _ _ (aL _ _ _)
  ·rw [aj _ _ _ _ (by omega)];exact aG _ _ (aK _ _ _)
 simp only [dx]at hst
 go_enter Tryz.func90,Tryz.ntmps90
 go_wp2_with fail
 by_cases ho:cS a=false
 ·obtain rfl:2=n:=by have h:=HE.out;rw [if_pos ho]at h;exact(Prod.mk.inj (Prod.mk.inj h).2).1
  refine(sF _ a HW.out.2.2 ho).mono ?_;rintro e w5 ⟨rfl,hb⟩;have HL:Hid (DoB w (V_ vk vn vstr (.slice pa vl.length c) vr) w5):=HX.out.on hb;clear hb HX hst hmf ho HE HN HM HK
  go_wp2_with fail
  refine(bT (HW.out.1.below HL.out.1)).mono ?_;rintro e _ ⟨rfl,rfl⟩;have hst:=HL.out.st
  go_wp2_with fail
  exact bodyPost_ret (cN _ _ _ _ _ HL.out.2.2 rfl rfl rfl) rfl (eJ HW.out.1 HL.out.1)
 have ho':cS a=true:=by simpa using ho
 have HO:Hid (cS a=true):=ho';refine(rN _ HO.out).mono ?_;rintro e w5 ⟨n5,rfl,hb,hn5⟩;have HL:Hid (DoB w (V_ vk vn vstr (.slice pa vl.length c) vr) w5):=HX.out.on hb;have H5:Hid (a=16\/a=32->4≤n5):=hn5;have HE2:=HE.out;rw [if_neg ho]at HE2
 replace HE:=(show Hid _ from HE2)
 obtain⟨⟨a0,a1,a2,a3,a4⟩,-⟩:=ax HL.out.2.1;clear hb HX hst hmf ho ho' hn5 HE2
 go_wp2_with fail
 refine(bT (HW.out.1.below HL.out.1)).mono ?_;rintro e _ ⟨rfl,rfl⟩
 go_wp2_with fail
 refine(HM.out w5 HL.out.1).mono ?_;rintro e w6 ⟨rfl,hb⟩
 replace HL:=(show Hid (DoB w (V_ vk vn vstr (.slice pa vl.length c) vr) w6)from HL.out.on hb)
 clear hb a0 a1 a2 a3 a4 HM
 by_cases hm:ay ⟨vk,vn,vstr,vl,vr⟩=false
 ·obtain rfl:2=n:=by have h:=HE.out;rw [if_pos hm]at h;exact(Prod.mk.inj (Prod.mk.inj h).2).1
  rw [hm];have hst:=HL.out.st;clear hm HE HN HK
  go_wp2_with fail
  exact bodyPost_ret (cN _ _ _ _ _ HL.out.2.2 rfl rfl rfl) rfl (eJ HW.out.1 HL.out.1)
 have hm':ay ⟨vk,vn,vstr,vl,vr⟩=true:=by simpa using hm
 have HM:Hid (ay ⟨vk,vn,vstr,vl,vr⟩=true):=hm';rw [HM.out];have HE2:=HE.out;rw [if_neg hm]at HE2
 replace HE:=(show Hid _ from HE2)
 clear hm hm' HE2;have HIs:Hid _:=gN (HW.out.1.below HL.out.1) HW.out.2.1
 cases ht:M.at r with
 | none =>
   obtain rfl:5=n:=by have h:=HE.out;rw [ht]at h;exact(Prod.mk.inj (Prod.mk.inj h).2).1
   rw [ht]at HIs;clear ht HE HN HK
   go_wp2_with fail
   refine Calls.mono HIs.out ?_;rintro e _ ⟨rfl,rfl⟩;have hst:=HL.out.st
   go_wp2_with fail
   exact bodyPost_ret (cN _ _ _ _ _ HL.out.2.2 rfl rfl rfl) rfl (eJ HW.out.1 HL.out.1)
 | some t =>
   have HT:Hid (M.at r=some t):=ht;have HE2:=HE.out;rw [ht]at HE2 HIs
   replace HE:=(show Hid ((if knownB M ⟨vk,vn,vstr,vl,vr⟩=false then (nilV,5,none)else bG M r t a ⟨vk,vn,vstr,vl,vr⟩)=(nilV,n,none))from HE2)
   clear ht HE2
   go_wp2_with fail
   refine Calls.mono HIs.out ?_;rintro e _ ⟨rfl,rfl⟩;obtain⟨⟨a0,a1,a2,a3,a4⟩,-⟩:=ax HL.out.2.1;clear HIs
   go_wp2_with fail
   refine(HK.out w6 HL.out.1).mono ?_;rintro e w7 ⟨rfl,hb⟩
   replace HL:=(show Hid (DoB w (V_ vk vn vstr (.slice pa vl.length c) vr) w7)from HL.out.on hb)
   clear hb a0 a1 a2 a3 a4 HK
   by_cases hk:knownB M ⟨vk,vn,vstr,vl,vr⟩=false
   ·obtain rfl:5=n:=by have h:=HE.out;rw [if_pos hk]at h;exact(Prod.mk.inj (Prod.mk.inj h).2).1
    rw [hk];have hst:=HL.out.st;clear hk HE HN
    go_wp2_with fail
    exact bodyPost_ret (cN _ _ _ _ _ HL.out.2.2 rfl rfl rfl) rfl (eJ HW.out.1 HL.out.1)
   have hk':knownB M ⟨vk,vn,vstr,vl,vr⟩=true:=by simpa using hk
   have HK:Hid (knownB M ⟨vk,vn,vstr,vl,vr⟩=true):=hk';rw [HK.out];have HE2:=HE.out;rw [if_neg hk]at HE2
   replace HE:=(show Hid (bG M r t a ⟨vk,vn,vstr,vl,vr⟩=(nilV,n,none))from HE2)
   have HN2:Hid (Fair t/\(t.kind=8\/bD t.kind=true/\(a=16\/a=32))):=by
    rcases HN.out with h | h | h | h | ⟨u,h,h2⟩
    ·rw [HO.out]at h;cases h
    ·rw [HM.out]at h;cases h
    ·rw [HT.out]at h;cases h
    ·exact absurd h hk
    ·rw [HT.out]at h;cases h;exact h2
   clear hk hk' HE2 HN
   rcases HN2.out.2 with h8 | ⟨hpl,h16⟩
   ·obtain rfl:80=n:=by have h:=HE.out;unfold bG at h;rw [if_pos (by rw [h8];rfl)]at h;exact(Prod.mk.inj (Prod.mk.inj h).2).1
    have HF:Hid _:=tP (HW.out.1.below HL.out.1) HW.out.2.1 HT.out HN2.out.1 h8;clear h8 HE HN2
    go_wp2_with fail
    refine Calls.mono HF.out ?_;rintro e w8 ⟨rfl,hb⟩
    replace HL:=(show Hid (DoB w (V_ vk vn vstr (.slice pa vl.length c) vr) w8)from HL.out.on hb)
    have hst:=HL.out.st;clear hb HF
    go_wp2_with fail
    exact bodyPost_ret (cN _ _ _ _ _ HL.out.2.2 rfl rfl rfl) rfl (eJ HW.out.1 HL.out.1)
   ·obtain rfl:6=n:=by have h:=HE.out;unfold bG at h;rw [if_neg (by rw [hpl];decide),if_pos (by unfold cW;rcases h16 with rfl | rfl <;> rfl)]at h;exact(Prod.mk.inj (Prod.mk.inj h).2).1
    have hge:n5 ≥ 4:=H5.out h16
    obtain⟨tp,tf,hfr⟩:∃ tp tf,jT t.kind tp tf:=by
     have hk':t.kind=1\/t.kind=2\/t.kind=3\/t.kind=4\/t.kind=10\/t.kind=11:=by simpa [bD,or_assoc]using hpl
     rcases hk' with h | h | h | h | h | h <;> rw [h]
     ·exact⟨_,_,yS⟩
     ·exact⟨_,_,yO⟩
     ·exact⟨_,_,yP⟩
     ·exact⟨_,_,yR⟩
     ·exact⟨_,_,pI⟩
     ·exact⟨_,_,qZ⟩
    have HF:Hid _:=ed hfr (HW.out.1.below HL.out.1) HW.out.2.1 HT.out HN2.out.1 rfl;clear hpl h16 hfr HE HN2
    go_wp2_with fail
    refine Calls.mono HF.out ?_;rintro e w8 ⟨b8,rfl,_,_,-,-,hb,-⟩
    replace HL:=(show Hid (DoB w (V_ vk vn vstr (.slice pa vl.length c) vr) w8)from HL.out.on hb)
    have hst:=HL.out.st;clear hb HF
    go_wp2_with fail
    exact bodyPost_ret (cN _ _ _ _ _ HL.out.2.2 rfl rfl rfl) rfl (eJ HW.out.1 HL.out.1)
end
section
variable {w:World} {p:Nat}
def su (w:World) (n:Int) (e:Ending) (w':World):Prop:=e=.returned (.tuple #[.agg zV,J n])/\Bl w w' 
theorem vZ (w:World) (q:Option Addr) (vk vn vr:Int) (vstr:ByteArray) (pv:Option Addr) (nl cv:Nat):Calls Tryz.prog 330 #[.pointer q,.agg (V_ vk vn vstr (.slice pv nl cv) vr)] w (su w 6):=by
 go_enter Tryz.func330,Tryz.ntmps330
 go_wp2
 go_returns
 exact⟨rfl,by go_grown⟩
theorem vw (w:World) (q:Option Addr) (vk vn vr:Int) (vstr:ByteArray) (pv:Option Addr) (nl cv:Nat):Calls Tryz.prog 328 #[.pointer q,.agg (V_ vk vn vstr (.slice pv nl cv) vr)] w (su w 6):=by
 go_enter Tryz.func328,Tryz.ntmps328
 go_wp2
 go_returns
 exact⟨rfl,by go_grown⟩
theorem tk (w:World) (q:Option Addr) (vk vn vr:Int) (vstr:ByteArray) (pv:Option Addr) (nl cv:Nat):Calls Tryz.prog 324 #[.pointer q,.agg (V_ vk vn vstr (.slice pv nl cv) vr)] w (su w 6):=by
 go_enter Tryz.func324,Tryz.ntmps324
 go_wp2
 go_returns
 exact⟨rfl,by go_grown⟩
theorem ug (w:World) (q:Option Addr) (vk vn vr:Int) (vstr:ByteArray) (pv:Option Addr) (nl cv:Nat):Calls Tryz.prog 322 #[.pointer q,.agg (V_ vk vn vstr (.slice pv nl cv) vr)] w (su w 6):=by
 go_enter Tryz.func322,Tryz.ntmps322
 go_wp2
 go_returns
 exact⟨rfl,by go_grown⟩
theorem xD {a:Int} {f:Nat} (h:(a=1/\f=330)\/(a=2/\f=328)\/(a=4/\f=324)\/(a=8/\f=322)) (w:World) (q:Option Addr) (vk vn vr:Int) (vstr:ByteArray) (pv:Option Addr) (nl cv:Nat) :
 Calls Tryz.prog f #[.pointer q,.agg (V_ vk vn vstr (.slice pv nl cv) vr)] w (su w 6):=by
 rcases h with ⟨-,rfl⟩ | ⟨-,rfl⟩ | ⟨-,rfl⟩ | ⟨-,rfl⟩
 ·exact vZ w q vk vn vr vstr pv nl cv
 ·exact vw w q vk vn vr vstr pv nl cv
 ·exact tk w q vk vn vr vstr pv nl cv
 ·exact ug w q vk vn vr vstr pv nl cv
theorem iK {a:Val} {ap:Option Addr} {am ac:Nat} (k n r:Int) (s:ByteArray) (q:Option Addr) (m c:Nat) (h:a.kind≠0):Af (V_ a.kind a.n a.s (.slice ap am ac) a.r) (V_ k n s (.slice q m c) r) ⟨0,0,⟨#[]⟩,none,0,0,0,2⟩:=by
 intro w;obtain⟨ak,an,astr,al,ar⟩:=a;have hb:(ak != 0)=true:=by simpa using h
 clear h;simp only
 go_enter Tryz.func325,Tryz.ntmps325
 go_wp2
 go_returns
 exact⟨rfl,by go_grown⟩
theorem sI (w:World) (b:Nat) {v:Val} {pv:Option Addr} {nl cv:Nat} (h:v.kind≠1):Calls Tryz.prog 332 #[P_ b,.agg (au v (.slice pv nl cv))] w (su w 2):=by
 obtain⟨vk,vn,vstr,vl,vr⟩:=v;have hb:(vk != 1)=true:=by simpa using h
 clear h;simp only [au]
 go_enter Tryz.func332,Tryz.ntmps332
 go_wp2
 go_returns
 exact⟨rfl,by go_grown⟩
theorem rb (w:World) (b:Nat) {v:Val} {pv:Option Addr} {nl cv:Nat} (h:v.kind≠1):Calls Tryz.prog 335 #[P_ b,.agg (au v (.slice pv nl cv))] w (su w 2):=by
 obtain⟨vk,vn,vstr,vl,vr⟩:=v;have hb:(vk != 1)=true:=by simpa using h
 clear h;simp only [au]
 go_enter Tryz.func335,Tryz.ntmps335
 go_wp2
 go_returns
 exact⟨rfl,by go_grown⟩
theorem vA {w0:World} {b:Nat} {r:Int} {t:Th} (hfd:FoundB w0 p r t 247 b w) {a:Val} {ap:Option Addr} {am ac:Nat} (h:a.kind≠0) :
 Calls Tryz.prog 321 #[P_ b,.agg (au a (.slice ap am ac))] w (su w 2):=by
 obtain⟨vl',vals',hb,-,-,hdeep,-⟩:=hfd;obtain⟨pv,cv,hx⟩:=hdeep.v.form;exact Ak hb ⟨rfl,rfl,rfl,rfl,hx⟩ (iK _ _ _ _ _ _ _ h)
theorem vC {w0:World} {b:Nat} {r:Int} {t:Th} (hfd:FoundB w0 p r t 165 b w) {a:Val} {ap:Option Addr} {am ac:Nat} (h:a.kind≠0) :
 Calls Tryz.prog 326 #[P_ b,.agg (au a (.slice ap am ac))] w (su w 2):=by
 obtain⟨vl',vals',hb,-,-,hdeep,-⟩:=hfd;obtain⟨ps,cs,hx⟩:=hdeep.vs.form;exact Al hb hx (iK _ _ _ _ _ _ _ h)
theorem sL {w0:World} {b:Nat} {r:Int} {t:Th} (hfd:FoundB w0 p r t 249 b w) {a:Val} {ap:Option Addr} {am ac:Nat} (h:a.kind≠0) :
 Calls Tryz.prog 334 #[P_ b,.agg (au a (.slice ap am ac))] w (su w 2):=by
 obtain⟨vl',vals',hb,-,-,hdeep,-⟩:=hfd;exact Aj hb rfl (iK _ _ _ _ _ _ _ h)
theorem sQ {w0:World} {b:Nat} {r:Int} {t:Th} (hfd:FoundB w0 p r t 169 b w) {a:Val} {ap:Option Addr} {am ac:Nat} (h:a.kind≠0) :
 Calls Tryz.prog 333 #[P_ b,.agg (au a (.slice ap am ac))] w (su w 2):=by
 obtain⟨vl',vals',hb,-,-,hdeep,-⟩:=hfd;obtain⟨pv,cv,hx⟩:=hdeep.v.form;exact(Ai hb ⟨rfl,rfl,rfl,rfl,hx⟩ rfl (iK _ _ _ _ _ _ _ h)).mono fun _ _ ⟨h,hb⟩=>⟨h.elim (·.2) (fun h=>absurd h.1 (by decide)),hb⟩
end
section
theorem PlT.fair {M:WM} {t:Th} (h:PlT M t):(ay t.v=true/\(∀ v ∈ t.vs,ay v=true)/\t.vs.length≤511)/\t.v.wf/\∀ v ∈ t.vs,v.wf:=by
 have h0:ay (⟨0,0,⟨#[]⟩,[],0⟩:Val)=true:=(aZ 0 0 (.inl ⟨rfl,rfl⟩)).2;have hn:∀ {P:Val->Prop},∀ v ∈ ([]:List Val),P v:=fun v hv=>by cases hv
 cases h with
 | cell x v raw h1 h2 h3 h4=>exact⟨⟨h2,hn,Nat.zero_le _⟩,h3,hn⟩
 | list k x vs vals _ h1 h2 h3=>exact⟨⟨h0,fun v hv=>(h3 v hv).1,iG h2⟩,cG,fun v hv=>(h3 v hv).2.1⟩
 | tally x n h1 h2=>exact⟨⟨h0,hn,Nat.zero_le _⟩,cG,hn⟩
 | prom x v raw fu h1 h2 h3 h4 h5=>exact⟨⟨h2,hn,Nat.zero_le _⟩,h3,hn⟩
 | keep x tg h1 h2 h3=>exact⟨⟨h0,hn,Nat.zero_le _⟩,cG,hn⟩
 | mint x=>exact⟨⟨h0,hn,Nat.zero_le _⟩,cG,hn⟩
theorem PlM.gmay {M:WM} (h:PlM M):vU M:=fun r t ht=>⟨(h r t ht).fair.1.1,(h r t ht).fair.1.2.1,by have:=(h r t ht).fair.1.2.2;omega⟩
theorem PlM.wfs {M:WM} (hM:M.ok) (h:PlM M):∀ x ∈ M.things,x.2.v.wf/\(aJ x.2.vs).wf:=fun x hx=>by
 have:=(h x.1 x.2 (hM.at_of_mem hx)).fair;exact⟨this.2.1,mx (by omega) this.2.2⟩
theorem PlM.kp {M:WM} (hM:M.ok) (h:PlM M):∀ r t,M.at r=some t->t.kind=11->t.tgt≤M.last:=fun r t ht hk=>by
 have:=h r t ht
 cases this with
 | cell x v raw h1 h2 h3 h4=>cases hk
 | list k x vs vals h0 h1 h2 h3=>have e:k=11:=hk;omega
 | tally x n h1 h2=>cases hk
 | prom x v raw fu h1 h2 h3 h4 h5=>cases hk
 | keep x tg h1 h2 h3 =>
   obtain⟨p,hp,-⟩:=h3;exact(hM.at_range hp).2
 | mint x=>cases hk
theorem wF {w:World} {q:Nat} {N:WM} {G:Nat->Prop} (h:IsR w q N G):∀ x ∈ N.things,(aF x.2).all (·.oneCell')=true:=fun x hx=>by
 obtain⟨sP,sC,sT,sM,h⟩:=h;have d:=h.deep x.1 x.2 hx;obtain⟨a,b,e⟩:=d.v.form;obtain⟨a',b',e'⟩:=d.vs.form;simp only [aF,d.code,d.names,e,e'];simp [go_sem]
structure Bp (w:World) (p q:Nat) (M N:WM) (F G:Nat->Prop):Prop where
 both:Both w p q M N F G
 pl:PlM M
 rn:RNil N
section
variable {w w':World} {p q:Nat} {M N:WM} {F G:Nat->Prop}
theorem Bp.keeps {S:Nat->Prop} (h:Bp w p q M N F G) (hk:Keeps S w w') (hF:∀ b,F b->¬ S b) (hG:∀ b,G b->¬ S b):Bp w' p q M N F G:=⟨h.both.keeps hk hF hG,h.pl,h.rn⟩
theorem Bp.below (h:Bp w p q M N F G) (hb:Bl w w'):Bp w' p q M N F G:=⟨h.both.below hb,h.pl,h.rn⟩
theorem Bp.pln (h:Bp w p q M N F G):PlM N:=h.pl.like h.both.al h.rn
theorem Bp.of {F' G':Nat->Prop} {M' N':WM} (h:Bp w p q M N F G) (hW:IsW w' p M' F') (hR:IsR w' q N' G') (hap:∀ b,F' b->¬ G' b) (hal:Alike M' N') (hp:PlM M') (hn:RNil N') (hc:M'.cuts=M.cuts) (hc':N'.cuts=N.cuts) (hpar:N'.parents=N.parents):Bp w' p q M' N' F' G' where
 both:={
  W:=hW
  R:=hR
  ap:=hap
  al:=hal
  one:=wF hR
  may:=hp.gmay
  wfs:=hp.wfs hW.ok
  cutM:=by rw [hc];exact h.both.cutM
  cutN:=by rw [hc'];exact h.both.cutN
  cutL:=by rw [hc',hpar];exact h.both.cutL
  kp:=hp.kp hW.ok }
 pl:=hp
 rn:=hn
theorem Bp.set {F' G':Nat->Prop} {r:Int} {t t' u:Th} (h:Bp w p q M N F G) (hW:IsW w' p (M.set r t) F') (hR:IsR w' q (N.set r t') G') (hap:∀ b,F' b->¬ G' b) (hl:ThLike t t') (hu:M.at r=some u) (hk:t.kind=u.kind) (hp:PlT M t) (hn:fW t'):Bp w' p q (M.set r t) (N.set r t') F' G' :=
 h.of hW hR hap (h.both.al.set r hl) (h.pl.set hu hk hp) (h.rn.set hn) rfl rfl rfl
end
end
section
variable {w:World} {p:Nat} {M:WM} {F:Nat->Prop}
def vt (M:WM) (y:Option (Int × Th)) (N:WM):Prop :=
 match y with
 | none=>N=M
 | some x=>∃ t',N=M.set x.1 t'/\ThLike x.2 t'/\PlT M t'/\∃ u,M.at x.1=some u/\t'.kind=u.kind
def DoX (M:WM) (d:Val × Int × Option (Int × Th)) (v:Val) (c:Int) (N:WM):Prop:=v=d.1/\c=d.2.1/\vt M d.2.2 N
theorem DoX.no {M:WM} {d:Val × Int × Option (Int × Th)} {x:Val} {n:Int} (hd:d=(x,n,none)) {v:Val} {c:Int} {N:WM} (h:v=x/\c=n/\N=M):DoX M d v c N:=by
 subst hd;exact h
theorem ActPost.imp {X Y:Val->Int->WM->Prop} (h:∀ v c N,X v c N->Y v c N) {e:Ending} {w':World} (ha:ActPost w p F X e w'):ActPost w p F Y e w':=by
 obtain⟨v,pv,cv,n,N,F',he,hX,hr⟩:=ha;exact⟨v,pv,cv,n,N,F',he,h _ _ _ hX,hr⟩
theorem qd {n:Int} {s:ByteArray} {r:Int} {l:Nat} (h:dC n s r l=true):n=0/\s=⟨#[]⟩/\r=0/\l=0:=by
 simp only [dC,Bool.and_eq_true,beq_iff_eq]at h;exact⟨h.1,(Go.MapKept.bytes_beq _ _).1 h.2.1,h.2.2.1,h.2.2.2⟩
theorem vL {v:Val} (hm:ay v=true) (hk:v.kind=0):v=nilV:=by
 unfold ay at hm;rw [sq hk]at hm;split at hm
 ·rename_i h
  obtain⟨h1,h2,h3,h4⟩:=qd h;obtain⟨k,n,s,l,r⟩:=v;simp only at hk h1 h2 h3 h4;subst hk h1 h2 h3;rw [List.length_eq_zero_iff.1 h4]
 ·cases hm
theorem zi {v:Val} (hm:ay v=true) (hk:v.kind=1):v=cj v.n:=by
 unfold ay at hm;rw [sw hk]at hm;split at hm
 ·rename_i h
  obtain⟨-,h2,h3,h4⟩:=qd h;obtain⟨k,n,s,l,r⟩:=v;simp only at hk h2 h3 h4;subst hk h2 h3;rw [List.length_eq_zero_iff.1 h4]
 ·cases hm
theorem cL {k a:Int} {tf f:Nat} (hrow:cE k a tf f) (hb:(a=1/\f=330)\/(a=2/\f=328)\/(a=4/\f=324)\/(a=8/\f=322)) (hW:IsW w p M F) {r:Int} (hr:(Lit.int .i64 r).wf=true) {t:Th} (ht:M.at r=some t) (hf:Fair t) (hk:t.kind=k)
 {FB:Nat->Prop} {v:Val} {raw:Value} (hv:SlAt w FB raw v.l) (hm:ay v=true) (hkn:∀ r ∈ aM v,(Lit.int .i64 r).wf=true/\(M.at r).isSome=true) :
 Calls Tryz.prog 90 #[P_ p,J r,U a,.agg (au v raw)] w (ActPost w p F (zG M 6)):=by
 refine bU hrow hW hr ht hf hk hv hm hkn ?_;intro w0 w' b hb0 hfd;obtain⟨_,_,-,-,hbel,-⟩:=hfd;have hW':IsW w' p M F:=hW.below (hb0.trans (hbel.mono hb0.size));obtain⟨pv,cv,rfl⟩:=hv.form;exact(xD hb w' _ _ _ _ _ _ _ _).mono fun e w'' ⟨he,hb''⟩=>⟨nilV,none,0,6,he,Keeps.of_below hb'',M,F,⟨rfl,rfl,rfl⟩,hW'.below hb'',fun _ h=>.inl h,SlT.nil _ _ _ _⟩
def yv (M:WM) (v:Val) (c:Int) (N:WM):Prop:=v=nilV/\c=2/\N=M
theorem dK {w0 w':World} {b f:Nat} (hW:IsW w p M F) (hb0:Bl w w0) (hbel:Bl w0 w') {x:Value} (h:Calls Tryz.prog f #[P_ b,x] w' fun e w''=>e=.returned (.tuple #[.agg zV,J 2])/\Bl w' w'') :
 Calls Tryz.prog f #[P_ b,x] w' (fR w' F b (ij p F (yv M) w0)):=by
 have hW':IsW w' p M F:=hW.below (hb0.trans (hbel.mono hb0.size));exact h.mono fun e w'' ⟨he,hb''⟩=>⟨nilV,none,0,2,he,Keeps.of_below hb'',M,F,⟨rfl,rfl,rfl⟩,hW'.below hb'',fun _ h=>.inl h,SlT.nil _ _ _ _⟩
theorem eM (hW:IsW w p M F) {r:Int} (hr:(Lit.int .i64 r).wf=true) {t:Th} (ht:M.at r=some t) (hf:Fair t) {a:Int} (hka:(a=1/\(t.kind=1\/t.kind=2\/t.kind=3\/t.kind=10))\/(a=4/\t.kind=4)\/(a=8/\t.kind=3))
 {FB:Nat->Prop} {v:Val} {raw:Value} (hv:SlAt w FB raw v.l) (hm:ay v=true) (hkn:∀ r ∈ aM v,(Lit.int .i64 r).wf=true/\(M.at r).isSome=true) (h0:a=1->v.kind≠0) (h1:a≠1->v.kind≠1) :
 Calls Tryz.prog 90 #[P_ p,J r,U a,.agg (au v raw)] w (ActPost w p F (yv M)):=by
 obtain⟨pv,cv,rfl⟩:=hv.form
 have hbel:∀ {w0 w':World} {ty:TypeId} {b:Nat},FoundB w0 p r t ty b w'->Bl w0 w':=fun h=>by
  obtain⟨_,_,-,-,h,-⟩:=h;exact h
 rcases hka with ⟨rfl,hk | hk | hk | hk⟩ | ⟨rfl,hk⟩ | ⟨rfl,hk⟩
 ·exact bU um hW hr ht hf hk hv hm hkn fun w0 w' b hb0 hfd=>dK hW hb0 (hbel hfd) (vA hfd (h0 rfl))
 ·exact bU sD hW hr ht hf hk hv hm hkn fun w0 w' b hb0 hfd=>dK hW hb0 (hbel hfd) (vC hfd (h0 rfl))
 ·exact bU sU hW hr ht hf hk hv hm hkn fun w0 w' b hb0 hfd=>dK hW hb0 (hbel hfd) (sL hfd (h0 rfl))
 ·exact bU lQ hW hr ht hf hk hv hm hkn fun w0 w' b hb0 hfd=>dK hW hb0 (hbel hfd) (sQ hfd (h0 rfl))
 ·exact bU AG hW hr ht hf hk hv hm hkn fun w0 w' b hb0 hfd=>dK hW hb0 (hbel hfd) (sI w' b (h1 (by decide)))
 ·exact bU tj hW hr ht hf hk hv hm hkn fun w0 w' b hb0 hfd=>dK hW hb0 (hbel hfd) (rb w' b (h1 (by decide)))
theorem tH (hW:IsW w p M F) {r:Int} (hr:(Lit.int .i64 r).wf=true) {h:Int} {raw0:Value} (ht:M.at r=some (dX h nilV raw0 false)) :
 Calls Tryz.prog 90 #[P_ p,J r,U 1,.agg (au nilV (S_))] w (ActPost w p F (fun v c N=>v=nilV/\c=82/\N=M)):=by
 have hv:=aZ 0 0 (.inl ⟨rfl,rfl⟩);refine bU lQ hW hr ht ⟨hv.2,fun x hx=>(by cases hx),Nat.zero_le _⟩ rfl (v:=nilV) (SlAt.nil w F none 0) hv.2 (fun r hr=>by rw [hv.1]at hr;cases hr) ?_;intro w0 w' b hb0 hfd;obtain⟨vl',vals',hb,hbw,hbel,hdeep,h5,h6,-⟩:=hfd;have e5:vl'=.slice none 0 0:=h5 rfl;have e6:vals'=.slice none 0 0:=h6 rfl;subst e5 e6;have hW':IsW w' p M F:=hW.below (hb0.trans (hbel.mono hb0.size));refine(qC (x:=nilV) (fu:=false) hb).mono ?_;rintro e w'' ⟨⟨he,-⟩ | ⟨-,he⟩,hb''⟩
 ·cases he
 ·exact⟨nilV,none,0,82,he,Keeps.of_below hb'',M,F,⟨rfl,rfl,rfl⟩,hW'.below hb'',fun _ h=>.inl h,SlT.nil _ _ _ _⟩
theorem vE (hW:IsW w p M F) (hP:PlM M) {r:Int} (hr:(Lit.int .i64 r).wf=true) {t:Th} (ht:M.at r=some t) (hpl:bD t.kind=true) {a:Int} (ha4:a=1\/a=2\/a=4\/a=8)
 {FB:Nat->Prop} {v:Val} {raw:Value} (hv:SlAt w FB raw v.l) (hnil:v.l = []->raw=.slice none 0 0) (hm:ay v=true) (hwf:v.wf) (hkn:knownB M v=true) :
 Calls Tryz.prog 90 #[P_ p,J r,U a,.agg (au v raw)] w (ActPost w p F (DoX M (bG M r t a v))):=by
 have hpt:=hP r t ht;have hf:Fair t:=⟨hpt.fair.1.1,hpt.fair.1.2.1,by have:=hpt.fair.1.2.2;omega⟩;have hkn':=gA hwf hkn;have hpl':¬ bD t.kind=false:=by rw [hpl];decide
 have un:cW t.kind a=false->bG M r t a v=(nilV,6,none):=fun h=>by unfold bG;rw [if_neg hpl',if_pos h]
 have get:a=1->cW t.kind a=true->bG M r t a v=((dI t v).1,(dI t v).2,none):=fun h1 h=>by unfold bG;rw [if_neg hpl',if_neg (by rw [h];decide),if_pos h1]
 have get2:a=1->cW t.kind a=true->v.kind≠0->bG M r t a v=(nilV,2,none):=fun h1 h h2=>by rw [get h1 h];unfold dI;rw [if_pos h2]
 have argOf:∀ {d:Val × Int × Option (Int × Th)},d=(nilV,2,none)->∀ {e w'},ActPost w p F (yv M) e w'->ActPost w p F (DoX M d) e w':=fun hd e w' h=>h.imp fun v' c N hx=>DoX.no hd hx;have unOf:cW t.kind a=false->∀ {e w'},ActPost w p F (fun v c N=>v=nilV/\c=6/\N=M) e w'->ActPost w p F (DoX M (bG M r t a v)) e w':=fun hd e w' h=>h.imp fun v' c N hx=>DoX.no (un hd) hx
 cases hpt with
 | mint x=>exact absurd (show bD 8=true from hpl) (by decide)
 | cell x v0 raw0 h1 h2 h3 h4 =>
   rcases ha4 with rfl | rfl | rfl | rfl
   ·by_cases h0:v.kind=0
    ·obtain rfl:=vL hm h0;obtain rfl:=hnil rfl;exact(qV hW hr ht h2).mono fun e w' h=>h.imp fun v' c N hx=>DoX.no (get rfl rfl) hx
    ·exact(eM hW hr ht hf (.inl ⟨rfl,.inl rfl⟩) hv hm hkn' (fun _=>h0) (fun h=>absurd rfl h)).mono fun e w' h=>argOf (get2 rfl rfl h0) h
   ·exact(wn hW hr ht h2 h1 hv hm hkn').mono fun e w' h=>h.imp fun v' c N ⟨e1,e2,raw',e3⟩=>⟨e1,e2,bn x v raw',e3,⟨_,_,rfl⟩,.cell x v raw' h1 hm hwf hkn,_,ht,rfl⟩
   ·exact(cL ym (.inr (.inr (.inl ⟨rfl,rfl⟩))) hW hr ht hf rfl hv hm hkn').mono fun e w' h=>unOf rfl h
   ·exact(cL xo (.inr (.inr (.inr ⟨rfl,rfl⟩))) hW hr ht hf rfl hv hm hkn').mono fun e w' h=>unOf rfl h
 | list k x vs vals h0 h1 h2 h3 =>
   have hheld:=rW (k:=k) (h:=x) (vals:=vals) h3;have hmays:∀ y ∈ vs,ay y=true:=fun y hy=>(h3 y hy).1;have hlen:vs.length≤1024:=by have:=iG h2;omega
   have hcg:cW k 8=true:=by rcases h0 with rfl | rfl <;> decide
   have gv:a=8->∀ {e w'},ActPost w p F (qz M r k x vs v) e w'->ActPost w p F (DoX M (bG M r (qT k x vs vals) a v)) e w':=fun ha {e w'} h=>h.imp fun v' c N hx=>by
    have hd:bG M r (qT k x vs vals) a v=(nilV,fk r (qT k x vs vals) v):=by
     unfold bG;rw [if_neg hpl',if_neg (by subst ha;show ¬ cW k 8=false;rw [hcg];decide),if_neg (by omega),if_neg (by omega),if_neg (by omega),if_neg (by show ¬ k=3;omega),if_neg (by show ¬ k=11;omega)]
    rw [hd];obtain⟨e1,⟨h5,h6,vals',h7⟩ | ⟨h5,h6,h7⟩⟩:=hx
    ·unfold fk;rw [if_pos h5];refine⟨e1,h6,qT k x (vs ++ [v]) vals',h7,⟨_,_,rfl⟩,.list k x (vs ++ [v]) vals' h0 h1 h5 fun y hy=>?_,_,ht,rfl⟩
     rcases List.mem_append.1 hy with hy | hy
     ·exact h3 y hy
     ·rw [List.mem_singleton.1 hy];exact⟨hm,hwf,hkn⟩
    ·unfold fk;rw [if_neg (by show ¬ ay (aJ (vs ++ [v]))=true;rw [h5];decide)];exact⟨e1,h6,h7⟩
   rcases h0 with rfl | rfl
   ·rcases ha4 with rfl | rfl | rfl | rfl
    ·by_cases hv0:v.kind=0
     ·obtain rfl:=vL hm hv0;obtain rfl:=hnil rfl;exact(wN hW hr ht hmays hlen).mono fun e w' h=>h.imp fun v' c N hx=>DoX.no (get rfl rfl) hx
     ·exact(eM hW hr ht hf (.inl ⟨rfl,.inr (.inl rfl)⟩) hv hm hkn' (fun _=>hv0) (fun h=>absurd rfl h)).mono fun e w' h=>argOf (get2 rfl rfl hv0) h
    ·exact(cL yF (.inr (.inl ⟨rfl,rfl⟩)) hW hr ht hf rfl hv hm hkn').mono fun e w' h=>unOf rfl h
    ·exact(cL yw (.inr (.inr (.inl ⟨rfl,rfl⟩))) hW hr ht hf rfl hv hm hkn').mono fun e w' h=>unOf rfl h
    ·exact(vO hW hr ht h1 hheld hmays hlen hv hm hkn').mono fun e w' h=>gv rfl h
   ·rcases ha4 with rfl | rfl | rfl | rfl
    ·exact(cL yc (.inl ⟨rfl,rfl⟩) hW hr ht hf rfl hv hm hkn').mono fun e w' h=>unOf rfl h
    ·exact(pX hW hr ht hmays hlen hv hm hkn').mono fun e w' h=>unOf rfl h
    ·have hd:bG M r (qT 4 x vs vals) 4 v=bK r (qT 4 x vs vals) v:=rfl
     by_cases hv1:v.kind=1
     ·have ev:=zi hm hv1;have er:=hnil (by rw [ev]);rw [hd];rw [ev,er];generalize v.n=m;refine(lY hW hr ht h1 hheld h2 hmays m).mono fun e w' h=>h.imp fun v' c N hx=>?_
      rcases hx with ⟨g1,g2,g3,g4⟩ | ⟨g1,g2,g3,g4⟩ | ⟨g1,g2,g3,g4,vals',g5⟩
      ·exact DoX.no (by unfold bK;rw [if_pos (.inr g1)]) ⟨g2,g3,g4⟩
      ·exact DoX.no (by unfold bK;rw [if_neg (by show ¬ ((1:Int)≠1\/m<0);omega),if_pos g1]) ⟨g2,g3,g4⟩
      ·have ht':bK r (qT 4 x vs vals) (cj m)=(aJ (vs.take m.toNat),0,some (r,{ qT 4 x vs vals with vs:=vs.drop m.toNat })):=by
        unfold bK;rw [if_neg (by show ¬ ((1:Int)≠1\/m<0);omega),if_neg (by show ¬ (vs.length:Int)<m;omega)]
       rw [ht'];exact⟨g3,g4,qT 4 x (vs.drop m.toNat) vals',g5,⟨_,_,rfl⟩,.list 4 x _ vals' (.inr rfl) h1 (da h2 _) fun y hy=>h3 y (List.mem_of_mem_drop hy),_,ht,rfl⟩
     ·exact(eM hW hr ht hf (.inr (.inl ⟨rfl,rfl⟩)) hv hm hkn' (fun h=>absurd h (by decide)) (fun _=>hv1)).mono fun e w' h=>argOf (by rw [hd];unfold bK;rw [if_pos (.inl hv1)]) h
    ·exact(qv hW hr ht h1 hheld hmays hlen hv hm hkn').mono fun e w' h=>gv rfl h
 | tally x n h1 h2 =>
   rcases ha4 with rfl | rfl | rfl | rfl
   ·by_cases h0:v.kind=0
    ·obtain rfl:=vL hm h0;obtain rfl:=hnil rfl;exact(uO hW hr ht).mono fun e w' h=>h.imp fun v' c N hx=>DoX.no (get rfl rfl) hx
    ·exact(eM hW hr ht hf (.inl ⟨rfl,.inr (.inr (.inl rfl))⟩) hv hm hkn' (fun _=>h0) (fun h=>absurd rfl h)).mono fun e w' h=>argOf (get2 rfl rfl h0) h
   ·exact(cL xe (.inr (.inl ⟨rfl,rfl⟩)) hW hr ht hf rfl hv hm hkn').mono fun e w' h=>unOf rfl h
   ·exact(cL yx (.inr (.inr (.inl ⟨rfl,rfl⟩))) hW hr ht hf rfl hv hm hkn').mono fun e w' h=>unOf rfl h
   ·have hd:bG M r (lt 3 x 0 0 n 0 0 0 0 false) 8 v=(nilV,cY r (lt 3 x 0 0 n 0 0 0 0 false) v):=rfl
    by_cases hv1:v.kind=1
    ·have ev:=zi hm hv1;have er:=hnil (by rw [ev]);rw [hd];rw [ev,er];generalize v.n=m;refine(wi hW hr ht h1 h2 m).mono fun e w' h=>h.imp fun v' c N hx=>?_;obtain⟨g0,⟨g1,g2,g3⟩ | ⟨g1,g2,g3,g4⟩ | ⟨g1,g2,g3,g4⟩⟩:=hx
     ·exact DoX.no (by unfold cY;rw [if_pos (.inr g1)]) ⟨g0,g2,g3⟩
     ·exact DoX.no (by unfold cY;rw [if_neg (by show ¬ ((1:Int)≠1\/m<0);omega),if_pos g2]) ⟨g0,g3,g4⟩
     ·have ht':cY r (lt 3 x 0 0 n 0 0 0 0 false) (cj m)=(0,some (r,lt 3 x 0 0 (n+m) 0 0 0 0 false)):=by
       unfold cY;rw [if_neg (by show ¬ ((1:Int)≠1\/m<0);omega),if_neg (by show ¬ 9007199254740992 - n<m;omega)]
      rw [ht'];exact⟨g0,g3,_,g4,⟨_,_,rfl⟩,.tally x (n+m) h1 ⟨by omega,g2⟩,_,ht,rfl⟩
    ·exact(eM hW hr ht hf (.inr (.inr ⟨rfl,rfl⟩)) hv hm hkn' (fun h=>absurd h (by decide)) (fun _=>hv1)).mono fun e w' h=>argOf (by rw [hd];unfold cY;rw [if_pos (.inl hv1)]) h
 | prom x v0 raw0 fu h1 h2 h3 h4 h5 =>
   rcases ha4 with rfl | rfl | rfl | rfl
   ·by_cases h0:v.kind=0
    ·obtain rfl:=vL hm h0;obtain rfl:=hnil rfl
     cases fu with
     | true=>exact(sX hW hr ht h2).mono fun e w' h=>h.imp fun v' c N hx=>DoX.no (get rfl rfl) hx
     | false =>
       obtain rfl:=h5 rfl;exact(tH hW hr ht).mono fun e w' h=>h.imp fun v' c N hx=>DoX.no (get rfl rfl) hx
    ·exact(eM hW hr ht hf (.inl ⟨rfl,.inr (.inr (.inr rfl))⟩) hv hm hkn' (fun _=>h0) (fun h=>absurd rfl h)).mono fun e w' h=>argOf (get2 rfl rfl h0) h
   ·exact(cL vY (.inr (.inl ⟨rfl,rfl⟩)) hW hr ht hf rfl hv hm hkn').mono fun e w' h=>unOf rfl h
   ·exact(cL uJ (.inr (.inr (.inl ⟨rfl,rfl⟩))) hW hr ht hf rfl hv hm hkn').mono fun e w' h=>unOf rfl h
   ·exact(cL uZ (.inr (.inr (.inr ⟨rfl,rfl⟩))) hW hr ht hf rfl hv hm hkn').mono fun e w' h=>unOf rfl h
 | keep x tg h1 h2 h3 =>
   rcases ha4 with rfl | rfl | rfl | rfl
   ·exact(cL wB (.inl ⟨rfl,rfl⟩) hW hr ht hf rfl hv hm hkn').mono fun e w' h=>unOf rfl h
   ·exact(cL vf (.inr (.inl ⟨rfl,rfl⟩)) hW hr ht hf rfl hv hm hkn').mono fun e w' h=>unOf rfl h
   ·exact(cL vG (.inr (.inr (.inl ⟨rfl,rfl⟩))) hW hr ht hf rfl hv hm hkn').mono fun e w' h=>unOf rfl h
   ·obtain⟨u,hu,hu10⟩:=h3;have hut:=hP tg u hu;have h7:at7 M tg=u:=by unfold at7;rw [hu];rfl
    cases hut with
    | mint y=>exact absurd (show (8:Int)=10 from hu10) (by decide)
    | cell y v0 raw0 g1 g2 g3 g4=>exact absurd (show (1:Int)=10 from hu10) (by decide)
    | list k y vs vals g0 g1 g2 g3=>have e:k=10:=hu10;omega
    | tally y n g1 g2=>exact absurd (show (3:Int)=10 from hu10) (by decide)
    | keep y tg g1 g2 g3=>exact absurd (show (11:Int)=10 from hu10) (by decide)
    | prom y v0 raw0 fu g1 g2 g3 g4 g5 =>
      have hd:bG M r (qm x tg) 8 v=(nilV,hJ tg (at7 M tg) v):=rfl;rw [hd,h7];refine(uH hW hr h2 ht hu g2 g1 hv hm hkn').mono fun e w' h=>h.imp fun v' c N hx=>?_;obtain⟨e1,⟨e2,e3,e4⟩ | ⟨e2,e3,raw',e4⟩⟩:=hx
      ·subst e2;exact⟨e1,e3,e4⟩
      ·subst e2;exact⟨e1,e3,dX y v raw' true,e4,⟨_,_,rfl⟩,.prom y v raw' true g1 hm hwf hkn (fun h=>by cases h),_,hu,rfl⟩
theorem jQ (hW:IsW w p M F) (hP:PlM M) {r a:Int} (hr:(Lit.int .i64 r).wf=true) (ha:(Lit.int .u8 a).wf=true)
 {FB:Nat->Prop} {v:Val} {raw:Value} (hv:SlAt w FB raw v.l) (hnil:v.l = []->raw=.slice none 0 0) (hwf:v.wf) :
 Calls Tryz.prog 90 #[P_ p,J r,U a,.agg (au v raw)] w (ActPost w p F (DoX M (dw M r a v))):=by
 have noOf:∀ {n:Int},zO M r a v->dw M r a v=(nilV,n,none)->Calls Tryz.prog 90 #[P_ p,J r,U a,.agg (au v raw)] w (ActPost w p F (DoX M (dw M r a v))):=fun hc hd=>(ze hW hr ha hv hwf hc hd).mono fun e w' h=>h.imp fun v' c N hx=>DoX.no hd hx
 by_cases h1:cS a=false
 ·exact noOf (.inl h1) (by unfold dw;rw [if_pos h1])
 by_cases h2:ay v=false
 ·exact noOf (.inr (.inl h2)) (by unfold dw;rw [if_neg h1,if_pos h2])
 cases ht:M.at r with
 | none=>exact noOf (.inr (.inr (.inl ht))) (by unfold dw;rw [if_neg h1,if_neg h2,ht])
 | some t =>
   by_cases h3:knownB M v=false
   ·exact noOf (.inr (.inr (.inr (.inl h3)))) (by unfold dw;rw [if_neg h1,if_neg h2,ht];show (if knownB M v=false then _ else _)=_;rw [if_pos h3])
   have hd:dw M r a v=bG M r t a v:=by unfold dw;rw [if_neg h1,if_neg h2,ht];show (if knownB M v=false then _ else _)=_;rw [if_neg h3]
   have hpt:=hP r t ht;have hf:Fair t:=⟨hpt.fair.1.1,hpt.fair.1.2.1,by have:=hpt.fair.1.2.2;omega⟩
   have ha':a=1\/a=2\/a=4\/a=8\/a=16\/a=32:=by
    have h:cS a=true:=by simpa using h1
    simpa [cS,or_assoc]using h
   rcases hpt.kind with hk8 | hpl
   ·exact noOf (.inr (.inr (.inr (.inr ⟨t,ht,hf,.inl hk8⟩)))) (by rw [hd];unfold bG;rw [if_pos (by rw [hk8];rfl)])
   by_cases h16:a=16\/a=32
   ·exact noOf (.inr (.inr (.inr (.inr ⟨t,ht,hf,.inr ⟨hpl,h16⟩⟩)))) (by rw [hd];unfold bG;rw [if_neg (by rw [hpl];decide),if_pos (by unfold cW;rcases h16 with rfl | rfl <;> rfl)])
   rw [hd];exact vE hW hP hr ht hpl (by omega) hv hnil (by simpa using h2) hwf (by simpa using h3)
end
end Go.Proofs.YthaliljaglldjaaGreat
