/- Part of the proof. -/
import Derived.Test.YthaliljaglldjaaGreatmBI
namespace Go.Proofs.YthaliljaglldjaaGreat
set_option maxHeartbeats 16000000
set_option maxRecDepth 20000
open Go.RowKit Go.ChangeMaps Go.MapKept
section
variable {w:World} {p:Nat} {M:WM} {F:Nat->Prop}
def IsPart (p:Nat) (F:Nat->Prop) (N:WM) (F':Nat->Prop) (w w':World):Prop:=Keeps F w w'/\IsW w' p N F'/\∀ y,F' y->F y\/w.heap.size≤y
theorem IsPart.fin {w w1 w2 w3:World} {N:WM} {F':Nat->Prop} (h:IsPart p F N F' w1 w2) (hF:∀ y,F y->y<w.heap.size) (hb:Bl w w1) {y:Nat} (h1:w.heap.size≤y) (h2:y<w1.heap.size) (hk:Keeps (fun z=>z=y) w2 w3):IsPart p F N F' w w3:=by
 obtain⟨k1,hW,hF'⟩:=h;refine⟨(Below.keeps hb k1).trans hk (fun _ _ h=>h) (fun x hx e=>by omega),hW.keeps hk fun z hz e=>?_,fun z hz=>(hF' z hz).imp id fun h=>Nat.le_trans hb.size h⟩;subst e
 rcases hF' _ hz with h | h
 ·have:=hF _ h;omega
 ·omega
theorem Acts.start {w w1 w2:World} {N:WM} (h:Acts w1 p F N w2) (hb:Bl w w1):Acts w p F N w2:=by
 obtain⟨k1,F',hW,hF'⟩:=h;exact⟨Below.keeps hb k1,F',hW,fun z hz=>(hF' z hz).imp id fun h=>Nat.le_trans hb.size h⟩
theorem Acts.on {w w1 w2:World} {N:WM} (h:Acts w p F N w1) (hb:Bl w1 w2):Acts w p F N w2:=by
 obtain⟨k1,F',hW,hF'⟩:=h;exact⟨k1.then_below hb,F',hW.below hb,hF'⟩
theorem qh {w w1 w2 w3:World} {G:Nat->Prop} {s:Value} {l:List Val} (h:SlT w2 (fun y=>w1.heap.size≤y/\¬ G y) s l) (hb:w.heap.size≤w1.heap.size) {y:Nat} (h2:y<w1.heap.size) (hk:Keeps (fun z=>z=y) w2 w3):SlT w3 (fun y=>w.heap.size≤y/\¬ G y) s l:=by
 have key:SlT w3 (fun y=>w1.heap.size≤y/\¬ G y) s l:=(h.monoLt (F':=fun z=>(w1.heap.size≤z/\¬ G z)/\z<w2.heap.size) fun b h h'=>⟨h,h'⟩).of_blocks (Lists.of fun b hb=>hk.block b hb.2 (by have:=hb.1.1;omega)) (fun b hb=>hb.1);exact key.mono fun b h=>⟨Nat.le_trans hb h.1,h.2⟩
theorem dc (w:World) (b:Nat) (c:Array Value):Keeps (fun z=>z=b) w (w.setRow b c):=⟨rfl,rfl,rfl,by simp [World.setRow],fun k _ hk=>aj _ _ _ _ hk⟩
theorem kr:ff 27 4 10 bZ:=fun _ _ _ _ _=>rfl
theorem kj:ff 27 6 13 bZ:=fun _ _ _ _ _=>rfl
attribute [local go_sem ↓] kr in
theorem qH (hF:∀ y,F y->y<w.heap.size) {r:Int} {X:Val->Int->WM->Prop} (hD:∀ w1,Bl w w1->Calls Tryz.prog 90 #[P_ p,J r,U 1,.agg (au nilV (S_))] w1 (ActPost w1 p F X)) :
 Calls Tryz.prog 67 #[P_ p,J r] w (ActPost w p F X):=by
 have hb0:Bl w (w.alloc (.cells O 27)):=br.alloc aH _;have HD:Hid _:=And.intro hb0 (And.intro (hD _ hb0) (ai w (.cells O 27)));have HF:Hid (∀ y,F y->y<w.heap.size):=hF;have hz:w.heap.size<(w.alloc (.cells O 27)).heap.size:=by simp
 have Hz:Hid _:=hz;clear hD hb0 hF hz;simp only [au]at HD
 go_enter Tryz.func67,Tryz.ntmps67
 go_wp2_with fail
 refine Calls.mono HD.out.2.1 ?_;rintro e w2 ⟨v',pv,cv,n,N,F',rfl,hX,hk,hW',hF',hS⟩;have hA:IsPart p F N F' _ w2:=⟨hk,hW',hF'⟩;have hg:w2.heap[w.heap.size]? = some (.cells zV 27 (0,0)):=(hk.block _ Hz.out (fun h=>by have:=HF.out _ h;omega)).trans HD.out.2.2;obtain⟨vk,vn,vstr,vl,vr⟩:=v';have hst:=az (c':=#[U vk,J vn,.string vstr,.slice pv vl.length cv,J vr]) hg rfl rfl (by simp [go_sem]);have HZ:Hid _:=ah (c':=#[U vk,J vn,.string vstr,.slice pv vl.length cv,J vr]) hg
 have HE:Hid (X ⟨vk,vn,vstr,vl,vr⟩ n N/\IsPart p F N F' w (w2.setRow w.heap.size (V_ vk vn vstr (.slice pv vl.length cv) vr))/\SlT (w2.setRow w.heap.size (V_ vk vn vstr (.slice pv vl.length cv) vr)) (fun y=>w.heap.size≤y/\¬ F' y) (.slice pv vl.length cv) vl) :=
  ⟨hX,hA.fin HF.out HD.out.1 aH Hz.out (dc _ _ _),qh hS (Nat.le_of_lt Hz.out) Hz.out (dc _ _ _)⟩
 clear hX hA hk hW' hF' hS hg HD Hz;simp only [au]
 go_wp2_with fail
 obtain⟨⟨r0,r1,r2,r3,r4⟩,-⟩:=ax HZ.out;refine bodyPost_ret (v:=.tuple #[.agg (V_ vk vn vstr (.slice pv vl.length cv) vr),J n]) ?_ rfl ?_
 ·simp [results,Tryz.results67,go_sem,r0,r1,r2,r3,r4]
 ·exact⟨⟨vk,vn,vstr,vl,vr⟩,pv,cv,n,N,F',rfl,HE.out.1,HE.out.2.1.1,HE.out.2.1.2.1,HE.out.2.1.2.2,HE.out.2.2⟩
attribute [local go_sem ↓] kj in
theorem iY (hF:∀ y,F y->y<w.heap.size) {r m:Int} {X:Val->Int->WM->Prop} (hD:∀ w1,Bl w w1->Calls Tryz.prog 90 #[P_ p,J r,U 4,.agg (au (cj m) (S_))] w1 (ActPost w1 p F X)) :
 Calls Tryz.prog 70 #[P_ p,J r,J m] w (ActPost w p F X):=by
 have hb0:Bl w (w.alloc (.cells O 27)):=br.alloc aH _;have HD:Hid (∀ w1,Bl w w1->Calls Tryz.prog 90 #[P_ p,J r,U 4,.agg (au (cj m) (S_))] w1 (ActPost w1 p F X)):=hD;have HB0:Hid _:=And.intro hb0 (ai w (.cells O 27));have HF:Hid (∀ y,F y->y<w.heap.size):=hF;clear hD hb0 hF;simp only [au]at HD
 go_enter Tryz.func70,Tryz.ntmps70
 go_wp2_with fail
 refine(jt _ m).mono ?_;rintro e w1 ⟨rfl,hb1⟩;have HB1:Hid (Bl w w1/\w1.heap[w.heap.size]? = some (.cells zV 27 (0,0))/\w.heap.size<w1.heap.size):=⟨HB0.out.1.trans (hb1.mono HB0.out.1.size),ae hb1 HB0.out.2,aw (ae hb1 HB0.out.2)⟩;clear hb1 HB0
 go_wp2_with fail
 refine Calls.mono (HD.out _ HB1.out.1) ?_;rintro e w2 ⟨v',pv,cv,n,N,F',rfl,hX,hk,hW',hF',hS⟩;have hA:IsPart p F N F' _ w2:=⟨hk,hW',hF'⟩;have hg:w2.heap[w.heap.size]? = some (.cells zV 27 (0,0)):=(hk.block _ HB1.out.2.2 (fun h=>by have:=HF.out _ h;omega)).trans HB1.out.2.1;obtain⟨vk,vn,vstr,vl,vr⟩:=v';have hst:=az (c':=#[U vk,J vn,.string vstr,.slice pv vl.length cv,J vr]) hg rfl rfl (by simp [go_sem]);have HZ:Hid _:=ah (c':=#[U vk,J vn,.string vstr,.slice pv vl.length cv,J vr]) hg
 have HE:Hid (X ⟨vk,vn,vstr,vl,vr⟩ n N/\IsPart p F N F' w (w2.setRow w.heap.size (V_ vk vn vstr (.slice pv vl.length cv) vr))/\SlT (w2.setRow w.heap.size (V_ vk vn vstr (.slice pv vl.length cv) vr)) (fun y=>w.heap.size≤y/\¬ F' y) (.slice pv vl.length cv) vl) :=
  ⟨hX,hA.fin HF.out HB1.out.1 aH HB1.out.2.2 (dc _ _ _),qh hS (Nat.le_of_lt HB1.out.2.2) HB1.out.2.2 (dc _ _ _)⟩
 clear hX hA hk hW' hF' hS hg HD HB1;simp only [au]
 go_wp2_with fail
 obtain⟨⟨r0,r1,r2,r3,r4⟩,-⟩:=ax HZ.out;refine bodyPost_ret (v:=.tuple #[.agg (V_ vk vn vstr (.slice pv vl.length cv) vr),J n]) ?_ rfl ?_
 ·simp [results,Tryz.results70,go_sem,r0,r1,r2,r3,r4]
 ·exact⟨⟨vk,vn,vstr,vl,vr⟩,pv,cv,n,N,F',rfl,HE.out.1,HE.out.2.1.1,HE.out.2.1.2.1,HE.out.2.1.2.2,HE.out.2.2⟩
def qD (w:World) (p:Nat) (F:Nat->Prop) (X:Val->Int->WM->Prop) (e:Ending) (w':World):Prop:=∃ v n N,e=.returned (J n)/\X v n N/\Acts w p F N w'
theorem nM {r:Int} {v:Val} {pv:Option Addr} {nv cv:Nat} {X:Val->Int->WM->Prop} (hD:∀ w1,Bl w w1->Calls Tryz.prog 90 #[P_ p,J r,U 8,.agg (au v (.slice pv nv cv))] w1 (ActPost w1 p F X)) :
 Calls Tryz.prog 69 #[P_ p,J r,.agg (au v (.slice pv nv cv))] w (qD w p F X):=by
 have hb0:Bl w (w.alloc (.cells (au v (.slice pv nv cv)) 27)):=br.alloc aH _;have HD:Hid _:=And.intro hb0 (hD _ hb0);clear hD hb0;obtain⟨vk,vn,vstr,vl,vr⟩:=v;simp only [au]at HD ⊢
 go_enter Tryz.func69,Tryz.ntmps69
 go_wp2_with fail
 refine Calls.mono HD.out.2 ?_;rintro e w2 h2;obtain⟨v',pv',cv',n,N,rfl,hX,hA⟩:=h2.acts;obtain⟨vk',vn',vstr',vl',vr'⟩:=v';have HE:Hid (X ⟨vk',vn',vstr',vl',vr'⟩ n N/\Acts w p F N (w2.alloc (.cells (V_ vk' vn' vstr' (.slice pv' vl'.length cv') vr') 27))):=⟨hX,(hA.start HD.out.1).on (br.alloc aH _)⟩;clear hX hA h2 HD;simp only [au]
 go_wp2_with fail
 go_ret
 exact⟨_,n,N,rfl,HE.out.1,HE.out.2⟩
theorem pZ {r:Int} {v:Val} {pv:Option Addr} {nv cv:Nat} {X:Val->Int->WM->Prop} (hD:∀ w1,Bl w w1->Calls Tryz.prog 90 #[P_ p,J r,U 2,.agg (au v (.slice pv nv cv))] w1 (ActPost w1 p F X)) :
 Calls Tryz.prog 71 #[P_ p,J r,.agg (au v (.slice pv nv cv))] w (qD w p F X):=by
 have hb0:Bl w (w.alloc (.cells (au v (.slice pv nv cv)) 27)):=br.alloc aH _;have HD:Hid _:=And.intro hb0 (hD _ hb0);clear hD hb0;obtain⟨vk,vn,vstr,vl,vr⟩:=v;simp only [au]at HD ⊢
 go_enter Tryz.func71,Tryz.ntmps71
 go_wp2_with fail
 refine Calls.mono HD.out.2 ?_;rintro e w2 h2;obtain⟨v',pv',cv',n,N,rfl,hX,hA⟩:=h2.acts;obtain⟨vk',vn',vstr',vl',vr'⟩:=v';have HE:Hid (X ⟨vk',vn',vstr',vl',vr'⟩ n N/\Acts w p F N (w2.alloc (.cells (V_ vk' vn' vstr' (.slice pv' vl'.length cv') vr') 27))):=⟨hX,(hA.start HD.out.1).on (br.alloc aH _)⟩;clear hX hA h2 HD;simp only [au]
 go_wp2_with fail
 go_ret
 exact⟨_,n,N,rfl,HE.out.1,HE.out.2⟩
end
section
variable {w:World} {p:Nat} {M:WM} {F:Nat->Prop}
theorem iN {k r h:Int} {vs:List Val} {vals0:Value} {ty:TypeId} {b:Nat} {w0 w':World} (hty:ty≠27) (hF:∀ y,F y->y<w0.heap.size) (hfd:FoundB w0 p r (qT k h vs vals0) ty b w') :
 ∃ vals',w'.heap[b]? = some (.cells (bj p r (qT k h vs vals')) ty (0,0))/\w0.heap.size≤b/\Bl w0 w'/\dQ vals'/\∃ FA:Nat->Prop,SlAt w' FA vals' vs/\∀ y,FA y->y≠b/\¬ F y:=by
 obtain⟨vl',vals',h1,h2,h3,h4,h5,-,h7⟩:=hfd;rw [h5 rfl]at h1;exact⟨vals',h1,h2,h3,h7,_,(h4.vs.ne h1 hty).at,fun y hy=>⟨hy.2,fun e=>by have:=hF y e;have:=hy.1;omega⟩⟩
theorem jH {k h:Int} {vs:List Val} {vals:Value} (h1:∀ x ∈ vs,ay x=true) (h2:vs.length≤1024):Fair (qT k h vs vals):=⟨(aZ 0 0 (.inl ⟨rfl,rfl⟩)).2,h1,h2⟩
def qz (M:WM) (r k h:Int) (vs:List Val) (x v:Val) (c:Int) (N:WM):Prop :=
 v=nilV/\((ay (aJ (vs ++ [x]))=true/\c=0/\∃ vals',N=M.set r (qT k h (vs ++ [x]) vals'))\/(ay (aJ (vs ++ [x]))=false/\c=8/\N=M))
theorem GivePost.meth {w0 w1 w':World} {r k h:Int} {vs:List Val} {v:Val} {b:Nat} {e:Ending} (hW:IsW w1 p M F) (hs:w0.heap.size≤w1.heap.size) (hg:GivePost w1 p M F r k h vs v b e w'):fR w1 F b (ij p F (qz M r k h vs v) w0) e w':=by
 rcases hg with ⟨h0,rfl,vals',vl',vals2,F',l0,l1,l2,l3⟩ | ⟨h0,rfl,h1⟩
 ·rw [l0 rfl]at l1;exact⟨nilV,none,0,0,rfl,l2,_,F',⟨rfl,.inl ⟨h0,rfl,vals2,rfl⟩⟩,l1,fun y hy=>(l3 y hy).imp id fun h=>Nat.le_trans hs h,SlT.nil _ _ _ _⟩
 ·exact⟨nilV,none,0,8,rfl,Keeps.of_below h1,M,F,⟨rfl,.inr ⟨h0,rfl,rfl⟩⟩,hW.below h1,fun _ h=>.inl h,SlT.nil _ _ _ _⟩
theorem qv (hW:IsW w p M F) {r:Int} (hr:(Lit.int .i64 r).wf=true) {h:Int} {vs:List Val} {vals0:Value} (ht:M.at r=some (qT 4 h vs vals0)) (hh:be M h=true) (hheld:∀ r ∈ bk (qT 4 h vs vals0),(Lit.int .i64 r).wf=true/\(M.at r).isSome=true) (hmay:∀ x ∈ vs,ay x=true) (hlen:vs.length≤1024)
 {FB:Nat->Prop} {v:Val} {raw:Value} (hv:SlAt w FB raw v.l) (hm:ay v=true) (hkn:∀ r ∈ aM v,(Lit.int .i64 r).wf=true/\(M.at r).isSome=true) :
 Calls Tryz.prog 90 #[P_ p,J r,U 8,.agg (au v raw)] w (ActPost w p F (qz M r 4 h vs v)):=by
 refine bU xY hW hr ht (jH hmay hlen) rfl hv hm hkn ?_;intro w0 w' b hb0 hfd;obtain⟨vals',hb,hbw,hbel,hcap,FA,hSA,hFA⟩:=iN (F:=F) (by decide) (fun y hy=>Nat.lt_of_lt_of_le (hW.lt y hy) hb0.size) hfd;have hbb:=hb0.trans (hbel.mono hb0.size);have hW':IsW w' p M F:=hW.below hbb;exact(uY hW' hr (.inr rfl) ht hb (fun e=>by have:=hW.lt b e;have:=hb0.size;omega) hh hSA (fun y hy=>(hFA y hy).1) hcap hheld hmay hlen (hv.lt.on hbb) (fun y hy e=>by have:=hy.2;have:=hb0.size;omega) hm hkn).mono fun e w'' hg=>hg.meth hW' hbel.size
def zo (M:WM) (r h:Int) (vs:List Val) (m:Int) (v:Val) (c:Int) (N:WM):Prop :=
 (m<0/\v=nilV/\c=2/\N=M)\/((vs.length:Int)<m/\v=nilV/\c=81/\N=M)\/(0≤m/\m≤vs.length/\v=aJ (vs.take m.toNat)/\c=0/\∃ vals',N=M.set r (qT 4 h (vs.drop m.toNat) vals'))
theorem lY (hW:IsW w p M F) {r:Int} (hr:(Lit.int .i64 r).wf=true) {h:Int} {vs:List Val} {vals0:Value} (ht:M.at r=some (qT 4 h vs vals0)) (hh:be M h=true) (hheld:∀ r ∈ bk (qT 4 h vs vals0),(Lit.int .i64 r).wf=true/\(M.at r).isSome=true) (hmay:ay (aJ vs)=true) (hmays:∀ x ∈ vs,ay x=true) (m:Int) :
 Calls Tryz.prog 90 #[P_ p,J r,U 4,.agg (au (cj m) (S_))] w (ActPost w p F (zo M r h vs m)):=by
 have hv:=aZ 1 m (.inr rfl);have hlen:=dg hmay;refine bU AG hW hr ht (jH hmays (by omega)) rfl (v:=cj m) (SlAt.nil w F none 0) hv.2 (fun r hr=>by rw [hv.1]at hr;cases hr) ?_;intro w0 w' b hb0 hfd;obtain⟨vals',hb,hbw,hbel,hcap,FA,hSA,hFA⟩:=iN (F:=F) (by decide) (fun y hy=>Nat.lt_of_lt_of_le (hW.lt y hy) hb0.size) hfd;have hbb:=hb0.trans (hbel.mono hb0.size);have hW':IsW w' p M F:=hW.below hbb
 by_cases h1:m<0
 ·exact(AB w' b m h1).mono fun e w'' ⟨he,hb''⟩=>⟨nilV,none,0,2,he,Keeps.of_below hb'',M,F,.inl ⟨h1,rfl,rfl,rfl⟩,hW'.below hb'',fun _ h=>.inl h,SlT.nil _ _ _ _⟩
 by_cases h2:(vs.length:Int)<m
 ·obtain⟨pa,c,e⟩:=hSA.form;exact(oh hb (show (qT 4 h vs vals').vals=.slice pa vs.length c from e) m h2).mono fun e w'' ⟨he,hb''⟩=>⟨nilV,none,0,81,he,Keeps.of_below hb'',M,F,.inr (.inl ⟨h2,rfl,rfl,rfl⟩),hW'.below hb'',fun _ h=>.inl h,SlT.nil _ _ _ _⟩
 ·obtain⟨k,rfl⟩:=Int.eq_ofNat_of_zero_le (show 0≤m by omega);refine(uL hW' hr ht hb (fun e=>by have:=hW.lt b e;have:=hb0.size;omega) hh hSA hFA hcap hheld hmay hmays (k:=k) (by omega)).mono ?_;rintro e w'' ⟨raw',vals2,vl',vals3,F',he,hS',l0,l1,l2,l3⟩;rw [l0 rfl]at l1;obtain⟨pr,cr,rfl⟩:=hS'.form;exact⟨aJ (vs.take k),pr,cr,0,he,l2,_,F',.inr (.inr ⟨by omega,by omega,rfl,rfl,vals3,rfl⟩),l1,fun y hy=>(l3 y hy).imp id fun h=>Nat.le_trans hbel.size h,hS'.mono fun y hy=>⟨Nat.le_trans hbel.size hy.1,hy.2⟩⟩
theorem pX (hW:IsW w p M F) {r:Int} (hr:(Lit.int .i64 r).wf=true) {h:Int} {vs:List Val} {vals0:Value} (ht:M.at r=some (qT 4 h vs vals0)) (hmay:∀ x ∈ vs,ay x=true) (hlen:vs.length≤1024)
 {FB:Nat->Prop} {v:Val} {raw:Value} (hv:SlAt w FB raw v.l) (hm:ay v=true) (hkn:∀ r ∈ aM v,(Lit.int .i64 r).wf=true/\(M.at r).isSome=true) :
 Calls Tryz.prog 90 #[P_ p,J r,U 2,.agg (au v raw)] w (ActPost w p F (fun v c N=>v=nilV/\c=6/\N=M)):=by
 refine bU xh hW hr ht (jH hmay hlen) rfl hv hm hkn ?_;intro w0 w' b hb0 hfd;obtain⟨vals',hb,hbw,hbel,-⟩:=iN (F:=F) (by decide) (fun y hy=>Nat.lt_of_lt_of_le (hW.lt y hy) hb0.size) hfd;have hW':IsW w' p M F:=hW.below (hb0.trans (hbel.mono hb0.size));obtain⟨pv,cv,rfl⟩:=hv.form;exact(yB w' _ _ _ _ _ _ _ _).mono fun e w'' ⟨he,hb''⟩=>⟨nilV,none,0,6,he,Keeps.of_below hb'',M,F,⟨rfl,rfl,rfl⟩,hW'.below hb'',fun _ h=>.inl h,SlT.nil _ _ _ _⟩
theorem qV (hW:IsW w p M F) {r:Int} (hr:(Lit.int .i64 r).wf=true) {h:Int} {x:Val} {raw:Value} (ht:M.at r=some (bn h x raw)) (hm:ay x=true) :
 Calls Tryz.prog 90 #[P_ p,J r,U 1,.agg (au nilV (S_))] w (ActPost w p F (fun v c N=>v=x/\c=0/\N=M)):=by
 have hv:=aZ 0 0 (.inl ⟨rfl,rfl⟩);refine bU um hW hr ht ⟨hm,fun x hx=>(by cases hx),Nat.zero_le _⟩ rfl (v:=nilV) (SlAt.nil w F none 0) hv.2 (fun r hr=>by rw [hv.1]at hr;cases hr) ?_;intro w0 w' b hb0 hfd;obtain⟨vl',vals',hb,hbw,hbel,hdeep,-,-,-⟩:=hfd;have hW':IsW w' p M F:=hW.below (hb0.trans (hbel.mono hb0.size));obtain⟨pv,cv,e⟩:=hdeep.v.form;have e':vl'=.slice pv x.l.length cv:=e;subst e';exact(yf hb rfl).mono fun e w'' ⟨he,hb''⟩=>⟨x,pv,cv,0,he,Keeps.of_below hb'',M,F,⟨rfl,rfl,rfl⟩,hW'.below hb'',fun _ h=>.inl h,(hdeep.v.on hb'').mono fun y hy=>⟨hy,fun e=>by have:=hW.lt y e;have:=hb0.size;have:w0.heap.size≤y:=hy;omega⟩⟩
theorem ro (w:World) (n:Int) (pv:Option Addr) (cv:Nat):Calls Tryz.prog 68 #[.agg (V_ 1 n ⟨#[]⟩ (.slice pv 0 cv) 0),.agg (V_ 1 n ⟨#[]⟩ (S_) 0)] w fun e w'=>e=.returned (.bool true)/\Below w.heap.size w w':=by
 go_enter Tryz.func68,Tryz.ntmps68
 go_wp2
 go_rounds 1
 go_ret
 exact⟨rfl,by go_grown⟩
end
section
variable {w:World} {p:Nat} {M:WM} {F:Nat->Prop}
theorem vO (hW:IsW w p M F) {r:Int} (hr:(Lit.int .i64 r).wf=true) {h:Int} {vs:List Val} {vals0:Value} (ht:M.at r=some (qT 2 h vs vals0)) (hh:be M h=true) (hheld:∀ r ∈ bk (qT 2 h vs vals0),(Lit.int .i64 r).wf=true/\(M.at r).isSome=true) (hmay:∀ x ∈ vs,ay x=true) (hlen:vs.length≤1024)
 {FB:Nat->Prop} {v:Val} {raw:Value} (hv:SlAt w FB raw v.l) (hm:ay v=true) (hkn:∀ r ∈ aM v,(Lit.int .i64 r).wf=true/\(M.at r).isSome=true) :
 Calls Tryz.prog 90 #[P_ p,J r,U 8,.agg (au v raw)] w (ActPost w p F (qz M r 2 h vs v)):=by
 refine bU xR hW hr ht (jH hmay hlen) rfl hv hm hkn ?_;intro w0 w' b hb0 hfd;obtain⟨vals',hb,hbw,hbel,hcap,FA,hSA,hFA⟩:=iN (F:=F) (by decide) (fun y hy=>Nat.lt_of_lt_of_le (hW.lt y hy) hb0.size) hfd;have hbb:=hb0.trans (hbel.mono hb0.size);have hW':IsW w' p M F:=hW.below hbb;exact(wz hW' hr (.inl rfl) ht hb (fun e=>by have:=hW.lt b e;have:=hb0.size;omega) hh hSA (fun y hy=>(hFA y hy).1) hcap hheld hmay hlen (hv.lt.on hbb) (fun y hy e=>by have:=hy.2;have:=hb0.size;omega) hm hkn).mono fun e w'' hg=>hg.meth hW' hbel.size
theorem wN (hW:IsW w p M F) {r:Int} (hr:(Lit.int .i64 r).wf=true) {h:Int} {vs:List Val} {vals0:Value} (ht:M.at r=some (qT 2 h vs vals0)) (hmay:∀ x ∈ vs,ay x=true) (hlen:vs.length≤1024) :
 Calls Tryz.prog 90 #[P_ p,J r,U 1,.agg (au nilV (S_))] w (ActPost w p F (fun v c N=>v=aJ vs/\c=0/\N=M)):=by
 have hv:=aZ 0 0 (.inl ⟨rfl,rfl⟩);refine bU sD hW hr ht (jH hmay hlen) rfl (v:=nilV) (SlAt.nil w F none 0) hv.2 (fun r hr=>by rw [hv.1]at hr;cases hr) ?_;intro w0 w' b hb0 hfd;obtain⟨vl',vals',hb,hbw,hbel,hdeep,-,-,-⟩:=hfd;have hW':IsW w' p M F:=hW.below (hb0.trans (hbel.mono hb0.size));obtain⟨pv,cv,e⟩:=hdeep.vs.form;have e':vals'=.slice pv vs.length cv:=e;subst e';exact(yJ hb rfl).mono fun e w'' ⟨he,hb''⟩=>⟨aJ vs,pv,cv,0,he,Keeps.of_below hb'',M,F,⟨rfl,rfl,rfl⟩,hW'.below hb'',fun _ h=>.inl h,(hdeep.vs.on hb'').mono fun y hy=>⟨hy,fun e=>by have:=hW.lt y e;have:=hb0.size;have:w0.heap.size≤y:=hy;omega⟩⟩
end
section
variable {w:World} {p:Nat} {M:WM} {F:Nat->Prop}
theorem wn (hW:IsW w p M F) {r:Int} (hr:(Lit.int .i64 r).wf=true) {h:Int} {x:Val} {raw0:Value} (ht:M.at r=some (bn h x raw0)) (hx:ay x=true) (hh:be M h=true)
 {FB:Nat->Prop} {v:Val} {raw:Value} (hv:SlAt w FB raw v.l) (hm:ay v=true) (hkn:∀ r ∈ aM v,(Lit.int .i64 r).wf=true/\(M.at r).isSome=true) :
 Calls Tryz.prog 90 #[P_ p,J r,U 2,.agg (au v raw)] w (ActPost w p F (fun v' c N=>v'=nilV/\c=0/\∃ raw',N=M.set r (bn h v raw'))):=by
 refine bU xO hW hr ht ⟨hx,fun x hx=>(by cases hx),Nat.zero_le _⟩ rfl hv hm hkn ?_;intro w0 w' b hb0 hfd;obtain⟨vl',vals',hb,hbw,hbel,-,-,h6,-⟩:=hfd;have e6:vals'=.slice none 0 0:=h6 rfl;subst e6;have hbb:=hb0.trans (hbel.mono hb0.size);have hW':IsW w' p M F:=hW.below hbb
 exact(xX hW' hr ht (rawC:=vl') hb (fun e=>by have:=hW.lt b e;have:=hb0.size;omega) hh (hv.lt.on hbb) (fun y hy e=>by have:=hy.2;have:=hb0.size;omega) hm hkn).mono fun e w'' ⟨he,raw',F',l1,l2,l3⟩ =>
  ⟨nilV,none,0,0,he,l2,_,F',⟨rfl,rfl,raw',rfl⟩,l1,fun y hy=>(l3 y hy).imp id fun h=>Nat.le_trans hbel.size h,SlT.nil _ _ _ _⟩
theorem sX (hW:IsW w p M F) {r:Int} (hr:(Lit.int .i64 r).wf=true) {h:Int} {x:Val} {raw0:Value} (ht:M.at r=some (dX h x raw0 true)) (hx:ay x=true) :
 Calls Tryz.prog 90 #[P_ p,J r,U 1,.agg (au nilV (S_))] w (ActPost w p F (fun v c N=>v=x/\c=0/\N=M)):=by
 have hv:=aZ 0 0 (.inl ⟨rfl,rfl⟩);refine bU lQ hW hr ht ⟨hx,fun x hx=>(by cases hx),Nat.zero_le _⟩ rfl (v:=nilV) (SlAt.nil w F none 0) hv.2 (fun r hr=>by rw [hv.1]at hr;cases hr) ?_;intro w0 w' b hb0 hfd;obtain⟨vl',vals',hb,hbw,hbel,hdeep,-,h6,-⟩:=hfd;have e6:vals'=.slice none 0 0:=h6 rfl;subst e6;have hW':IsW w' p M F:=hW.below (hb0.trans (hbel.mono hb0.size));obtain⟨pv,cv,e⟩:=hdeep.v.form;have e':vl'=.slice pv x.l.length cv:=e;subst e';refine(qC (x:=x) (fu:=true) hb).mono ?_;rintro e w'' ⟨⟨-,he⟩ | ⟨he,-⟩,hb''⟩
 ·exact⟨x,pv,cv,0,he,Keeps.of_below hb'',M,F,⟨rfl,rfl,rfl⟩,hW'.below hb'',fun _ h=>.inl h,(hdeep.v.on hb'').mono fun y hy=>⟨hy,fun e=>by have:=hW.lt y e;have:=hb0.size;have:w0.heap.size≤y:=hy;omega⟩⟩
 ·cases he
def yU (M:WM) (tg h:Int) (v:Val) (fu:Bool) (v':Val) (c:Int) (N:WM):Prop :=
 v'=nilV/\((fu=true/\c=83/\N=M)\/(fu=false/\c=0/\∃ raw',N=M.set tg (dX h v raw' true)))
theorem uH (hW:IsW w p M F) {r tg:Int} (hr:(Lit.int .i64 r).wf=true) (hq:(Lit.int .i64 tg).wf=true) {h h':Int} {x:Val} {raw0:Value} {fu:Bool} (hk:M.at r=some (qm h' tg)) (ht:M.at tg=some (dX h x raw0 fu)) (hx:ay x=true) (hh:be M h=true)
 {FB:Nat->Prop} {v:Val} {raw:Value} (hv:SlAt w FB raw v.l) (hm:ay v=true) (hkn:∀ r ∈ aM v,(Lit.int .i64 r).wf=true/\(M.at r).isSome=true) :
 Calls Tryz.prog 90 #[P_ p,J r,U 8,.agg (au v raw)] w (ActPost w p F (yU M tg h v fu)):=by
 obtain⟨pv,cv,rfl⟩:=hv.form;refine bU wJ hW hr hk ⟨(aZ 0 0 (.inl ⟨rfl,rfl⟩)).2,fun x hx=>(by cases hx),Nat.zero_le _⟩ rfl hv hm hkn ?_;intro w0 w' b hb0 hfd;obtain⟨vl',vals',hb,hbw,hbel,-,h5,h6,-⟩:=hfd;have e5:vl'=.slice none 0 0:=h5 rfl;have e6:vals'=.slice none 0 0:=h6 rfl;subst e5 e6;have hbb:=hb0.trans (hbel.mono hb0.size);have hW':IsW w' p M F:=hW.below hbb;refine(tO hW' hq hx ht hb (fun e=>by have:=hW.lt b e;have:=hb0.size;omega) hh (hv.on hbb) hm hkn).mono ?_;rintro e w'' (⟨hf,he,hb''⟩ | ⟨hf,he,raw',F',l1,l2,l3⟩)
 ·exact⟨nilV,none,0,83,he,Keeps.of_below hb'',M,F,⟨rfl,.inl ⟨hf,rfl,rfl⟩⟩,hW'.below hb'',fun _ h=>.inl h,SlT.nil _ _ _ _⟩
 ·exact⟨nilV,none,0,0,he,l2,_,F',⟨rfl,.inr ⟨hf,rfl,raw',rfl⟩⟩,l1,fun y hy=>(l3 y hy).imp id fun h=>Nat.le_trans hbel.size h,SlT.nil _ _ _ _⟩
end
section
inductive PlT (M:WM):Th->Prop
 | cell (h:Int) (v:Val) (raw:Value):be M h=true->ay v=true->v.wf->knownB M v=true->PlT M (bn h v raw)
 | list (k h:Int) (vs:List Val) (vals:Value):k=2\/k=4->be M h=true->ay (aJ vs)=true->(∀ x ∈ vs,ay x=true/\x.wf/\knownB M x=true)->PlT M (qT k h vs vals)
 | tally (h n:Int):be M h=true->0≤n/\n≤9007199254740992->PlT M (lt 3 h 0 0 n 0 0 0 0 false)
 | prom (h:Int) (v:Val) (raw:Value) (fu:Bool):be M h=true->ay v=true->v.wf->knownB M v=true->(fu=false->v=⟨0,0,⟨#[]⟩,[],0⟩)->PlT M (dX h v raw fu)
 | keep (h tg:Int):be M h=true->(Lit.int .i64 tg).wf=true->(∃ p,M.at tg=some p/\p.kind=10)->PlT M (qm h tg)
 | mint (h:Int):PlT M (lt 8 h 0 0 0 0 0 0 0 false)
def PlM (M:WM):Prop:=∀ r t,M.at r=some t->PlT M t
def fW (t:Th):Prop:=(t.v.l = []->t.vl=.slice none 0 0)/\(t.vs = []->t.vals=.slice none 0 0)
def RNil (N:WM):Prop:=∀ r t,N.at r=some t->fW t
theorem gH {M N:WM} (h:∀ r,(M.at r).isSome=true->(N.at r).isSome=true) {v:Val} (hk:knownB M v=true):knownB N v=true:=by
 unfold knownB at hk ⊢;rw [List.all_eq_true]at hk ⊢;exact fun x hx=>h x (hk x hx)
structure Stay (M N:WM):Prop where
 made:N.made.length=M.made.length
 at':∀ r,(M.at r).isSome=true->(N.at r).isSome=true
 prom:∀ r p,M.at r=some p->p.kind=10->∃ p',N.at r=some p'/\p'.kind=10
theorem Stay.side {M N:WM} (h:Stay M N) {x:Int} (hx:be M x=true):be N x=true:=by
 unfold be at hx ⊢;rw [h.made];exact hx
theorem PlT.stay {M N:WM} (h:Stay M N) {t:Th} (ht:PlT M t):PlT N t:=by
 cases ht with
 | cell x v raw h1 h2 h3 h4=>exact .cell x v raw (h.side h1) h2 h3 (gH h.at' h4)
 | list k x vs vals h0 h1 h2 h3=>exact .list k x vs vals h0 (h.side h1) h2 fun y hy=>⟨(h3 y hy).1,(h3 y hy).2.1,gH h.at' (h3 y hy).2.2⟩
 | tally x n h1 h2=>exact .tally x n (h.side h1) h2
 | prom x v raw fu h1 h2 h3 h4 h5=>exact .prom x v raw fu (h.side h1) h2 h3 (gH h.at' h4) h5
 | keep x tg h1 h2 h3 =>
   obtain⟨p,h3,h4⟩:=h3;exact .keep x tg (h.side h1) h2 (h.prom tg p h3 h4)
 | mint x=>exact .mint x
theorem Stay.like {M N:WM} (h:Alike M N):Stay M N where
 made:=by rw [h.made]
 at':=fun r hr=>by rw [h.at r];exact hr
 prom:=fun r p hr hp=>by
  obtain⟨t',ht,vl,vals,e⟩:=(bO h.things r).2 p hr;exact⟨t',ht,by rw [e];exact hp⟩
theorem PlT.like {M:WM} {t t':Th} (ht:PlT M t) (hl:ThLike t t') (hn:fW t'):PlT M t':=by
 obtain⟨vl,vals,rfl⟩:=hl;obtain⟨n1,n2⟩:=hn
 cases ht with
 | cell x v raw h1 h2 h3 h4 =>
   have e:vals=.slice none 0 0:=n2 rfl;subst e;exact .cell x v vl h1 h2 h3 h4
 | list k x vs vals0 h0 h1 h2 h3 =>
   have e:vl=.slice none 0 0:=n1 rfl;subst e;exact .list k x vs vals h0 h1 h2 h3
 | tally x n h1 h2 =>
   have e:vl=.slice none 0 0:=n1 rfl;have e':vals=.slice none 0 0:=n2 rfl;subst e e';exact .tally x n h1 h2
 | prom x v raw fu h1 h2 h3 h4 h5 =>
   have e:vals=.slice none 0 0:=n2 rfl;subst e;exact .prom x v vl fu h1 h2 h3 h4 h5
 | keep x tg h1 h2 h3 =>
   have e:vl=.slice none 0 0:=n1 rfl;have e':vals=.slice none 0 0:=n2 rfl;subst e e';exact .keep x tg h1 h2 h3
 | mint x =>
   have e:vl=.slice none 0 0:=n1 rfl;have e':vals=.slice none 0 0:=n2 rfl;subst e e';exact .mint x
theorem PlM.like {M N:WM} (h:Alike M N) (hM:PlM M) (hN:RNil N):PlM N:=fun r t' ht'=>by
 obtain⟨h1,h2⟩:=bO h.things r
 cases hm:M.at r with
 | none =>
   have:N.at r=none:=h1 hm;rw [this]at ht'
   cases ht'
 | some t =>
   obtain⟨t2,ht,hl⟩:=h2 t hm;have e:N.at r=some t2:=ht;have e2:t2=t':=Option.some.inj (e.symm.trans ht');subst e2;exact((hM r t hm).like hl (hN r t2 e)).stay (Stay.like h)
theorem LikeT.set {l l':List (Int × Th)} (h:LikeT l l') {r:Int} {t t':Th} (ht:ThLike t t'):LikeT (l.map fun x=>if x.1=r then (x.1,t)else x) (l'.map fun x=>if x.1=r then (x.1,t')else x):=by
 refine⟨by simpa using h.1,fun i x hx=>?_⟩;rw [List.getElem?_map,Option.map_eq_some_iff]at hx;obtain⟨y,hy,hx⟩:=hx;obtain⟨vl,vals,e⟩:=h.2 i y hy;rw [List.getElem?_map,e];show ∃ vl2 vals2,some (if y.1=r then (y.1,t')else (y.1,{ y.2 with vl:=vl,vals:=vals }))=some (x.1,{ x.2 with vl:=vl2,vals:=vals2 })
 by_cases hr:y.1=r
 ·rw [if_pos hr]at hx ⊢;obtain⟨vl',vals',rfl⟩:=ht;subst hx;exact⟨vl',vals',rfl⟩
 ·rw [if_neg hr]at hx ⊢;subst hx;exact⟨vl,vals,rfl⟩
theorem Alike.set {M N:WM} (h:Alike M N) (r:Int) {t t':Th} (ht:ThLike t t'):Alike (M.set r t) (N.set r t') where
 par:=h.par
 last:=h.last
 made:=h.made
 things:=h.things.set ht
theorem Stay.set {M:WM} {r:Int} {t u:Th} (h:M.at r=some u) (hk:t.kind=u.kind):Stay M (M.set r t) where
 made:=rfl
 at':=fun q hq=>by
  rw [WM.set_at];split
  ·obtain⟨v,hv⟩:=Option.isSome_iff_exists.1 hq;rw [hv];rfl
  ·exact hq
 prom:=fun q p hq hp=>by
  by_cases e:q=r
  ·subst e;rw [h]at hq;cases hq;exact⟨t,WM.set_at_self t h,by rw [hk];exact hp⟩
  ·exact⟨p,by rw [WM.set_at_ne M _ e];exact hq,hp⟩
theorem mh (M:WM) (t:Th) (q:Int):(M.add t).at q=(M.at q).or (if q=M.last+1 then some t else none):=dq M.things (M.last+1) t q
theorem Stay.add (M:WM) (t:Th):Stay M (M.add t) where
 made:=by
  show (if t.kind=14 then M.made else M.made.set t.home.toNat (M.made.getD t.home.toNat 0+1)).length=M.made.length
  split
  ·rfl
  ·rw [List.length_set]
 at':=fun q hq=>by
  obtain⟨u,hu⟩:=Option.isSome_iff_exists.1 hq;rw [mh,hu];rfl
 prom:=fun q p hq hp=>⟨p,by rw [mh,hq];rfl,hp⟩
theorem PlM.set {M:WM} (h:PlM M) {r:Int} {t u:Th} (hr:M.at r=some u) (hk:t.kind=u.kind) (ht:PlT M t):PlM (M.set r t):=fun q v hq=>by
 rcases WM.set_at_some hq with ⟨-,rfl,-⟩ | ⟨-,hq⟩
 ·exact ht.stay (Stay.set hr hk)
 ·exact(h q v hq).stay (Stay.set hr hk)
theorem PlM.add {M:WM} (h:PlM M) {t:Th} (ht:PlT M t):PlM (M.add t):=fun q v hq=>by
 rw [mh]at hq
 cases hm:M.at q with
 | some u =>
   rw [hm]at hq;cases hq;exact(h q _ hm).stay (Stay.add M t)
 | none =>
   rw [hm]at hq;simp only [Option.none_or]at hq;split at hq
   ·cases hq;exact ht.stay (Stay.add M _)
   ·cases hq
theorem RNil.set {N:WM} (h:RNil N) {r:Int} {t:Th} (ht:fW t):RNil (N.set r t):=fun q v hq=>by
 rcases WM.set_at_some hq with ⟨-,rfl,-⟩ | ⟨-,hq⟩
 ·exact ht
 ·exact h q v hq
theorem RNil.add {N:WM} (h:RNil N) {t:Th} (ht:fW t):RNil (N.add t):=fun q v hq=>by
 have e:(N.add t).at q=(N.at q).or (if q=N.last+1 then some t else none):=mh N t q
 rw [e]at hq
 cases hm:N.at q with
 | some u =>
   rw [hm]at hq;cases hq;exact h q _ hm
 | none =>
   rw [hm]at hq;simp only [Option.none_or]at hq;split at hq
   ·cases hq;exact ht
   ·cases hq
def Adds (M N M' N':WM):Prop :=
 (M'=M/\N'=N)\/(∃ t t',M'=M.add t/\N'=N.add t'/\PlT M t/\fW t') \/
 (∃ t1 t2,M'=(M.add t1).add t2/\N'=(N.add t1).add t2/\PlT M t1/\PlT (M.add t1) t2/\fW t1/\fW t2)
theorem lq {M:WM} {h:Int} (hh:0≤h/\h<M.made.length):be M h=true:=by unfold be;exact decide_eq_true hh
theorem Adds.pl {M N M' N':WM} (h:Adds M N M' N') (hP:PlM M) (hR:RNil N):PlM M'/\RNil N':=by
 rcases h with ⟨rfl,rfl⟩ | ⟨t,t',rfl,rfl,h2,h3⟩ | ⟨t1,t2,rfl,rfl,h2,h3,h4,h5⟩
 ·exact⟨hP,hR⟩
 ·exact⟨hP.add h2,hR.add h3⟩
 ·exact⟨(hP.add h2).add h3,(hR.add h4).add h5⟩
theorem rA (M:WM):knownB M ⟨0,0,⟨#[]⟩,[],0⟩=true:=by unfold knownB;rw [(aZ 0 0 (.inl ⟨rfl,rfl⟩)).1];rfl
theorem vP:(⟨0,0,⟨#[]⟩,[],0⟩:Val).wf:=.mk _ _ _ _ _ ⟨by decide,by decide⟩ (by simp [maxLen]) (fun x hx=>by cases hx) ⟨rfl,rfl⟩
theorem co:ay (aJ [])=true:=by rfl
theorem uM {M:WM} {h k:Int} (hs:be M h=true) (hk:k=2\/k=3\/k=4):PlT M (lt k h 0 0 0 0 0 0 0 false):=by
 rcases hk with rfl | rfl | rfl
 ·exact .list 2 h [] (S_) (.inl rfl) hs co fun x hx=>by cases hx
 ·exact .tally h 0 hs ⟨by decide,by decide⟩
 ·exact .list 4 h [] (S_) (.inr rfl) hs co fun x hx=>by cases hx
theorem qx (k h n l tg bi s:Int) (fu:Bool):fW (lt k h 0 0 n l tg bi s fu):=⟨fun _=>rfl,fun _=>rfl⟩
theorem AF {M:WM} {h:Int} (hs:be M h=true) (hM:M.ok):PlT M (lt 10 h 0 0 0 0 0 0 0 false)/\PlT (M.add (lt 10 h 0 0 0 0 0 0 0 false)) (lt 11 h 0 0 0 0 (M.last+1) 0 0 false)/\fW (lt 10 h 0 0 0 0 0 0 0 false)/\fW (lt 11 h 0 0 0 0 (M.last+1) 0 0 false):=by
 refine⟨.prom h ⟨0,0,⟨#[]⟩,[],0⟩ (S_) false hs (aZ 0 0 (.inl ⟨rfl,rfl⟩)).2 vP (rA M) (fun _=>rfl),.keep h (M.last+1) ((Stay.add M _).side hs) (by have:=hM.last;exact WalkArith.wf_i64 (by omega)) ⟨_,WM.add_at_new hM _,rfl⟩,qx ..,qx ..⟩
end
section
def cW (k a:Int):Bool:=if a=1 then k==1 || k==2 || k==3 || k==10 else if a=2 then k==1 else if a=4 then k==4 else if a=8 then k==2 || k==3 || k==4 || k==11 else false
def bG (N:WM) (r:Int) (t:Th) (a:Int) (v:Val):Val × Int × Option (Int × Th) :=
 if bD t.kind=false then (nilV,80,none)
 else if cW t.kind a=false then (nilV,6,none)
 else if a=1 then ((dI t v).1,(dI t v).2,none)
 else if a=2 then (nilV,0,some (r,{ t with v:=v }))
 else if a=4 then bK r t v
 else if t.kind=3 then (nilV,cY r t v)
 else if t.kind=11 then (nilV,hJ t.tgt (at7 N t.tgt) v)
 else (nilV,fk r t v)
def dw (N:WM) (r a:Int) (v:Val):Val × Int × Option (Int × Th) :=
 if cS a=false then (nilV,2,none)
 else if ay v=false then (nilV,2,none)
 else match N.at r with
 | none=>(nilV,5,none)
 | some t=>if knownB N v=false then (nilV,5,none)else bG N r t a v
theorem ThLike.refl (t:Th):ThLike t t:=⟨t.vl,t.vals,rfl⟩
theorem ThLike.trans {a b c:Th} (h:ThLike a b) (h':ThLike b c):ThLike a c:=by
 obtain⟨_,_,rfl⟩:=h;obtain⟨_,_,rfl⟩:=h';exact⟨_,_,rfl⟩
theorem ThLike.symm {a b:Th} (h:ThLike a b):ThLike b a:=by
 obtain⟨_,_,rfl⟩:=h;exact⟨a.vl,a.vals,rfl⟩
def zj:Option (Int × Th)->Option (Int × Th)->Prop
 | none,none=>True
 | some a,some b=>a.1=b.1/\ThLike a.2 b.2
 | _,_=>False
def RLike (x y:Val × Int × Option (Int × Th)):Prop:=y.1=x.1/\y.2.1=x.2.1/\zj x.2.2 y.2.2
theorem RLike.same {v:Val} {c:Int}:RLike (v,c,none) (v,c,none):=⟨rfl,rfl,trivial⟩
theorem tQ {M N:WM} (h:Alike M N) (r:Int):ThLike (at7 M r) (at7 N r):=by
 obtain⟨h1,h2⟩:=bO h.things r;unfold at7
 cases hm:M.at r with
 | none =>
   have:N.at r=none:=h1 hm;rw [this];exact ThLike.refl _
 | some t =>
   obtain⟨t',ht,hl⟩:=h2 t hm;have:N.at r=some t':=ht;rw [this];exact hl
theorem sj {M N:WM} (h:Alike M N) (r:Int) {t t':Th} (ht:ThLike t t') (a:Int) (v:Val):RLike (bG M r t a v) (bG N r t' a v):=by
 obtain⟨vl,vals,rfl⟩:=ht;obtain⟨pl,pvals,hp⟩:=tQ h t.tgt;unfold bG
 by_cases h1:bD t.kind=false
 ·rw [if_pos h1,if_pos h1];exact RLike.same
 rw [if_neg h1,if_neg h1]
 by_cases h2:cW t.kind a=false
 ·rw [if_pos h2,if_pos h2];exact RLike.same
 rw [if_neg h2,if_neg h2]
 by_cases h3:a=1
 ·rw [if_pos h3,if_pos h3];exact RLike.same
 rw [if_neg h3,if_neg h3]
 by_cases h4:a=2
 ·rw [if_pos h4,if_pos h4];exact⟨rfl,rfl,rfl,_,_,rfl⟩
 rw [if_neg h4,if_neg h4]
 by_cases h5:a=4
 ·rw [if_pos h5,if_pos h5];unfold bK
  by_cases h6:v.kind≠1\/v.n<0
  ·rw [if_pos h6,if_pos h6];exact RLike.same
  rw [if_neg h6,if_neg h6]
  by_cases h7:(t.vs.length:Int)<v.n
  ·rw [if_pos h7,if_pos h7];exact RLike.same
  rw [if_neg h7,if_neg h7];exact⟨rfl,rfl,rfl,_,_,rfl⟩
 rw [if_neg h5,if_neg h5]
 by_cases h6:t.kind=3
 ·rw [if_pos h6,if_pos h6];unfold cY
  by_cases h7:v.kind≠1\/v.n<0
  ·rw [if_pos h7,if_pos h7];exact RLike.same
  rw [if_neg h7,if_neg h7]
  by_cases h8:9007199254740992 - t.n<v.n
  ·rw [if_pos h8,if_pos h8];exact RLike.same
  rw [if_neg h8,if_neg h8];exact⟨rfl,rfl,rfl,_,_,rfl⟩
 rw [if_neg h6,if_neg h6]
 by_cases h7:t.kind=11
 ·rw [if_pos h7,if_pos h7];have e:at7 N { t with vl:=vl,vals:=vals }.tgt = { at7 M t.tgt with vl:=pl,vals:=pvals }:=hp
  rw [e];unfold hJ
  by_cases h8:(at7 M t.tgt).full=true
  ·rw [if_pos h8,if_pos h8];exact RLike.same
  rw [if_neg h8,if_neg h8];exact⟨rfl,rfl,rfl,_,_,rfl⟩
 rw [if_neg h7,if_neg h7];unfold fk
 by_cases h8:ay (aJ (t.vs ++ [v]))=true
 ·rw [if_pos h8,if_pos h8];exact⟨rfl,rfl,rfl,_,_,rfl⟩
 rw [if_neg h8,if_neg h8];exact RLike.same
theorem mL {M N:WM} (h:Alike M N) (r a:Int) (v:Val):RLike (dw M r a v) (dw N r a v):=by
 obtain⟨h1,h2⟩:=bO h.things r;unfold dw
 by_cases ha:cS a=false
 ·rw [if_pos ha,if_pos ha];exact RLike.same
 rw [if_neg ha,if_neg ha]
 by_cases hv:ay v=false
 ·rw [if_pos hv,if_pos hv];exact RLike.same
 rw [if_neg hv,if_neg hv,h.known]
 cases hm:M.at r with
 | none =>
   have:N.at r=none:=h1 hm;rw [this];exact RLike.same
 | some t =>
   obtain⟨t',ht,hl⟩:=h2 t hm;have:N.at r=some t':=ht;rw [this];show RLike (if knownB M v=false then _ else _) (if knownB M v=false then _ else _)
   by_cases hk:knownB M v=false
   ·rw [if_pos hk,if_pos hk];exact RLike.same
   rw [if_neg hk,if_neg hk];exact sj h r hl a v
theorem PlT.kind {M:WM} {t:Th} (ht:PlT M t):t.kind=8\/bD t.kind=true:=by
 cases ht with
 | cell x v raw h1 h2 h3 h4=>exact .inr rfl
 | list k x vs vals h0 h1 h2 h3=>rcases h0 with rfl | rfl <;> exact .inr rfl
 | tally x n h1 h2=>exact .inr rfl
 | prom x v raw fu h1 h2 h3 h4 h5=>exact .inr rfl
 | keep x tg h1 h2 h3=>exact .inr rfl
 | mint x=>exact .inl rfl
theorem jp:∀ (n:Nat) (v:Val) (x:Int),x ∈ aN n v->x ∈ aN (n+1) v
 | 0,v,x,h=>by
   unfold aN at h ⊢;exact List.mem_append.2 (.inl h)
 | n+1,v,x,h=>by
   unfold aN at h ⊢
   rcases List.mem_append.1 h with h | h
   ·exact List.mem_append.2 (.inl h)
   ·obtain⟨y,hy,hx⟩:=List.mem_flatMap.1 h;exact List.mem_append.2 (.inr (List.mem_flatMap.2 ⟨y,hy,jp n y x hx⟩))
theorem pA {M:WM} {v:Val} (hm:ay v=true) (hk:knownB M v=true):∀ x ∈ aN 15 v,(M.at x).isSome=true:=fun x hx=>by
 unfold knownB at hk;rw [refsV_of hm,List.all_eq_true]at hk;exact hk x (jp 15 v x hx)
theorem iU {M:WM} {vs:List Val} (h:∀ x ∈ vs,ay x=true/\x.wf/\knownB M x=true):∀ x ∈ vs.flatMap (aN 15),(M.at x).isSome=true:=fun x hx=>by
 obtain⟨y,hy,hx⟩:=List.mem_flatMap.1 hx;exact pA (h y hy).1 (h y hy).2.2 x hx
theorem pq {M:WM} {vs:List Val} (hm:ay (aJ vs)=true) (h:∀ x ∈ vs,ay x=true/\x.wf/\knownB M x=true):knownB M (aJ vs)=true:=by
 unfold knownB;rw [dl hm,List.all_eq_true];exact iU h
theorem iG {vs:List Val} (hm:ay (aJ vs)=true):vs.length≤511:=((dz vs).1 hm).1
theorem mx {vs:List Val} (hl:vs.length≤1024) (h:∀ x ∈ vs,x.wf):(aJ vs).wf :=
 .mk _ _ _ _ _ ⟨by decide,by decide⟩ (by simp [maxLen];omega) h ⟨rfl,rfl⟩
theorem rW {M:WM} {k h:Int} {vs:List Val} {vals:Value} (h3:∀ x ∈ vs,ay x=true/\x.wf/\knownB M x=true):∀ r ∈ bk (qT k h vs vals),(Lit.int .i64 r).wf=true/\(M.at r).isSome=true:=fun r hr=>by
 have e:bk (qT k h vs vals)=vs.flatMap aM:=by
  unfold bk;rw [show aM (qT k h vs vals).v = []from(aZ 0 0 (.inl ⟨rfl,rfl⟩)).1];rfl
 rw [e]at hr;obtain⟨y,hy,hr⟩:=List.mem_flatMap.1 hr;exact gA (h3 y hy).2.1 (h3 y hy).2.2 r hr
end
end Go.Proofs.YthaliljaglldjaaGreat
