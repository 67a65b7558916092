/- Part of the proof. -/
import Derived.Test.YthaliljaglldjaaGreatmAF
import Derived.StillTailTactics
import Derived.BigRegion
namespace Go.Proofs.YthaliljaglldjaaGreat
set_option maxHeartbeats 16000000
set_option maxRecDepth 20000
open Go.RowKit Go.ChangeMaps Go.MapKept
section
def aJ (l:List Val):Val:=⟨3,0,⟨#[]⟩,l,0⟩
def rD (l:List Val):Int:=if l.all ay then (if ay (aJ l)then 0 else 4)else 2
theorem vF {w:World} {F:Nat->Prop} (v:Val) (raw:Value) (hS:SlAt w F raw v.l):Calls Tryz.prog 261 #[.agg (au v raw)] w fun e w'=>e=.returned (.bool (!ay v))/\Bl w w':=by
 obtain⟨pa,c,rfl⟩:=hS.form;obtain⟨kind,nn,s,l,r⟩:=v;have hb1:Bl w (w.alloc (.cells (V_ kind nn s (.slice pa l.length c) r) 27)):=br.alloc aH _;have hm:=dF (v:=⟨kind,nn,s,l,r⟩) (raw:=.slice pa l.length c) (hS.on hb1);have HM:Hid _:=hm;have HB1:Hid _:=hb1;clear hm hS hb1;simp only [au]
 cases hmv:ay ⟨kind,nn,s,l,r⟩with
 | false =>
   rw [hmv]at HM;clear hmv
   go_enter Tryz.func261,Tryz.ntmps261
   go_wp2_with fail
   refine Calls.mono HM.out ?_;rintro e w2 ⟨rfl,hb⟩;have HB:Hid (Bl w w2):=HB1.out.trans (hb.mono HB1.out.size);clear hb
   go_wp2_with fail
   go_ret
   exact⟨rfl,HB.out⟩
 | true =>
   rw [hmv]at HM;clear hmv
   go_enter Tryz.func261,Tryz.ntmps261
   go_wp2_with fail
   refine Calls.mono HM.out ?_;rintro e w2 ⟨rfl,hb⟩;have HB:Hid (Bl w w2):=HB1.out.trans (hb.mono HB1.out.size);clear hb
   go_wp2_with fail
   go_ret
   exact⟨rfl,HB.out⟩
theorem kA:bX 15 27 14 bp:=fun _ _ _ _ _=>rfl
attribute [local go_sem ↓] kA in
theorem kc {w:World} {F:Nat->Prop} (l:List Val) (s:Value) (hS:SlAt w F s l) (hmax:(l.length:Int)≤1099511627776):Calls Tryz.prog 260 #[s,.func (.func 261) #[] #[]] w fun e w'=>e=.returned (.bool (!l.all ay))/\Bl w w':=by
 obtain⟨pa,c,rfl⟩:=hS.form;have HS:Hid (SlAt w F (.slice pa l.length c) l):=hS;have Hmax:Hid ((l.length:Int)≤1099511627776):=hmax;clear hS hmax
 have hi:Calls Tryz.prog 291 #[.slice pa l.length c,.func (.func 261) #[] #[]] w fun e w'=>(∃ i:Int,e=.returned (J i)/\(decide (i ≥ 0) = !l.all ay))/\Bl w w':=by
  go_enter Tryz.func291,Tryz.ntmps291
  go_wp2_with fail
  go_loopw [8] (fun vi wr=>∃ k:Nat,vi=J k/\k≤l.length/\Hid (Bl w wr/\∀ x ∈ l.take k,ay x=true)) (fun vi _=>l.length - (intOf vi).toNat)
  case atStart=>exact⟨0,rfl,Nat.zero_le _,br,fun x hx=>by simp at hx⟩
  case round =>
   obtain⟨k,rfl,hk,HI⟩:=hrel
   by_cases hkl:k<l.length
   ·have hkz:(k:Int)<(l.length:Int):=by omega
    obtain⟨x,hx⟩:∃ x,l[k]? = some x:=⟨_,List.getElem?_eq_getElem hkl⟩;obtain⟨b,o,c',raw,hpe,hrg,-,-,hSx⟩:=(HS.out.on HI.out.1).range hx
    cases hpe
    obtain⟨xk,xn,xs,xl,xr⟩:=x;obtain⟨pa2,c2,rfl⟩:=hSx.form;have hld0:=aY hrg rfl;have hld:(bp (R_ b (o+k * 5))).run Tryz.prog wr=.ok (.value (.agg (V_ xk xn xs (.slice pa2 xl.length c2) xr))) wr:=hld0;have HC:Hid _:=vF ⟨xk,xn,xs,xl,xr⟩ (.slice pa2 xl.length c2) hSx;have Htk:Hid (l.take (k+1)=l.take k ++ [⟨xk,xn,xs,xl,xr⟩]):=by show _=_;rw [List.take_add_one,hx];rfl
    have Hmem:Hid ((⟨xk,xn,xs,xl,xr⟩:Val) ∈ l):=List.mem_of_getElem? hx;have hwk:wrap64 ((k:Int)+1)=(k:Int)+1:=by have:=Hmax.out;unfold wrap64;omega
    clear hld0 hx hrg hSx
    cases hmv:ay ⟨xk,xn,xs,xl,xr⟩with
    | true =>
      have Hmv:Hid (ay ⟨xk,xn,xs,xl,xr⟩=true):=hmv;rw [hmv]at HC;clear hmv
      go_wp2_with fail
      refine Calls.mono HC.out ?_;rintro e w2 ⟨rfl,hb⟩
      have HI':Hid (Bl w w2/\∀ x ∈ l.take (k+1),ay x=true):=by
       refine⟨HI.out.1.trans (hb.mono HI.out.1.size),fun x hx=>?_⟩;rw [Htk.out]at hx
       rcases List.mem_append.1 hx with hx | hx
       ·exact HI.out.2 x hx
       ·simp at hx;subst hx;exact Hmv.out
      clear hb HC hld
      go_wp2_with fail
      go_roundw
      case rel=>exact⟨k+1,by go_num,by omega,HI'⟩
      case measure=>rw [hwk];simp [intOf];omega
    | false =>
      have Hmv:Hid (ay ⟨xk,xn,xs,xl,xr⟩=false):=hmv;rw [hmv]at HC;clear hmv
      go_wp2_with fail
      refine Calls.mono HC.out ?_;rintro e w2 ⟨rfl,hb⟩;have HB:Hid (Bl w w2):=HI.out.1.trans (hb.mono HI.out.1.size);clear hb HC hld
      go_wp2_with fail
      go_ret
      refine⟨⟨_,rfl,?_⟩,HB.out⟩
      have h1:l.all ay=false:=by
       rw [List.all_eq_false];exact⟨_,Hmem.out,by simp [Hmv.out]⟩
      rw [h1];simp
   ·have hkz:¬ (k:Int)<(l.length:Int):=by omega
    obtain rfl:k=l.length:=by omega
    go_wp2_with fail
    go_ret
    refine⟨⟨-1,rfl,?_⟩,HI.out.1⟩
    have h1:l.all ay=true:=by
     rw [List.all_eq_true];have:=HI.out.2
     rwa [List.take_length]at this
    rw [h1];rfl
 have HI:Hid _:=hi;clear hi
 go_enter Tryz.func260,Tryz.ntmps260
 go_wp2_with fail
 refine Calls.mono HI.out ?_;rintro e w2 ⟨⟨i,rfl,hi⟩,hb⟩
 by_cases h0:i ≥ 0
 ·rw [decide_eq_true h0]at hi;have Hi:Hid _:=hi;have HB:Hid _:=hb;clear hi hb
  go_wp2_with fail
  go_ret
  exact⟨by rw [<- Hi.out];rfl,HB.out⟩
 ·rw [decide_eq_false h0]at hi;have Hi:Hid _:=hi;have HB:Hid _:=hb;clear hi hb
  go_wp2_with fail
  go_ret
  exact⟨by rw [<- Hi.out];show Ending.returned (.bool (decide (0≤i)))=_;rw [decide_eq_false (by omega)],HB.out⟩
theorem xm {w:World} {F:Nat->Prop} (l:List Val) (s:Value) (hS:SlAt w F s l) (hmax:(l.length:Int)≤1099511627776):Calls Tryz.prog 227 #[s] w fun e w'=>e=.returned (.bool (l.all ay))/\Bl w w':=by
 have HC:Hid _:=kc l s hS hmax;obtain⟨pa,c,rfl⟩:=hS.form;clear hS hmax
 cases hb:l.all ay with
 | true =>
   rw [hb]at HC;clear hb
   go_enter Tryz.func227,Tryz.ntmps227
   go_wp2_with fail
   refine Calls.mono HC.out ?_;rintro e w2 ⟨rfl,hb⟩
   go_wp2_with fail
   go_ret
   exact⟨rfl,hb⟩
 | false =>
   rw [hb]at HC;clear hb
   go_enter Tryz.func227,Tryz.ntmps227
   go_wp2_with fail
   refine Calls.mono HC.out ?_;rintro e w2 ⟨rfl,hb⟩
   go_wp2_with fail
   go_ret
   exact⟨rfl,hb⟩
def xL (w:World) (l:List Val) (e:Ending) (w':World):Prop :=
 Bl w w'/\((rD l=0/\∃ raw',e=.returned (.tuple #[.agg (au (aJ l) raw'),J 0])/\SlT w' (fun b=>w.heap.size≤b) raw' l)\/(rD l≠0/\e=.returned (.tuple #[.agg zV,J (rD l)])))
theorem kq:ff 27 2 16 bZ:=fun _ _ _ _ _=>rfl
theorem mi:ff 27 2 8 bZ:=fun _ _ _ _ _=>rfl
theorem kE:ff 27 2 14 bZ:=fun _ _ _ _ _=>rfl
theorem fl (w:World) (b:Nat) (v:Value) (n:Int) (ts:Array Value) {x0 x1 x2 x3 x4:Value} (h:w.heap[b]? = some (.cells #[x0,x1,x2,x3,x4] 27 (0,0))) (h2:ts[2]? = some (.pointer (some ⟨b,0,none⟩))) (h3:ts[3]? = some (.int .i64 n)) (hv:v=.agg #[x0,x1,x2,x3,x4]) :
 (results Tryz.f162 ts).run Tryz.prog w=.ok (.tuple #[v,J n]) w:=by
 obtain⟨⟨c0,c1,c2,c3,c4⟩,-⟩:=ax h;simp [results,Tryz.results162,go_sem,c0,c1,c2,c3,c4,h2,h3,hv]
attribute [local go_sem ↓] kq mi kE in
theorem yX {w:World} {F:Nat->Prop} (l:List Val) (s:Value) (hS:SlAt w F s l) (hmax:(l.length:Int)≤1099511627776):Calls Tryz.prog 162 #[s] w (xL w l):=by
 obtain⟨pa,c,rfl⟩:=hS.form;have HS:Hid (SlAt w F (.slice pa l.length c) l):=hS;have hb1:Bl w (w.alloc (.cells zV 27)):=br.alloc aH _;have HA:Hid _:=xm l _ (hS.on hb1) hmax;have HB1:Hid (Bl w (w.alloc (.cells zV 27))/\(w.alloc (.cells zV 27)).heap[w.heap.size]? = some (.cells zV 27 (0,0))):=⟨hb1,ai _ _⟩;clear hS hb1 hmax;simp only [zV]at HA HB1
 cases ha:l.all ay with
 | false =>
   rw [ha]at HA;have HE:Hid (rD l=2):=by show _=_;unfold rD;rw [ha];rfl
   clear ha
   go_enter Tryz.func162,Tryz.ntmps162
   go_wp2_with fail
   refine Calls.mono HA.out ?_;rintro e w2 ⟨rfl,hb⟩;have hg:=ae hb HB1.out.2;have HB:Hid (Bl w w2):=HB1.out.1.trans (hb.mono HB1.out.1.size);have hst:=az (c':=#[U 0,J 0,T_,S_,J 0]) hg rfl rfl (by simp [go_sem]);have Hg:Hid _:=ah (c':=#[U 0,J 0,T_,S_,J 0]) hg;clear hb hg
   go_wp2_with fail
   refine bodyPost_ret (fl _ _ _ _ _ Hg.out rfl rfl rfl) rfl ⟨Below.setRow HB.out aH _,.inr ⟨by rw [HE.out];decide,by rw [HE.out];rfl⟩⟩
 | true =>
   have Ha:Hid (l.all ay=true):=ha;rw [ha]at HA;clear ha
   go_enter Tryz.func162,Tryz.ntmps162
   go_wp2_with fail
   refine Calls.mono HA.out ?_;rintro e w2 ⟨rfl,hb⟩;have hg:=ae hb HB1.out.2;have HB:Hid (Bl w w2):=HB1.out.1.trans (hb.mono HB1.out.1.size);have Hg:Hid _:=hg;clear hb hg HB1
   go_wp2_with fail
   have hb3:Bl w2 (w2.alloc (.cells (V_ 3 0 ⟨#[]⟩ (.slice pa l.length c) 0) 27)):=br.alloc aH _;have hg3:=ai w2 (.cells (V_ 3 0 ⟨#[]⟩ (.slice pa l.length c) 0) 27);have hm:=dF (v:=aJ l) (raw:=.slice pa l.length c) ((HS.out.on HB.out).on hb3);have HG:Hid _:=ae hb3 Hg.out;have HB3:Hid _:=HB.out.trans (hb3.mono HB.out.size);have HG3:Hid _:=hg3
   cases hmv:ay (aJ l)with
   | false =>
     rw [hmv]at hm;have HE:Hid (rD l=4):=by show _=_;unfold rD;rw [Ha.out,hmv];rfl
     clear hmv hb3 hg3 Hg;refine hm.mono ?_;rintro e w4 ⟨rfl,hb⟩;have hg:=ae hb HG.out;have HB4:Hid (Bl w w4):=HB3.out.trans (hb.mono HB3.out.size);have hst:=az (c':=#[U 0,J 0,T_,S_,J 0]) hg rfl rfl (by simp [go_sem]);have Hg:Hid _:=ah (c':=#[U 0,J 0,T_,S_,J 0]) hg;clear hb hg hm HG HB3 HG3
     go_wp2_with fail
     refine bodyPost_ret (fl _ _ _ _ _ Hg.out rfl rfl rfl) rfl ⟨Below.setRow HB4.out aH _,.inr ⟨by rw [HE.out];decide,by rw [HE.out];rfl⟩⟩
   | true =>
     rw [hmv]at hm
     have HE:Hid (rD l=0/\ay (aJ l)=true):=by
      refine⟨?_,hmv⟩;unfold rD;rw [Ha.out,hmv];rfl
     clear hmv hb3 hg3 Hg;refine hm.mono ?_;rintro e w4 ⟨rfl,hb⟩;have HB4:Hid (Bl w w4):=HB3.out.trans (hb.mono HB3.out.size);obtain⟨⟨k0,k1,k2,k3,k4⟩,-⟩:=ax (ae hb HG3.out);have HG4:Hid _:=ae hb HG.out;clear hb hm HG HB3 HG3
     go_wp2_with fail
     refine(wR 16 (aJ l) (.slice pa l.length c) w4 F (bA HE.out.2) (HS.out.on HB4.out)).mono ?_;rintro e w5 ⟨raw',rfl,hb5,hs5,-⟩;obtain⟨pr,cr,hform⟩:=hs5.form;obtain rfl:raw'=.slice pr l.length cr:=hform;have hg:=ae hb5 HG4.out;have hst:(bZ (P_ w.heap.size) (.agg (au (aJ l) (.slice pr l.length cr)))).run Tryz.prog w5=_:=az (c':=#[U 3,J 0,T_,.slice pr l.length cr,J 0]) hg rfl rfl (by simp [go_sem]);have Hg:Hid _:=ah (c':=#[U 3,J 0,T_,.slice pr l.length cr,J 0]) hg;have HB5:Hid (Bl w w5):=HB4.out.trans (hb5.mono HB4.out.size);have hw4:w.heap.size<w4.heap.size:=aw HG4.out
     have HS5:Hid (SlT (w5.setRow w.heap.size (V_ 3 0 ⟨#[]⟩ (.slice pr l.length cr) 0)) (fun b=>w.heap.size≤b) (.slice pr l.length cr) l):=by
      refine SlT.of_blocks hs5 (Lists.of fun b hb=>aj _ _ _ _ (by have:w4.heap.size≤b:=hb;omega)) (fun b hb=>by have:w4.heap.size≤b:=hb;show w.heap.size≤b;omega)
     clear hg hb5 hs5 HG4 k0 k1 k2 k3 k4 hw4
     go_wp2_with fail
     refine bodyPost_ret (fl _ _ _ _ _ Hg.out rfl rfl rfl) rfl ⟨Below.setRow HB5.out aH _,.inl ⟨HE.out.1,_,rfl,HS5.out⟩⟩
end
section
theorem tJ (w:World) (h vn vr n l tg bi vk s:Int) (vs:ByteArray) (fu:Bool) (a1 a2 a3 a4:Option Addr) (n1 c1 n2 c2 n3 c3 n4 c4:Nat) :
 Calls Tryz.prog 159 #[.agg #[U 1,J h,U vk,J vn,.string vs,.slice a1 n1 c1,J vr,.slice a2 n2 c2,J n,J l,J tg,J bi,U s,.bool fu,.slice a3 n3 c3,.slice a4 n4 c4]] w fun e w'=>e=.returned (.agg (X_ 1 h vk vn vs (.slice a1 n1 c1) vr (S_) 0 0 0 0 0 false))/\Below w.heap.size w w':=by
 go_enter Tryz.func159,Tryz.ntmps159
 go_wp2
 refine bodyPost_ret (bz rfl _ _ _ _ _ rfl (eN _ _ _ _ rfl) rfl) rfl ⟨rfl,by go_grown⟩
theorem tY (w:World) (h vn vr n l tg bi vk s:Int) (vs:ByteArray) (fu:Bool) (a1 a2 a3 a4:Option Addr) (n1 c1 n2 c2 n3 c3 n4 c4:Nat) :
 Calls Tryz.prog 159 #[.agg #[U 2,J h,U vk,J vn,.string vs,.slice a1 n1 c1,J vr,.slice a2 n2 c2,J n,J l,J tg,J bi,U s,.bool fu,.slice a3 n3 c3,.slice a4 n4 c4]] w fun e w'=>e=.returned (.agg (X_ 2 h 0 0 ⟨#[]⟩ (S_) 0 (.slice a2 n2 c2) 0 0 0 0 0 false))/\Below w.heap.size w w':=by
 go_enter Tryz.func159,Tryz.ntmps159
 go_wp2
 refine bodyPost_ret (bz rfl _ _ _ _ _ rfl (eN _ _ _ _ rfl) rfl) rfl ⟨rfl,by go_grown⟩
theorem ye (w:World) (h vn vr n l tg bi vk s:Int) (vs:ByteArray) (fu:Bool) (a1 a2 a3 a4:Option Addr) (n1 c1 n2 c2 n3 c3 n4 c4:Nat) :
 Calls Tryz.prog 159 #[.agg #[U 3,J h,U vk,J vn,.string vs,.slice a1 n1 c1,J vr,.slice a2 n2 c2,J n,J l,J tg,J bi,U s,.bool fu,.slice a3 n3 c3,.slice a4 n4 c4]] w fun e w'=>e=.returned (.agg (wr 3 h 0 0 n 0 0 0 0 false))/\Below w.heap.size w w':=by
 go_enter Tryz.func159,Tryz.ntmps159
 go_wp2
 refine bodyPost_ret (bz rfl _ _ _ _ _ rfl (eN _ _ _ _ rfl) rfl) rfl ⟨rfl,by go_grown⟩
theorem tM (w:World) (h vn vr n l tg bi vk s:Int) (vs:ByteArray) (fu:Bool) (a1 a2 a3 a4:Option Addr) (n1 c1 n2 c2 n3 c3 n4 c4:Nat) :
 Calls Tryz.prog 159 #[.agg #[U 4,J h,U vk,J vn,.string vs,.slice a1 n1 c1,J vr,.slice a2 n2 c2,J n,J l,J tg,J bi,U s,.bool fu,.slice a3 n3 c3,.slice a4 n4 c4]] w fun e w'=>e=.returned (.agg (X_ 4 h 0 0 ⟨#[]⟩ (S_) 0 (.slice a2 n2 c2) 0 0 0 0 0 false))/\Below w.heap.size w w':=by
 go_enter Tryz.func159,Tryz.ntmps159
 go_wp2
 refine bodyPost_ret (bz rfl _ _ _ _ _ rfl (eN _ _ _ _ rfl) rfl) rfl ⟨rfl,by go_grown⟩
theorem xF (w:World) (h vn vr n l tg bi vk s:Int) (vs:ByteArray) (fu:Bool) (a1 a2 a3 a4:Option Addr) (n1 c1 n2 c2 n3 c3 n4 c4:Nat) :
 Calls Tryz.prog 159 #[.agg #[U 8,J h,U vk,J vn,.string vs,.slice a1 n1 c1,J vr,.slice a2 n2 c2,J n,J l,J tg,J bi,U s,.bool fu,.slice a3 n3 c3,.slice a4 n4 c4]] w fun e w'=>e=.returned (.agg (wr 8 h 0 0 n l 0 0 0 false))/\Below w.heap.size w w':=by
 go_enter Tryz.func159,Tryz.ntmps159
 go_wp2
 go_region
 all_goals go_wp2
 all_goals refine bodyPost_ret (bz rfl _ _ _ _ _ rfl (mP _ _ _ _ rfl) rfl) rfl ⟨rfl,by go_grown⟩
theorem lr (w:World) (h vn vr n l tg bi vk s:Int) (vs:ByteArray) (fu:Bool) (a1 a2 a3 a4:Option Addr) (n1 c1 n2 c2 n3 c3 n4 c4:Nat) :
 Calls Tryz.prog 159 #[.agg #[U 10,J h,U vk,J vn,.string vs,.slice a1 n1 c1,J vr,.slice a2 n2 c2,J n,J l,J tg,J bi,U s,.bool fu,.slice a3 n3 c3,.slice a4 n4 c4]] w fun e w'=>e=.returned (.agg (X_ 10 h vk vn vs (.slice a1 n1 c1) vr (S_) 0 0 0 0 0 fu))/\Below w.heap.size w w':=by
 go_enter Tryz.func159,Tryz.ntmps159
 go_wp2
 go_region
 all_goals go_wp2
 all_goals refine bodyPost_ret (bz rfl _ _ _ _ _ rfl (mP _ _ _ _ rfl) rfl) rfl ⟨rfl,by go_grown⟩
theorem vX (w:World) (h vn vr n l tg bi vk s:Int) (vs:ByteArray) (fu:Bool) (a1 a2 a3 a4:Option Addr) (n1 c1 n2 c2 n3 c3 n4 c4:Nat) :
 Calls Tryz.prog 159 #[.agg #[U 11,J h,U vk,J vn,.string vs,.slice a1 n1 c1,J vr,.slice a2 n2 c2,J n,J l,J tg,J bi,U s,.bool fu,.slice a3 n3 c3,.slice a4 n4 c4]] w fun e w'=>e=.returned (.agg (wr 11 h 0 0 0 0 tg 0 0 false))/\Below w.heap.size w w':=by
 go_enter Tryz.func159,Tryz.ntmps159
 go_wp2
 refine bodyPost_ret (bz rfl _ _ _ _ _ rfl (eN _ _ _ _ rfl) rfl) rfl ⟨rfl,by go_grown⟩
end
section
variable {w:World} {p:Nat} {M:WM} {F:Nat->Prop}
def cn (vk vn:Int) (s:ByteArray) (n:Nat) (r:Int):Bool:=vk==0 && (vn==0 && (s == ⟨#[]⟩ && (n==0 && r==0)))
theorem pU (w:World) (vk vn:Int) (s:ByteArray) (pa:Option Addr) (n c:Nat) (r:Int):Calls Tryz.prog 160 #[.agg (V_ vk vn s (.slice pa n c) r)] w fun e w'=>e=.returned (.bool (cn vk vn s n r))/\Below w.heap.size w w':=by
 by_cases q0:vk=0
 rotate_left
 ·have q0':(vk==0)=false:=by simpa using q0
  have hb:cn vk vn s n r=false:=by simp [cn,q0']
  rw [hb];clear hb q0
  go_enter Tryz.func160,Tryz.ntmps160
  go_wp2
  go_ret
  exact⟨rfl,by go_grown⟩
 subst q0
 by_cases q1:vn=0
 rotate_left
 ·have q1':(vn==0)=false:=by simpa using q1
  have hb:cn 0 vn s n r=false:=by simp [cn,q1']
  rw [hb];clear hb q1
  go_enter Tryz.func160,Tryz.ntmps160
  go_wp2
  go_ret
  exact⟨rfl,by go_grown⟩
 subst q1
 by_cases q2:s=⟨#[]⟩
 rotate_left
 ·have q2':(s == ⟨#[]⟩)=false:=by
   cases h:s == ⟨#[]⟩with
   | true=>exact absurd ((Go.MapKept.bytes_beq _ _).1 h) q2
   | false=>rfl
  have hb:cn 0 0 s n r=false:=by simp [cn,q2']
  rw [hb]
  have q2l:¬ s.toList = []:=fun h=>q2 (by
   rw [ByteArray.toList_eq]at h;obtain⟨⟨d⟩⟩:=s;simp only at h
   rw [h])
  clear hb q2
  go_enter Tryz.func160,Tryz.ntmps160
  go_wp2
  go_ret
  exact⟨rfl,by go_grown⟩
 subst q2
 by_cases q3:n=0
 rotate_left
 ·have q3':((n:Int)==0)=false:=by
   have:(n:Int)≠0:=by omega
   simpa using this
  have hb:cn 0 0 ⟨#[]⟩ n r=false:=by simp [cn,q3]
  rw [hb];clear hb q3
  go_enter Tryz.func160,Tryz.ntmps160
  go_wp2
  go_ret
  exact⟨rfl,by go_grown⟩
 subst q3
 by_cases q4:r=0
 rotate_left
 ·have q4':(r==0)=false:=by simpa using q4
  have hb:cn 0 0 ⟨#[]⟩ 0 r=false:=by simp [cn,q4']
  rw [hb];clear hb q4
  go_enter Tryz.func160,Tryz.ntmps160
  go_wp2
  go_ret
  exact⟨rfl,by go_grown⟩
 subst q4
 go_enter Tryz.func160,Tryz.ntmps160
 go_wp2
 go_ret
 exact⟨rfl,by go_grown⟩
def iC (w:World) (a:Array Value):Prop:=∀ w',Bl w w'->Calls Tryz.prog 161 #[.agg a] w' fun e w''=>e=.returned (.bool true)/\Bl w' w''
def ez (w:World) (v:Value):Prop:=∀ w',Bl w w'->Calls Tryz.prog 162 #[v] w' fun e w''=>(∃ pr nr cr,e=.returned (.tuple #[.agg (V_ 3 0 ⟨#[]⟩ (.slice pr nr cr) 0),J 0]))/\Bl w' w''
theorem ya {v:Val} {raw:Value} (hS:SlAt w F raw v.l) (hm:ay v=true):iC w (au v raw):=fun w' hb=>by
 have:=dF (hS.on hb) (v:=v)
 rwa [hm]at this
theorem uB:iC w O:=fun w' _=>eb w' 0 0 (.inl ⟨rfl,rfl⟩)
theorem oY:ez w (S_):=fun w' _=>(jc w').mono fun _ _ h=>⟨⟨none,0,0,h.1⟩,h.2⟩
theorem wU {l:List Val} {s:Value} (hS:SlAt w F s l) (hl:l.length≤1024) (ho:rD l=0):ez w s:=fun w' hb=>(yX l s (hS.on hb) (by omega)).mono fun _ _ h=>by
 obtain⟨h1,⟨-,raw',h2,h3⟩ | ⟨h2,-⟩⟩:=h
 ·obtain⟨pr,cr,rfl⟩:=h3.form;exact⟨⟨pr,_,cr,h2⟩,h1⟩
 ·exact absurd ho h2
theorem qU (hW:IsW w p M F) {h:Int} {vk vn vr:Int} {vstr:ByteArray} {pv:Option Addr} {vl cv:Nat} (hs:be M h=true) (hV:iC w (V_ vk vn vstr (.slice pv vl cv) vr)) (hO:ez w (S_)):Calls Tryz.prog 74 #[P_ p,.agg (X_ 1 h vk vn vstr (.slice pv vl cv) vr (S_) 0 0 0 0 0 false)] w fun e w'=>e=.returned (.bool true)/\Below w.heap.size w w':=by
 have HW:Hid (IsW w p M F):=hW;have HV:Hid (iC w (V_ vk vn vstr (.slice pv vl cv) vr)):=hV;have HO:Hid (ez w (S_)):=hO;clear hW hV hO;have Hbl:Hid (∀ w,Calls Tryz.prog 160 #[.agg (V_ vk vn vstr (.slice pv vl cv) vr)] w fun e w'=>e=.returned (.bool (cn vk vn vstr vl vr))/\Below w.heap.size w w'):=fun w=>pU w vk vn vstr pv vl cv vr
 cases hbl:cn vk vn vstr vl vr
 all_goals (rw [hbl]at Hbl;clear hbl)
 ·go_enter Tryz.func74,Tryz.ntmps74
  go_wp2_with fail
  refine(tJ _ h vn vr 0 0 0 0 vk 0 vstr false pv none none none vl cv 0 0 0 0 0 0).mono ?_;rintro e w1 ⟨rfl,hb1⟩;have B1:=ae hb1 (ai _ _);have aa:=aq B1;have hz1:w.heap.size<w1.heap.size:=by have:=hb1.size;simp at this;omega
  have HB1:Hid (Below w.heap.size w w1):=(br.alloc aH _).trans (hb1.mono (by simp;try omega));clear hb1
  go_wp2_with fail
  refine Calls.mono (Hbl.out _) ?_;rintro e w2 ⟨rfl,hb2⟩;have B2:=ae hb2 (aG _ _ B1);clear aa;have aa:=aq B2;have hz2:w.heap.size<w2.heap.size:=by have:=hb2.size;simp at this;omega
  have HB2:Hid (Below w.heap.size w w2):=(HB1.out.alloc (by first | omega | (simp;try omega)) _).trans (hb2.mono (by first | omega | (simp;try omega)));clear hb2 B1 HB1 hz1
  go_wp2_with fail
  refine(cJ (HW.out.below HB2.out) h).mono ?_;rw [hs];rintro e _ ⟨rfl,rfl⟩
  go_wp2_with fail
  refine Calls.mono (HV.out _ HB2.out) ?_;rintro e w3 ⟨rfl,hb3⟩;have B3:=ae hb3 B2;clear aa;have aa:=aq B3;have hz3:w.heap.size<w3.heap.size:=by have:=hb3.size;omega
  have HB3:Hid (Below w.heap.size w w3):=HB2.out.trans (hb3.mono (by first | omega | (simp;try omega)));clear hb3 B2 HB2 hz2
  go_wp2_with fail
  refine Calls.mono (HO.out _ HB3.out) ?_;rintro e w4 ⟨⟨pr,nr,cr,rfl⟩,hb4⟩;have B4:=ae hb4 B3;clear aa;have aa:=aq B4;have hz4:w.heap.size<w4.heap.size:=by have:=hb4.size;omega
  have HB4:Hid (Below w.heap.size w w4):=HB3.out.trans (hb4.mono (by first | omega | (simp;try omega)));clear hb4 B3 HB3 hz3
  go_wp2_with fail
  go_rounds 1
  have hB:=HB4.out;have hZ:w.heap.size≤w4.heap.size:=by omega
  go_ret
  exact⟨rfl,by go_grown⟩
 ·go_enter Tryz.func74,Tryz.ntmps74
  go_wp2_with fail
  refine(tJ _ h vn vr 0 0 0 0 vk 0 vstr false pv none none none vl cv 0 0 0 0 0 0).mono ?_;rintro e w1 ⟨rfl,hb1⟩;have B1:=ae hb1 (ai _ _);have aa:=aq B1;have hz1:w.heap.size<w1.heap.size:=by have:=hb1.size;simp at this;omega
  have HB1:Hid (Below w.heap.size w w1):=(br.alloc aH _).trans (hb1.mono (by simp;try omega));clear hb1
  go_wp2_with fail
  refine Calls.mono (Hbl.out _) ?_;rintro e w2 ⟨rfl,hb2⟩;have B2:=ae hb2 (aG _ _ B1);clear aa;have aa:=aq B2;have hz2:w.heap.size<w2.heap.size:=by have:=hb2.size;simp at this;omega
  have HB2:Hid (Below w.heap.size w w2):=(HB1.out.alloc (by first | omega | (simp;try omega)) _).trans (hb2.mono (by first | omega | (simp;try omega)));clear hb2 B1 HB1 hz1
  go_wp2_with fail
  refine Calls.mono (Hbl.out _) ?_;rintro e w3 ⟨rfl,hb3⟩;have B3:=ae hb3 B2;clear aa;have aa:=aq B3;have hz3:w.heap.size<w3.heap.size:=by have:=hb3.size;omega
  have HB3:Hid (Below w.heap.size w w3):=HB2.out.trans (hb3.mono (by first | omega | (simp;try omega)));clear hb3 B2 HB2 hz2
  go_wp2_with fail
  refine(cJ (HW.out.below HB3.out) h).mono ?_;rw [hs];rintro e _ ⟨rfl,rfl⟩
  go_wp2_with fail
  refine Calls.mono (HV.out _ HB3.out) ?_;rintro e w4 ⟨rfl,hb4⟩;have B4:=ae hb4 B3;clear aa;have aa:=aq B4;have hz4:w.heap.size<w4.heap.size:=by have:=hb4.size;omega
  have HB4:Hid (Below w.heap.size w w4):=HB3.out.trans (hb4.mono (by first | omega | (simp;try omega)));clear hb4 B3 HB3 hz3
  go_wp2_with fail
  refine Calls.mono (HO.out _ HB4.out) ?_;rintro e w5 ⟨⟨pr,nr,cr,rfl⟩,hb5⟩;have B5:=ae hb5 B4;clear aa;have aa:=aq B5;have hz5:w.heap.size<w5.heap.size:=by have:=hb5.size;omega
  have HB5:Hid (Below w.heap.size w w5):=HB4.out.trans (hb5.mono (by first | omega | (simp;try omega)));clear hb5 B4 HB4 hz4
  go_wp2_with fail
  go_rounds 1
  have hB:=HB5.out;have hZ:w.heap.size≤w5.heap.size:=by omega
  go_ret
  exact⟨rfl,by go_grown⟩
theorem uQ (hW:IsW w p M F) {h:Int} {ps:Option Addr} {nl cs:Nat} (hs:be M h=true) (hV:iC w O) (hO:ez w (.slice ps nl cs)):Calls Tryz.prog 74 #[P_ p,.agg (X_ 2 h 0 0 ⟨#[]⟩ (S_) 0 (.slice ps nl cs) 0 0 0 0 0 false)] w fun e w'=>e=.returned (.bool true)/\Below w.heap.size w w':=by
 have HW:Hid (IsW w p M F):=hW;have HV:Hid (iC w O):=hV;have HO:Hid (ez w (.slice ps nl cs)):=hO;clear hW hV hO
 go_enter Tryz.func74,Tryz.ntmps74
 go_wp2_with fail
 refine(tY _ h 0 0 0 0 0 0 0 0 ⟨#[]⟩ false none ps none none 0 0 nl cs 0 0 0 0).mono ?_;rintro e w1 ⟨rfl,hb1⟩;have B1:=ae hb1 (ai _ _);have aa:=aq B1;have hz1:w.heap.size<w1.heap.size:=by have:=hb1.size;simp at this;omega
 have HB1:Hid (Below w.heap.size w w1):=(br.alloc aH _).trans (hb1.mono (by simp;try omega));clear hb1
 go_wp2_with fail
 refine Calls.mono (bE _) ?_;rintro e w2 ⟨rfl,hb2⟩;have B2:=ae hb2 (aG _ _ B1);clear aa;have aa:=aq B2;have hz2:w.heap.size<w2.heap.size:=by have:=hb2.size;simp at this;omega
 have HB2:Hid (Below w.heap.size w w2):=(HB1.out.alloc (by first | omega | (simp;try omega)) _).trans (hb2.mono (by first | omega | (simp;try omega)));clear hb2 B1 HB1 hz1
 go_wp2_with fail
 refine Calls.mono (bE _) ?_;rintro e w3 ⟨rfl,hb3⟩;have B3:=ae hb3 B2;clear aa;have aa:=aq B3;have hz3:w.heap.size<w3.heap.size:=by have:=hb3.size;omega
 have HB3:Hid (Below w.heap.size w w3):=HB2.out.trans (hb3.mono (by first | omega | (simp;try omega)));clear hb3 B2 HB2 hz2
 go_wp2_with fail
 refine(cJ (HW.out.below HB3.out) h).mono ?_;rw [hs];rintro e _ ⟨rfl,rfl⟩
 go_wp2_with fail
 refine Calls.mono (HV.out _ HB3.out) ?_;rintro e w4 ⟨rfl,hb4⟩;have B4:=ae hb4 B3;clear aa;have aa:=aq B4;have hz4:w.heap.size<w4.heap.size:=by have:=hb4.size;omega
 have HB4:Hid (Below w.heap.size w w4):=HB3.out.trans (hb4.mono (by first | omega | (simp;try omega)));clear hb4 B3 HB3 hz3
 go_wp2_with fail
 refine Calls.mono (HO.out _ HB4.out) ?_;rintro e w5 ⟨⟨pr,nr,cr,rfl⟩,hb5⟩;have B5:=ae hb5 B4;clear aa;have aa:=aq B5;have hz5:w.heap.size<w5.heap.size:=by have:=hb5.size;omega
 have HB5:Hid (Below w.heap.size w w5):=HB4.out.trans (hb5.mono (by first | omega | (simp;try omega)));clear hb5 B4 HB4 hz4
 go_wp2_with fail
 go_rounds 1
 have hB:=HB5.out;have hZ:w.heap.size≤w5.heap.size:=by omega
 go_ret
 exact⟨rfl,by go_grown⟩
theorem Az (hW:IsW w p M F) {h:Int} {ps:Option Addr} {nl cs:Nat} (hs:be M h=true) (hV:iC w O) (hO:ez w (.slice ps nl cs)):Calls Tryz.prog 74 #[P_ p,.agg (X_ 4 h 0 0 ⟨#[]⟩ (S_) 0 (.slice ps nl cs) 0 0 0 0 0 false)] w fun e w'=>e=.returned (.bool true)/\Below w.heap.size w w':=by
 have HW:Hid (IsW w p M F):=hW;have HV:Hid (iC w O):=hV;have HO:Hid (ez w (.slice ps nl cs)):=hO;clear hW hV hO
 go_enter Tryz.func74,Tryz.ntmps74
 go_wp2_with fail
 refine(tM _ h 0 0 0 0 0 0 0 0 ⟨#[]⟩ false none ps none none 0 0 nl cs 0 0 0 0).mono ?_;rintro e w1 ⟨rfl,hb1⟩;have B1:=ae hb1 (ai _ _);have aa:=aq B1;have hz1:w.heap.size<w1.heap.size:=by have:=hb1.size;simp at this;omega
 have HB1:Hid (Below w.heap.size w w1):=(br.alloc aH _).trans (hb1.mono (by simp;try omega));clear hb1
 go_wp2_with fail
 refine Calls.mono (bE _) ?_;rintro e w2 ⟨rfl,hb2⟩;have B2:=ae hb2 (aG _ _ B1);clear aa;have aa:=aq B2;have hz2:w.heap.size<w2.heap.size:=by have:=hb2.size;simp at this;omega
 have HB2:Hid (Below w.heap.size w w2):=(HB1.out.alloc (by first | omega | (simp;try omega)) _).trans (hb2.mono (by first | omega | (simp;try omega)));clear hb2 B1 HB1 hz1
 go_wp2_with fail
 refine Calls.mono (bE _) ?_;rintro e w3 ⟨rfl,hb3⟩;have B3:=ae hb3 B2;clear aa;have aa:=aq B3;have hz3:w.heap.size<w3.heap.size:=by have:=hb3.size;omega
 have HB3:Hid (Below w.heap.size w w3):=HB2.out.trans (hb3.mono (by first | omega | (simp;try omega)));clear hb3 B2 HB2 hz2
 go_wp2_with fail
 refine(cJ (HW.out.below HB3.out) h).mono ?_;rw [hs];rintro e _ ⟨rfl,rfl⟩
 go_wp2_with fail
 refine Calls.mono (HV.out _ HB3.out) ?_;rintro e w4 ⟨rfl,hb4⟩;have B4:=ae hb4 B3;clear aa;have aa:=aq B4;have hz4:w.heap.size<w4.heap.size:=by have:=hb4.size;omega
 have HB4:Hid (Below w.heap.size w w4):=HB3.out.trans (hb4.mono (by first | omega | (simp;try omega)));clear hb4 B3 HB3 hz3
 go_wp2_with fail
 refine Calls.mono (HO.out _ HB4.out) ?_;rintro e w5 ⟨⟨pr,nr,cr,rfl⟩,hb5⟩;have B5:=ae hb5 B4;clear aa;have aa:=aq B5;have hz5:w.heap.size<w5.heap.size:=by have:=hb5.size;omega
 have HB5:Hid (Below w.heap.size w w5):=HB4.out.trans (hb5.mono (by first | omega | (simp;try omega)));clear hb5 B4 HB4 hz4
 go_wp2_with fail
 go_rounds 1
 have hB:=HB5.out;have hZ:w.heap.size≤w5.heap.size:=by omega
 go_ret
 exact⟨rfl,by go_grown⟩
theorem tC (hW:IsW w p M F) {h:Int} {vk vn vr:Int} {vstr:ByteArray} {pv:Option Addr} {vl cv:Nat} (hs:be M h=true) (hV:iC w (V_ vk vn vstr (.slice pv vl cv) vr)) (hO:ez w (S_)):Calls Tryz.prog 74 #[P_ p,.agg (X_ 10 h vk vn vstr (.slice pv vl cv) vr (S_) 0 0 0 0 0 true)] w fun e w'=>e=.returned (.bool true)/\Below w.heap.size w w':=by
 have HW:Hid (IsW w p M F):=hW;have HV:Hid (iC w (V_ vk vn vstr (.slice pv vl cv) vr)):=hV;have HO:Hid (ez w (S_)):=hO;clear hW hV hO;have Hbl:Hid (∀ w,Calls Tryz.prog 160 #[.agg (V_ vk vn vstr (.slice pv vl cv) vr)] w fun e w'=>e=.returned (.bool (cn vk vn vstr vl vr))/\Below w.heap.size w w'):=fun w=>pU w vk vn vstr pv vl cv vr
 cases hbl:cn vk vn vstr vl vr
 all_goals (rw [hbl]at Hbl;clear hbl)
 ·go_enter Tryz.func74,Tryz.ntmps74
  go_wp2_with fail
  refine(lr _ h vn vr 0 0 0 0 vk 0 vstr true pv none none none vl cv 0 0 0 0 0 0).mono ?_;rintro e w1 ⟨rfl,hb1⟩;have B1:=ae hb1 (ai _ _);have aa:=aq B1;have hz1:w.heap.size<w1.heap.size:=by have:=hb1.size;simp at this;omega
  have HB1:Hid (Below w.heap.size w w1):=(br.alloc aH _).trans (hb1.mono (by simp;try omega));clear hb1
  go_wp2_with fail
  refine Calls.mono (Hbl.out _) ?_;rintro e w2 ⟨rfl,hb2⟩;have B2:=ae hb2 (aG _ _ B1);clear aa;have aa:=aq B2;have hz2:w.heap.size<w2.heap.size:=by have:=hb2.size;simp at this;omega
  have HB2:Hid (Below w.heap.size w w2):=(HB1.out.alloc (by first | omega | (simp;try omega)) _).trans (hb2.mono (by first | omega | (simp;try omega)));clear hb2 B1 HB1 hz1
  go_wp2_with fail
  refine(cJ (HW.out.below HB2.out) h).mono ?_;rw [hs];rintro e _ ⟨rfl,rfl⟩
  go_wp2_with fail
  refine Calls.mono (HV.out _ HB2.out) ?_;rintro e w3 ⟨rfl,hb3⟩;have B3:=ae hb3 B2;clear aa;have aa:=aq B3;have hz3:w.heap.size<w3.heap.size:=by have:=hb3.size;omega
  have HB3:Hid (Below w.heap.size w w3):=HB2.out.trans (hb3.mono (by first | omega | (simp;try omega)));clear hb3 B2 HB2 hz2
  go_wp2_with fail
  refine Calls.mono (HO.out _ HB3.out) ?_;rintro e w4 ⟨⟨pr,nr,cr,rfl⟩,hb4⟩;have B4:=ae hb4 B3;clear aa;have aa:=aq B4;have hz4:w.heap.size<w4.heap.size:=by have:=hb4.size;omega
  have HB4:Hid (Below w.heap.size w w4):=HB3.out.trans (hb4.mono (by first | omega | (simp;try omega)));clear hb4 B3 HB3 hz3
  go_wp2_with fail
  go_rounds 1
  have hB:=HB4.out;have hZ:w.heap.size≤w4.heap.size:=by omega
  go_ret
  exact⟨rfl,by go_grown⟩
 ·go_enter Tryz.func74,Tryz.ntmps74
  go_wp2_with fail
  refine(lr _ h vn vr 0 0 0 0 vk 0 vstr true pv none none none vl cv 0 0 0 0 0 0).mono ?_;rintro e w1 ⟨rfl,hb1⟩;have B1:=ae hb1 (ai _ _);have aa:=aq B1;have hz1:w.heap.size<w1.heap.size:=by have:=hb1.size;simp at this;omega
  have HB1:Hid (Below w.heap.size w w1):=(br.alloc aH _).trans (hb1.mono (by simp;try omega));clear hb1
  go_wp2_with fail
  refine Calls.mono (Hbl.out _) ?_;rintro e w2 ⟨rfl,hb2⟩;have B2:=ae hb2 (aG _ _ B1);clear aa;have aa:=aq B2;have hz2:w.heap.size<w2.heap.size:=by have:=hb2.size;simp at this;omega
  have HB2:Hid (Below w.heap.size w w2):=(HB1.out.alloc (by first | omega | (simp;try omega)) _).trans (hb2.mono (by first | omega | (simp;try omega)));clear hb2 B1 HB1 hz1
  go_wp2_with fail
  refine Calls.mono (Hbl.out _) ?_;rintro e w3 ⟨rfl,hb3⟩;have B3:=ae hb3 B2;clear aa;have aa:=aq B3;have hz3:w.heap.size<w3.heap.size:=by have:=hb3.size;omega
  have HB3:Hid (Below w.heap.size w w3):=HB2.out.trans (hb3.mono (by first | omega | (simp;try omega)));clear hb3 B2 HB2 hz2
  go_wp2_with fail
  refine(cJ (HW.out.below HB3.out) h).mono ?_;rw [hs];rintro e _ ⟨rfl,rfl⟩
  go_wp2_with fail
  refine Calls.mono (HV.out _ HB3.out) ?_;rintro e w4 ⟨rfl,hb4⟩;have B4:=ae hb4 B3;clear aa;have aa:=aq B4;have hz4:w.heap.size<w4.heap.size:=by have:=hb4.size;omega
  have HB4:Hid (Below w.heap.size w w4):=HB3.out.trans (hb4.mono (by first | omega | (simp;try omega)));clear hb4 B3 HB3 hz3
  go_wp2_with fail
  refine Calls.mono (HO.out _ HB4.out) ?_;rintro e w5 ⟨⟨pr,nr,cr,rfl⟩,hb5⟩;have B5:=ae hb5 B4;clear aa;have aa:=aq B5;have hz5:w.heap.size<w5.heap.size:=by have:=hb5.size;omega
  have HB5:Hid (Below w.heap.size w w5):=HB4.out.trans (hb5.mono (by first | omega | (simp;try omega)));clear hb5 B4 HB4 hz4
  go_wp2_with fail
  go_rounds 1
  have hB:=HB5.out;have hZ:w.heap.size≤w5.heap.size:=by omega
  go_ret
  exact⟨rfl,by go_grown⟩
end
end Go.Proofs.YthaliljaglldjaaGreat
