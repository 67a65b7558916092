/- Part of the proof. -/
import Derived.Test.YthaliljaglldjaaGreatmAY
namespace Go.Proofs.YthaliljaglldjaaGreat
set_option maxHeartbeats 16000000
set_option maxRecDepth 20000
open Go.RowKit Go.ChangeMaps Go.MapKept
section
def jB (n:Nat):Prop:=∀ (p:Nat) (v:Val) (raw:Value) (w:World) (F:Nat->Prop),n≤16->p≤512->v.wf->SlAt w F raw v.l->aP n p v=none ->
 Calls Tryz.prog 270 #[.agg (au v raw),J p,J n] w fun e w'=>e=.returned (J (-1))/\Bl w w'
theorem eG {l:List Val} (h:¬ l.length=0):(l.length:Int) > 0:=by omega
set_option linter.unusedSimpArgs false in
theorem tR (w:World) (P:Nat) (D nn:Int) (s:ByteArray) (l:List Val) (r:Int) (pa:Option Addr) (c:Nat) (hp:¬ (P:Int)<1) (h:dC nn s r l.length=false) :
 Calls Tryz.prog 270 #[.agg (V_ 0 nn s (.slice pa l.length c) r),J P,J D] w fun e w'=>e=.returned (J (-1))/\Bl w w':=by
 by_cases hn:nn=0
 rotate_left
 ·have hb:(nn==0)=false:=by simpa using hn
  clear h
  go_enter Tryz.func270,Tryz.ntmps270
  go_wp2_with fail
  go_ret
  exact⟨rfl,(Below.refl _ w).alloc aH _⟩
 subst hn
 by_cases hs:s=⟨#[]⟩
 rotate_left
 ·have hb:¬ s.toList = []:=cf hs;clear h
  go_enter Tryz.func270,Tryz.ntmps270
  go_wp2_with fail
  go_ret
  exact⟨rfl,(Below.refl _ w).alloc aH _⟩
 subst hs
 by_cases hl:l.length=0
 rotate_left
 ·have hb:(l.length:Int) > 0:=eG hl;clear h
  go_enter Tryz.func270,Tryz.ntmps270
  go_wp2_with fail
  go_ret
  exact⟨rfl,(Below.refl _ w).alloc aH _⟩
 have hl2:¬ (l.length:Int) > 0:=by omega
 by_cases hr:r=0
 rotate_left
 ·have hb:(r==0)=false:=by simpa using hr
  clear h
  go_enter Tryz.func270,Tryz.ntmps270
  go_wp2_with fail
  go_ret
  exact⟨rfl,(Below.refl _ w).alloc aH _⟩
 subst hr;exact absurd h (by simp [dC,bg,hl])
set_option linter.unusedSimpArgs false in
theorem uv (w:World) (P:Nat) (D nn:Int) (s:ByteArray) (l:List Val) (r:Int) (pa:Option Addr) (c:Nat) (hp:¬ (P:Int)<1) (h:dC 0 s r l.length=false) :
 Calls Tryz.prog 270 #[.agg (V_ 1 nn s (.slice pa l.length c) r),J P,J D] w fun e w'=>e=.returned (J (-1))/\Bl w w':=by
 by_cases hs:s=⟨#[]⟩
 rotate_left
 ·have hb:¬ s.toList = []:=cf hs;clear h
  go_enter Tryz.func270,Tryz.ntmps270
  go_wp2_with fail
  go_ret
  exact⟨rfl,(Below.refl _ w).alloc aH _⟩
 subst hs
 by_cases hl:l.length=0
 rotate_left
 ·have hb:(l.length:Int) > 0:=eG hl;clear h
  go_enter Tryz.func270,Tryz.ntmps270
  go_wp2_with fail
  go_ret
  exact⟨rfl,(Below.refl _ w).alloc aH _⟩
 have hl2:¬ (l.length:Int) > 0:=by omega
 by_cases hr:r=0
 rotate_left
 ·have hb:(r==0)=false:=by simpa using hr
  clear h
  go_enter Tryz.func270,Tryz.ntmps270
  go_wp2_with fail
  go_ret
  exact⟨rfl,(Below.refl _ w).alloc aH _⟩
 subst hr;exact absurd h (by simp [dC,bg,hl])
set_option linter.unusedSimpArgs false in
theorem tm (w:World) (P:Nat) (D nn:Int) (s:ByteArray) (l:List Val) (r:Int) (pa:Option Addr) (c:Nat) (hp:¬ (P:Int)<1) (h:s.size > 256\/dC nn ⟨#[]⟩ r l.length=false) :
 Calls Tryz.prog 270 #[.agg (V_ 2 nn s (.slice pa l.length c) r),J P,J D] w fun e w'=>e=.returned (J (-1))/\Bl w w':=by
 by_cases hn:nn=0
 rotate_left
 ·have hb:(nn==0)=false:=by simpa using hn
  clear h
  go_enter Tryz.func270,Tryz.ntmps270
  go_wp2_with fail
  go_ret
  exact⟨rfl,(Below.refl _ w).alloc aH _⟩
 subst hn
 by_cases hl:l.length=0
 rotate_left
 ·have hb:(l.length:Int) > 0:=eG hl;clear h
  go_enter Tryz.func270,Tryz.ntmps270
  go_wp2_with fail
  go_ret
  exact⟨rfl,(Below.refl _ w).alloc aH _⟩
 have hl2:¬ (l.length:Int) > 0:=by omega
 by_cases hr:r=0
 rotate_left
 ·have hb:(r==0)=false:=by simpa using hr
  clear h
  go_enter Tryz.func270,Tryz.ntmps270
  go_wp2_with fail
  go_ret
  exact⟨rfl,(Below.refl _ w).alloc aH _⟩
 subst hr
 rcases h with h | h
 ·have hz:(s.size:Int) > 256:=by omega
  clear h
  go_enter Tryz.func270,Tryz.ntmps270
  go_wp2_with fail
  go_ret
  exact⟨rfl,(Below.refl _ w).alloc aH _⟩
 ·exact absurd h (by simp [dC,bg,hl])
set_option linter.unusedSimpArgs false in
theorem AD (w:World) (P:Nat) (D nn:Int) (s:ByteArray) (l:List Val) (r:Int) (pa:Option Addr) (c:Nat) (hp:¬ (P:Int)<1) (h:r<1\/dC nn s 0 l.length=false) :
 Calls Tryz.prog 270 #[.agg (V_ 4 nn s (.slice pa l.length c) r),J P,J D] w fun e w'=>e=.returned (J (-1))/\Bl w w':=by
 by_cases hn:nn=0
 rotate_left
 ·have hb:(nn==0)=false:=by simpa using hn
  clear h
  go_enter Tryz.func270,Tryz.ntmps270
  go_wp2_with fail
  go_ret
  exact⟨rfl,(Below.refl _ w).alloc aH _⟩
 subst hn
 by_cases hs:s=⟨#[]⟩
 rotate_left
 ·have hb:¬ s.toList = []:=cf hs;clear h
  go_enter Tryz.func270,Tryz.ntmps270
  go_wp2_with fail
  go_ret
  exact⟨rfl,(Below.refl _ w).alloc aH _⟩
 subst hs
 by_cases hl:l.length=0
 rotate_left
 ·have hb:(l.length:Int) > 0:=eG hl;clear h
  go_enter Tryz.func270,Tryz.ntmps270
  go_wp2_with fail
  go_ret
  exact⟨rfl,(Below.refl _ w).alloc aH _⟩
 have hl2:¬ (l.length:Int) > 0:=by omega
 rcases h with h | h
 ·by_cases hr:r=0
  ·subst hr
   go_enter Tryz.func270,Tryz.ntmps270
   go_wp2_with fail
   go_ret
   exact⟨rfl,(Below.refl _ w).alloc aH _⟩
  ·have hb:(r==0)=false:=by simpa using hr
   go_enter Tryz.func270,Tryz.ntmps270
   go_wp2_with fail
   go_ret
   exact⟨rfl,(Below.refl _ w).alloc aH _⟩
 ·exact absurd h (by simp [dC,bg,hl])
set_option linter.unusedSimpArgs false in
theorem jG (w:World) (P:Nat) (D nn:Int) (s:ByteArray) (l:List Val) (r:Int) (pa:Option Addr) (c:Nat) (hp:¬ (P:Int)<1) (h:dC nn s r 0=false\/D<1\/(l.length:Int) ≥ (P:Int)) :
 Calls Tryz.prog 270 #[.agg (V_ 3 nn s (.slice pa l.length c) r),J P,J D] w fun e w'=>e=.returned (J (-1))/\Bl w w':=by
 by_cases hn:nn=0
 rotate_left
 ·have hb:(nn==0)=false:=by simpa using hn
  clear h
  go_enter Tryz.func270,Tryz.ntmps270
  go_wp2_with fail
  go_ret
  exact⟨rfl,(Below.refl _ w).alloc aH _⟩
 subst hn
 by_cases hs:s=⟨#[]⟩
 rotate_left
 ·have hb:¬ s.toList = []:=cf hs;clear h
  go_enter Tryz.func270,Tryz.ntmps270
  go_wp2_with fail
  go_ret
  exact⟨rfl,(Below.refl _ w).alloc aH _⟩
 subst hs
 by_cases hr:r=0
 rotate_left
 ·have hb:(r==0)=false:=by simpa using hr
  clear h
  go_enter Tryz.func270,Tryz.ntmps270
  go_wp2_with fail
  go_ret
  exact⟨rfl,(Below.refl _ w).alloc aH _⟩
 subst hr
 rcases h with h | h
 ·exact absurd h (by simp [dC,bg])
 ·by_cases hD:D<1
  ·go_enter Tryz.func270,Tryz.ntmps270
   go_wp2_with fail
   go_ret
   exact⟨rfl,(Below.refl _ w).alloc aH _⟩
  ·have hL:(l.length:Int) ≥ (P:Int):=h.resolve_left hD;clear h
   go_enter Tryz.func270,Tryz.ntmps270
   go_wp2_with fail
   go_ret
   exact⟨rfl,(Below.refl _ w).alloc aH _⟩
set_option linter.unusedSimpArgs false in
theorem tt (w:World) (P:Nat) (D nn:Int) (s:ByteArray) (l:List Val) (r:Int) (pa:Option Addr) (c:Nat) (k:Int) (e0:¬ k=0) (e1:¬ k=1) (e2:¬ k=2) (e3:¬ k=3) (e4:¬ k=4) (hk:0≤k) (hp:¬ (P:Int)<1) (_h:True) :
 Calls Tryz.prog 270 #[.agg (V_ k nn s (.slice pa l.length c) r),J P,J D] w fun e w'=>e=.returned (J (-1))/\Bl w w':=by
 have f0:(k==0)=false:=by simpa using e0
 have f1:(k==1)=false:=by simpa using e1
 have f2:(k==2)=false:=by simpa using e2
 have f3:(k==3)=false:=by simpa using e3
 have f4:(k==4)=false:=by simpa using e4
 have hk4:k > 4:=by omega
 have g4:(k != 4)=true:=by simpa using e4
 by_cases hn:nn=0
 rotate_left
 ·have hb:(nn==0)=false:=by simpa using hn
  clear _h
  go_enter Tryz.func270,Tryz.ntmps270
  go_wp2_with fail
  go_ret
  exact⟨rfl,(Below.refl _ w).alloc aH _⟩
 subst hn
 by_cases hs:s=⟨#[]⟩
 rotate_left
 ·have hb:¬ s.toList = []:=cf hs;clear _h
  go_enter Tryz.func270,Tryz.ntmps270
  go_wp2_with fail
  go_ret
  exact⟨rfl,(Below.refl _ w).alloc aH _⟩
 subst hs
 by_cases hl:l.length=0
 rotate_left
 ·have hb:(l.length:Int) > 0:=eG hl;clear _h
  go_enter Tryz.func270,Tryz.ntmps270
  go_wp2_with fail
  go_ret
  exact⟨rfl,(Below.refl _ w).alloc aH _⟩
 have hl2:¬ (l.length:Int) > 0:=by omega
 by_cases hr:r=0
 rotate_left
 ·have hb:(r==0)=false:=by simpa using hr
  clear _h
  go_enter Tryz.func270,Tryz.ntmps270
  go_wp2_with fail
  go_ret
  exact⟨rfl,(Below.refl _ w).alloc aH _⟩
 subst hr;clear _h
 go_enter Tryz.func270,Tryz.ntmps270
 go_wp2_with fail
 go_ret
 exact⟨rfl,(Below.refl _ w).alloc aH _⟩
attribute [local go_sem ↓] fG in
theorem mZ (m:Nat) (ih:jB m) (w:World) (F:Nat->Prop) (P p' D:Nat) (l:List Val) (pa:Option Addr) (c:Nat) (hP:P=p'+1) (hD:D=m+1) (hn:D≤16) (hp:P≤512) (hlen:¬ l.length > p') (hwf:∀ x ∈ l,x.wf) (hS:SlAt w F (.slice pa l.length c) l) (hL:bc m p' l=none) :
 Calls Tryz.prog 270 #[.agg (V_ 3 0 ⟨#[]⟩ (.slice pa l.length c) 0),J P,J D] w fun e w'=>e=.returned (J (-1))/\Bl w w':=by
 have HS:Hid (SlAt w F (.slice pa l.length c) l):=hS;have HL:Hid (bc m p' l=none):=hL;have HF:Hid (∀ x ∈ l,x.wf):=hwf;have IH:Hid (jB m):=ih;have hp1:¬ ((P:Int)<1):=by omega
 have h2:¬ ((D:Int)<1):=by omega
 have h4:¬ ((l.length:Int) ≥ (P:Int)):=by omega
 have HA:Hid (P≤512/\D≤16/\P=p'+1/\D=m+1):=⟨hp,hn,hP,hD⟩;clear hS hL ih hn hlen hP hD hp hwf
 go_enter Tryz.func270,Tryz.ntmps270
 go_wp2_with fail
 have HB0:Hid (Bl w (w.alloc (.cells (V_ 3 0 ⟨#[]⟩ (.slice pa l.length c) 0) 27))/\(w.alloc (.cells (V_ 3 0 ⟨#[]⟩ (.slice pa l.length c) 0) 27)).heap[w.heap.size]? = some (.cells (V_ 3 0 ⟨#[]⟩ (.slice pa l.length c) 0) 27 (0,0))):=⟨(Below.refl _ w).alloc aH _,ai _ _⟩
 go_loopw [7,8] (fun va vi wr=>∃ (k qk:Nat) (a:Int),va=J a/\vi=J k/\k≤l.length/\Hid (a=(P:Int) - qk/\bc m p' (l.take k)=some qk/\Bl w wr/\wr.heap[w.heap.size]? = some (.cells (V_ 3 0 ⟨#[]⟩ (.slice pa l.length c) 0) 27 (0,0)))) (fun _ vi _=>l.length - (intOf vi).toNat)
 case atStart=>exact⟨0,p',1,rfl,rfl,Nat.zero_le _,by have:=HA.out;omega,rfl,HB0.out⟩
 case round =>
  obtain⟨k,qk,a,rfl,rfl,hk,HI⟩:=hrel;have c3:wr.cell? ⟨w.heap.size,3,none⟩=some (.slice pa l.length c):=by rw [ag HI.out.2.2.2];rfl
  by_cases hkl:k<l.length
  ·have hkz:(k:Int)<(l.length:Int):=by omega
   obtain⟨x,hx⟩:∃ x,l[k]? = some x:=⟨_,List.getElem?_eq_getElem hkl⟩;obtain⟨b,o,c',raw,hpe,hrg,-,-,hSx⟩:=(HS.out.on HI.out.2.2.1).range hx
   cases hpe
   have hqk:qk≤p':=dU (fun p v q h=>Nat.le_of_lt (bJ h)) _ _ _ HI.out.2.1;have HX:Hid (x.wf/\x ∈ l):=⟨HF.out x (List.mem_of_getElem? hx),List.mem_of_getElem? hx⟩;have hwk:wrap64 ((k:Int)+1)=(k:Int)+1:=by have:=HA.out;unfold wrap64;omega
   have hw1:wrap64 ((P:Int) - a)=(qk:Int):=by rw [HI.out.1];have:=HA.out;unfold wrap64;omega
   have hw2:wrap64 ((D:Int) - 1)=(m:Int):=by have:=HA.out;unfold wrap64;omega
   cases hq:aP m qk x with
   | some q' =>
     have hlq:=bJ hq;obtain⟨xk,xn,xs,xl,xr⟩:=x;obtain⟨qa,qc,rfl⟩:=hSx.form;have hld0:=aY hrg rfl;have hld:(bp (R_ b (o+k * 5))).run Tryz.prog wr=.ok (.value (.agg (V_ xk xn xs (.slice qa xl.length qc) xr))) wr:=hld0;have Hx:Hid (SlAt wr F (.slice qa xl.length qc) xl/\aP m qk ⟨xk,xn,xs,xl,xr⟩=some q'/\qk≤512/\bc m p' (l.take (k+1))=some q'):=⟨hSx,hq,by have:=HA.out;omega,by rw [ea hx HI.out.2.1];exact hq⟩;have hn0:¬ ((qk:Int) - (q':Int)<0):=by omega
     have hw3:Hid (wrap64 (a+((qk:Int) - (q':Int)))=(P:Int) - q'):=by show _=_;rw [HI.out.1];have:=HA.out;unfold wrap64;omega
     clear hld0 hx hrg hSx hq hlq hqk HX
     go_wp2_with fail
     refine(sO m qk q' ⟨xk,xn,xs,xl,xr⟩ _ _ _ (by have:=HA.out;omega) Hx.out.2.2.1 Hx.out.1 Hx.out.2.1).mono ?_;rintro e w5 ⟨rfl,hb5⟩;have HI5:Hid (Bl w w5/\_):=⟨HI.out.2.2.1.trans (hb5.mono HI.out.2.2.1.size),ae hb5 HI.out.2.2.2⟩;clear hb5 HI hld c3
     go_wp2_with fail
     go_roundw
     case rel=>exact⟨k+1,q',_,rfl,by go_num,by omega,hw3.out,Hx.out.2.2.2,HI5.out⟩
     case measure=>rw [hwk];exact uE hkl
   | none =>
     obtain⟨xk,xn,xs,xl,xr⟩:=x;obtain⟨qa,qc,rfl⟩:=hSx.form;have hld0:=aY hrg rfl;have hld:(bp (R_ b (o+k * 5))).run Tryz.prog wr=.ok (.value (.agg (V_ xk xn xs (.slice qa xl.length qc) xr))) wr:=hld0;have Hx:Hid (SlAt wr F (.slice qa xl.length qc) xl/\aP m qk ⟨xk,xn,xs,xl,xr⟩=none/\qk≤512):=⟨hSx,hq,by have:=HA.out;omega⟩;clear hld0 hx hrg hSx hq hqk
     go_wp2_with fail
     refine(IH.out qk ⟨xk,xn,xs,xl,xr⟩ _ _ _ (by have:=HA.out;omega) Hx.out.2.2 HX.out.1 Hx.out.1 Hx.out.2.1).mono ?_;rintro e w5 ⟨rfl,hb5⟩;have HI5:Hid (Bl w w5):=HI.out.2.2.1.trans (hb5.mono HI.out.2.2.1.size);clear hb5 HI hld c3
     go_wp2_with fail
     go_ret
     exact⟨rfl,HI5.out⟩
  ·exfalso
   obtain rfl:k=l.length:=by omega
   have h1:=HI.out.2.1;rw [List.take_length,HL.out]at h1
   cases h1
theorem oQ (w:World) (k nn:Int) (s:ByteArray) (m c:Nat) (r:Int) (pa:Option Addr) (D:Nat):Calls Tryz.prog 270 #[.agg (V_ k nn s (.slice pa m c) r),J 0,J D] w fun e w'=>e=.returned (J (-1))/\Bl w w':=by
 go_enter Tryz.func270,Tryz.ntmps270
 go_wp2_with fail
 go_ret
 exact⟨rfl,(Below.refl _ w).alloc aH _⟩
theorem fJ {b:Bool} {a:Nat} (h:(if b=true then some a else none)=none):b=false:=by
 cases b with
 | false=>rfl
 | true=>simp at h
theorem gZ (n:Nat) (ih:∀ m,n=m+1->jB m):jB n:=by
 intro p v raw w F hn hp hwf hS hT;obtain⟨k,nn,s,l,r⟩:=v;obtain⟨pa,c,rfl⟩:=hS.form;simp only [au]at *
 cases p with
 | zero=>exact oQ w k nn s _ c r pa n
 | succ p' =>
   have hP:¬ ((p'+1:Nat):Int)<1:=by omega
   by_cases e0:k=0
   ·rw [sq e0]at hT;subst e0;exact tR w (p'+1) n nn s l r pa c hP (fJ hT)
   by_cases e1:k=1
   ·rw [sw e1]at hT;subst e1;exact uv w (p'+1) n nn s l r pa c hP (fJ hT)
   by_cases e2:k=2
   ·rw [so e2]at hT;subst e2;refine tm w (p'+1) n nn s l r pa c hP ?_;split at hT
    ·exact .inl (by assumption)
    ·exact .inr (fJ hT)
   by_cases e4:k=4
   ·rw [sr e4]at hT;subst e4;refine AD w (p'+1) n nn s l r pa c hP ?_;split at hT
    ·exact .inl (by assumption)
    ·exact .inr (fJ hT)
   by_cases e3:k=3
   ·subst e3
    by_cases hc:dC nn s r 0=true
    rotate_left
    ·exact jG w (p'+1) n nn s l r pa c hP (.inl (by simpa using hc))
    cases n with
    | zero=>exact jG w (p'+1) _ nn s l r pa c hP (.inr (.inl (by decide)))
    | succ m =>
      by_cases hl:l.length > p'
      ·exact jG w (p'+1) _ nn s l r pa c hP (.inr (.inr (by omega)))
      ·rw [uI rfl hl]at hT
       have hL:bc m p' l=none:=by
        split at hT
        ·assumption
        ·rw [if_pos hc]at hT
         cases hT
       obtain⟨rfl,rfl,rfl,-⟩:=eR hc;exact mZ m (ih m rfl) w F (p'+1) p' (m+1) l pa c rfl rfl hn hp hl hwf.sub hS hL
   exact tt w (p'+1) n nn s l r pa c k e0 e1 e2 e3 e4 hwf.kd.1 hP trivial
theorem xG (n:Nat):jB n:=by
 induction n with
 | zero=>exact gZ 0 (fun m h=>by cases h)
 | succ n ih=>exact gZ (n+1) (fun m h=>by cases h;exact ih)
theorem sJ {w:World} {F:Nat->Prop} {v:Val} {raw:Value} (hS:SlAt w F raw v.l) (hwf:v.wf) (hm:ay v=false):Calls Tryz.prog 242 #[.agg (au v raw)] w fun e w'=>e=.returned (J 0)/\Bl w w':=by
 have hq:aP 16 512 v=none:=by
  cases h:aP 16 512 v with
  | none=>rfl
  | some q=>exact absurd hm (by show ¬ (aP 16 512 v).isSome=false;rw [h];simp)
 obtain⟨pa,c,rfl⟩:=hS.form;have HK:Hid (∀ w',Bl w w'->Calls Tryz.prog 270 #[.agg (au v (.slice pa v.l.length c)),J 512,J 16] w' fun e w''=>e=.returned (J (-1))/\Bl w' w''):=fun w' hb=>xG 16 512 v _ w' _ (by omega) (by omega) hwf (hS.on hb) hq;clear hS hm hq hwf;obtain⟨k,n,s,l,r⟩:=v;simp only [au]at HK ⊢;generalize l.length=m at *;have HB0:Hid (Bl w (w.alloc (.cells (V_ k n s (.slice pa m c) r) 27))):=(Below.refl _ w).alloc aH _
 go_enter Tryz.func242,Tryz.ntmps242
 go_wp2_with fail
 refine Calls.mono (HK.out _ HB0.out) ?_;rintro e w1 ⟨rfl,hb1⟩;have HB1:Hid (Bl w w1):=HB0.out.trans (hb1.mono HB0.out.size);clear hb1 HB0
 go_wp2_with fail
 go_ret
 exact⟨rfl,HB1.out⟩
theorem xb {w:World} {F:Nat->Prop} {v:Val} {raw:Value} (hS:SlAt w F raw v.l) (hwf:v.wf) (hm:ay v=false):Calls Tryz.prog 182 #[.agg (au v raw)] w fun e w'=>e=.returned (.bool false)/\Bl w w':=by
 obtain⟨pa,c,rfl⟩:=hS.form;have HK:Hid (∀ w',Bl w w'->Calls Tryz.prog 242 #[.agg (au v (.slice pa v.l.length c))] w' fun e w''=>e=.returned (J 0)/\Bl w' w''):=fun w' hb=>sJ (hS.on hb) hwf hm;clear hS hm hwf;obtain⟨k,n,s,l,r⟩:=v;simp only [au]at HK ⊢;generalize l.length=m at *;have HB0:Hid (Bl w (w.alloc (.cells (V_ k n s (.slice pa m c) r) 27))):=(Below.refl _ w).alloc aH _
 go_enter Tryz.func182,Tryz.ntmps182
 go_wp2_with fail
 refine Calls.mono (HK.out _ HB0.out) ?_;rintro e w1 ⟨rfl,hb1⟩;have HB1:Hid (Bl w w1):=HB0.out.trans (hb1.mono HB0.out.size);clear hb1 HB0
 go_wp2_with fail
 go_ret
 exact⟨rfl,HB1.out⟩
theorem fF {w:World} {F:Nat->Prop} {v:Val} {raw:Value} (hS:SlAt w F raw v.l) (hwf:v.wf):Calls Tryz.prog 182 #[.agg (au v raw)] w fun e w'=>e=.returned (.bool (ay v))/\Bl w w':=by
 cases hm:ay v with
 | true=>exact py hS hm
 | false=>exact xb hS hwf hm
end
end Go.Proofs.YthaliljaglldjaaGreat
namespace Go.Proofs.YthaliljaglldjaaGreat
set_option maxHeartbeats 16000000
set_option maxRecDepth 20000
open Go.RowKit
section
section
variable {P:Program} {ops:Array Oper} {Q:Exit->Act->World->Prop}
theorem jN (L:Array Bool) (hL:L.size=ops.size) (hord:∀ (i:Nat) (o:Oper),ops[i]? = some o->∀ e ∈ o.after,Region.binds .any e=true->e.on<i)
 (hr:Region.ready .any ops L = []):∀ i,i<ops.size->L.getD i true=true:=by
 intro i
 induction i using Nat.strongRecOn with
 | ind i ih =>
   intro hi
   cases hLi:L.getD i true with
   | true=>rfl
   | false =>
     exfalso
     have:i ∈ Region.ready .any ops L:=by
      unfold Region.ready;rw [List.mem_filter];refine⟨List.mem_range.2 hi,?_⟩;rw [hLi,Array.getElem?_eq_getElem hi];simp only [Bool.not_false,Bool.true_and,Option.map_some,Option.getD_some];rw [Array.all_eq_true_iff_forall_mem];intro e he
      cases hb:Region.binds .any e with
      | false=>rfl
      | true =>
        have h1:=hord i _ (Array.getElem?_eq_getElem hi) e he hb;have h2:=ih e.on h1 (by omega)
        have h3:L.getD e.on false=true:=by
         have:e.on<L.size:=by omega
         simpa [Array.getD,this]using h2
        simp [h3]
     rw [hr]at this
     cases this
theorem jE (Inv:Array Bool->Act->World->Prop) (hord:∀ (i:Nat) (o:Oper),ops[i]? = some o->∀ e ∈ o.after,Region.binds .any e=true->e.on<i)
 (step:∀ L a w i o,Inv L a w->ops[i]? = some o->L.getD i true=false->(∀ e ∈ o.after,Region.binds .any e=true->L.getD e.on false=true) ->
  if Region.wanted o (yielded ops a.tmps)then o.wp P a w (Inv (L.setIfInBounds i true)) Q else Inv (L.setIfInBounds i true) (a.put o.dst undef) w)
 (done:∀ L a w,Inv L a w->(∀ i,i<ops.size->L.getD i true=true)->Q .normal a w) :
 ∀ (fuel:Nat) (L:Array Bool) (a:Act) (w:World),L.size=ops.size->L.toList.count false≤fuel->Inv L a w->wpAny P .any ops Q fuel L a w
 | 0,L,a,w,hL,hc,hI=>by
   have hall:∀ i,i<ops.size->L.getD i true=true:=by
    intro i hi;have h0:L.toList.count false=0:=by omega
    rw [List.count_eq_zero]at h0
    cases h:L.getD i true with
    | true=>rfl
    | false =>
      exfalso
      apply h0
      have hi':i<L.size:=by omega
      have:L[i]=false:=by simpa [Array.getD,hi']using h
      rw [<- this];simp
   refine⟨?_,done L a w hI hall⟩;unfold Region.ready;rw [List.filter_eq_nil_iff];intro i hi;rw [hall i (List.mem_range.1 hi)];simp
 | fuel+1,L,a,w,hL,hc,hI=>by
   refine⟨fun h=>done L a w hI (jN L hL hord h),fun i hi=>?_⟩;unfold Region.ready at hi;rw [List.mem_filter]at hi;obtain⟨h1,h2⟩:=hi;have h1:=List.mem_range.1 h1;rw [Bool.and_eq_true,Array.getElem?_eq_getElem h1,Option.map_some,Option.getD_some,Array.all_eq_true_iff_forall_mem]at h2;obtain⟨h3,h4⟩:=h2;have h3:L.getD i true=false:=by simpa using h3
   have hs:=step L a w i _ hI (Array.getElem?_eq_getElem h1) h3 (fun e he hb=>by
    have:=h4 e he
    simpa [hb]using this)
   have hi':i<L.size:=by omega
   have hLi:L.toList[i]'(by simpa using hi')=false:=by
    have:L[i]=false:=by simpa [Array.getD,hi']using h3
    simpa using this
   have hcnt:=dv (l:=L.toList) (by simpa using hi') hLi
   have next:∀ a w,Inv (L.setIfInBounds i true) a w->wpAny P .any ops Q fuel (L.setIfInBounds i true) a w:=fun a w h =>
    jE Inv hord step done fuel _ a w (by simpa using hL) (by rw [Array.toList_setIfInBounds];omega) h
   unfold wpOp;rw [Array.getElem?_eq_getElem h1];simp only;split at hs
   ·rename_i hw
    rw [if_pos hw];exact .inl (Oper.wp_mono next hs)
   ·rename_i hw
    rw [if_neg hw];exact next _ _ hs
theorem jl {id:Nat} {a:Act} {w:World} (hm:P.follows .mixedOrders=true) (Inv:Array Bool->Act->World->Prop) (hord:∀ (i:Nat) (o:Oper),ops[i]? = some o->∀ e ∈ o.after,Region.binds .any e=true->e.on<i)
 (h0:Inv (Array.replicate ops.size false) a w.drew)
 (step:∀ L a w i o,Inv L a w->ops[i]? = some o->L.getD i true=false->(∀ e ∈ o.after,Region.binds .any e=true->L.getD e.on false=true) ->
  if Region.wanted o (yielded ops a.tmps)then o.wp P a w (Inv (L.setIfInBounds i true)) Q else Inv (L.setIfInBounds i true) (a.put o.dst undef) w)
 (done:∀ L a w,Inv L a w->(∀ i,i<ops.size->L.getD i true=true)->Q .normal a w):(Code.region id ops true).wp P Q a w :=
 wp_region_any hm (jE Inv hord step done ops.size _ a _ (by simp) (by simp) h0)
end
def jO (l:List Oper) (n d:Nat):Bool :=
 (l.zipIdx.all fun x=>x.1.guard.isNone && (x.1.after.all fun e=>!Region.binds .any e || (decide (e.on<x.2) && decide (e.on≠d))) && (match x.1.dst with | some d=>decide (d<n) | none=>true)) &&
 (l.zipIdx.all fun x=>l.zipIdx.all fun y=>decide (x.2=y.2) || x.1.dst.isNone || decide (x.1.dst≠y.1.dst))
def oH (l:List Oper) (z:Oper) (d:Nat):Bool :=
 (List.range l.length).all fun i=>decide (i=d) || (z.after.any fun e=>e.on==i && Region.binds .any e) || l.zipIdx.any fun x=>decide (i<x.2) && decide (x.2≠d) && x.1.after.any fun e=>e.on==i && Region.binds .any e
def lw (n d:Nat) (z:Oper) (t:List Oper):Bool :=
 z.guard.isNone && z.dst.isNone && chainB n 0 (z :: t) && (t.head?.all fun o=>o.after.any fun e=>e.on==d && Region.binds .any e)
theorem ny {l:List Oper} {n d:Nat} (hB:jO l n d=true) :
 (∀ (i:Nat) (o:Oper),l[i]? = some o->o.guard=none/\(∀ e ∈ o.after,Region.binds .any e=true->e.on<i/\e.on≠d)/\∀ d,o.dst=some d->d<n) /\
 (∀ (i j:Nat) (oi oj:Oper),i≠j->l[i]? = some oi->l[j]? = some oj->∀ d,oi.dst=some d->oj.dst≠some d):=by
 simp only [jO,Bool.and_eq_true]at hB;obtain⟨hB1,hB2⟩:=hB;refine⟨fun i o ho=>?_,fun i j oi oj hne hi hj d hd=>?_⟩
 ·have:=List.all_eq_true.1 hB1 (o,i) (List.mem_zipIdx_iff_getElem?.2 ho);simp only [Bool.and_eq_true,Array.all_eq_true_iff_forall_mem,Option.isNone_iff_eq_none]at this;obtain⟨⟨h1,h2⟩,h3⟩:=this;refine⟨h1,fun e he hb=>?_,fun d hd=>by rw [hd]at h3;simpa using h3⟩;have:=h2 e he;rw [hb]at this
  simpa using this
 ·have h1:=List.all_eq_true.1 hB2 (oi,i) (List.mem_zipIdx_iff_getElem?.2 hi);have h2:=List.all_eq_true.1 h1 (oj,j) (List.mem_zipIdx_iff_getElem?.2 hj);simp only [Bool.or_eq_true,decide_eq_true_eq,Option.isNone_iff_eq_none]at h2
  rcases h2 with (h2 | h2) | h2
  ·exact absurd h2 hne
  ·rw [hd]at h2;cases h2
  ·rw [hd]at h2;exact fun e=>h2 e.symm
theorem rr {l:List Oper} {z:Oper} {d:Nat} (h:oH l z d=true) {A:Array Bool} (hz:∀ e ∈ z.after,Region.binds .any e=true->A.getD e.on false=true)
 (hd:∀ (i:Nat) (o:Oper),l[i]? = some o->A.getD i false=true->∀ e ∈ o.after,Region.binds .any e=true->A.getD e.on false=true) :∀ i,i<l.length->i≠d->A.getD i false=true:=by
 have key:∀ m i,i<l.length->l.length - i≤m->i≠d->A.getD i false=true:=by
  intro m
  induction m with
  | zero=>intro i hi hm;omega
  | succ m ih =>
    intro i hi hm hid;have:=List.all_eq_true.1 h i (List.mem_range.2 hi);simp only [Bool.or_eq_true,decide_eq_true_eq]at this
    rcases this with (h0 | h1) | h1
    ·exact absurd h0 hid
    ·obtain⟨j,hj,h2⟩:=Array.any_eq_true.1 h1;simp only [Bool.and_eq_true,beq_iff_eq]at h2;have:=hz _ (Array.getElem_mem hj) h2.2
     rwa [h2.1]at this
    ·obtain⟨⟨o,k⟩,hx,h2⟩:=List.any_eq_true.1 h1;simp only [Bool.and_eq_true,decide_eq_true_eq]at h2;obtain⟨⟨h3,hkd⟩,h4⟩:=h2;have hk:=List.mem_zipIdx_iff_getElem?.1 hx;have hkl:=ji hk;obtain⟨j,hj,h5⟩:=Array.any_eq_true.1 h4;simp only [Bool.and_eq_true,beq_iff_eq]at h5;have:=hd k o hk (ih k hkl (by omega) hkd) _ (Array.getElem_mem hj) h5.2
     rwa [h5.1]at this
 exact fun i hi hid=>key l.length i hi (by omega) hid
theorem gR {P:Program} {Q:Exit->Act->World->Prop} {l:List Oper} {a0:Act} {d0:Nat} (hB:jO l a0.tmps.size d0=true)
 (R:World->World->Prop) (Φ:Nat->Value->World->Prop) (C:World->Prop)
 (hΦ:∀ j v w w',R w w'->Φ j v w->Φ j v w') (hC:∀ w w',C w->R w w'->C w')
 {i:Nat} {o:Oper} {a:Act} {w:World} {L:Array Bool}
 (step:C w->Given l Φ (fun _=>false) a0 o a w->o.wp P a w (fun a' w'=>∃ v,a'=a.put o.dst v/\R w w'/\Φ i (o.dst.elim undef fun _=>v) w') Q)
 (hI:GInv l R Φ (fun _=>false) C a0 L a w) (ho:l[i]? = some o) (hdep:∀ e ∈ o.after,Region.binds .any e=true->L.getD e.on false=true) :
 o.wp P a w (GInv l R Φ (fun _=>false) C a0 (L.setIfInBounds i true)) Q:=by
 obtain⟨at1,at2⟩:=ny hB;have ho':=ho;obtain⟨-,-,hd⟩:=at1 i o ho';refine Oper.wp_mono ?_ (step hI.c ⟨fun e he hb oj hj=>hI.phi _ _ hj (hdep e he hb),hI.fr,hI.sz,fun e he f hf hbe hbf hne oi oj hi hj hci hcj=>by cases hci⟩);rintro a' w' ⟨v,rfl,hR,hv⟩
 have vother:∀ (j:Nat) (oj:Oper),j≠i->l[j]? = some oj->ba oj (a.put o.dst v)=ba oj a:=fun j oj hj hoj=>by
  cases hdo:o.dst with
  | none=>rfl
  | some d =>
    unfold ba
    cases hdj:oj.dst with
    | none=>rfl
    | some t =>
      have:=at2 i j o oj (Ne.symm hj) ho' hoj d hdo;exact bM a d v t (fun e=>this (by rw [hdj,e]))
 have vself:ba o (a.put o.dst v)=o.dst.elim undef fun _=>v:=by
  unfold ba
  cases hdo:o.dst with
  | none=>rfl
  | some d=>exact bN a d v (by rw [hI.sz];exact hd d hdo)
 have lold:∀ j,j≠i->(L.setIfInBounds i true).getD j false=true->L.getD j false=true:=fun j hj h=>by
  rwa [getD_set_ne false (Ne.symm hj)]at h
 exact {
  lsz:=by simpa using hI.lsz
  c:=hC _ _ hI.c hR
  sz:=by
   rw [<- hI.sz]
   cases o.dst with
   | none=>rfl
   | some d=>simp [Act.put]
  df:=by
   rw [<- hI.df]
   cases o.dst <;> rfl
  fr:=fun t ht=>by
   rw [<- hI.fr t ht]
   cases hdo:o.dst with
   | none=>rfl
   | some d=>exact bM a d v t (fun e=>ht o (List.mem_of_getElem? ho') (by rw [hdo,e]))
  phi:=fun j oj hj hl=>by
   by_cases e:j=i
   ·subst e;rw [ho']at hj
    cases hj
    rw [vself];exact hv
   ·rw [vother j oj e hj];exact hΦ _ _ _ _ hR (hI.phi j oj hj (lold j e hl))
  blk:=fun j oj hj hl hc=>by cases hc
  ne:=fun j k oj ok hne hj hk hlj hlk hcj hck=>by cases hcj }
theorem fa (ρ:Operand->Value) {z:Oper} {ty:TypeId} {x y:Operand} (hz:z.op=.store ty x y):execOp ρ z=(do Instr.storeAt ty (ρ x) (ρ y);pure .skip):=by
 cases z
 cases hz
 rfl
theorem iy {P:Program} {Q:Exit->Act->World->Prop} {id:Nat} {l:List Oper} {z:Oper} {t:List Oper} {a0:Act} {w0:World} (d sd x y:Nat) (sty:TypeId) (od:Oper) (Vd:Value)
 (hm:P.follows .mixedOrders=true) (hB:jO l a0.tmps.size d=true) (hd:l[d]? = some od) (hsd:od.dst=some sd) (hz:z.op=.store sty (.tmp x) (.tmp y)) (hx:x≠sd) (hy:y≠sd)
 (ht:(lw l.length d z t && oH l z d)=true)
 (R:World->World->Prop) (Φ:Nat->Value->World->Prop) (C:World->Prop)
 (hΦ:∀ j v w w',R w w'->Φ j v w->Φ j v w') (hR0:∀ w,R w w) (hC0:C w0.drew) (hC:∀ w w',C w->R w w'->C w') (hΦd:∀ w,Φ d Vd w)
 (late:∀ (a:Act) (w w':World),(∀ e ∈ od.after,Region.binds .any e=true->∀ oj,l[e.on]? = some oj->Φ e.on (ba oj a) w)->(execOp a.eval od).run P w'=.ok (.value Vd) w')
 (step:∀ (i:Nat) (o:Oper) (a:Act) (w:World),i≠d->l[i]? = some o->C w->Given l Φ (fun _=>false) a0 o a w->o.wp P a w (fun a' w'=>∃ v,a'=a.put o.dst v/\R w w'/\Φ i (o.dst.elim undef fun _=>v) w') Q)
 (done:∀ a w,C w->a.defers=a0.defers->a.tmps.size=a0.tmps.size->(∀ s,(∀ oj ∈ l,oj.dst≠some s)->a.tmps.getD s undef=a0.tmps.getD s undef)->(∀ (i:Nat) (o:Oper),l[i]? = some o->Φ i (ba o a) w) ->
  ∃ w',(execOp a.eval z).run P w=.ok .skip w'/\aV P (l ++ (z :: t)).toArray Q t a w') :
 (Code.region id (l ++ (z :: t)).toArray true).wp P Q a0 w0:=by
 obtain⟨at1,at2⟩:=ny hB;simp only [Bool.and_eq_true,lw]at ht;obtain⟨⟨⟨⟨hzg,hzd⟩,ht⟩,htd⟩,hlz⟩:=ht;rw [Option.isNone_iff_eq_none]at hzg hzd;have hdl:d<l.length:=ji hd
 have hat:∀ (i:Nat) (o:Oper),(l ++ (z :: t)).toArray[i]? = some o->(l[i]? = some o/\i<l.length)\/(∃ j,i=l.length+j/\(z :: t)[j]? = some o/\j<(z :: t).length):=fun i o ho=>by
  rw [List.getElem?_toArray,List.getElem?_append]at ho;split at ho
  ·exact .inl ⟨ho,by assumption⟩
  ·right
   rename_i h
   exact⟨i - l.length,by omega,ho,(ji ho)⟩
 have hdat:∀ o,l[d]? = some o->o=od:=fun o ho=>by rw [hd]at ho;cases ho;rfl
 have hwz:∀ (a:Act),Region.wanted z (yielded (l ++ (z :: t)).toArray a.tmps)=true:=fun a=>by unfold Region.wanted;rw [hzg]
 have hzput:∀ (a:Act) (v:Value),execOp (a.put (some sd) v).eval z=execOp a.eval z:=fun a v=>by
  rw [fa _ hz,fa _ hz];have e1:(a.put (some sd) v).eval (.tmp x)=a.eval (.tmp x):=bM a sd v x hx;have e2:(a.put (some sd) v).eval (.tmp y)=a.eval (.tmp y):=bM a sd v y hy;rw [e1,e2]
 refine jl hm (fun A a w=>A.size=l.length+(z :: t).length /\
  ((∃ j,1≤j/\j≤(z :: t).length/\(∀ i,i<l.length+j->A.getD i false=true)/\(∀ i,l.length+j≤i->A.getD i false=false)/\aV P (l ++ (z :: t)).toArray Q ((z :: t).drop j) a w) \/
   ((∀ i,i≠d->i≤l.length->A.getD i false=true)/\A.getD d false=false/\(∀ i,l.length<i->A.getD i false=false)/\(∃ w1,∀ e ∈ od.after,Region.binds .any e=true->∀ oj,l[e.on]? = some oj->Φ e.on (ba oj a) w1)/\aV P (l ++ (z :: t)).toArray Q t (a.put (some sd) Vd) w) \/
   ((∀ i,l.length≤i->A.getD i false=false)/\(∀ (i:Nat) (o:Oper),l[i]? = some o->A.getD i false=true->∀ e ∈ o.after,Region.binds .any e=true->A.getD e.on false=true) /\
    ∃ B:Array Bool,(∀ i,i<l.length->B.getD i false=A.getD i false)/\GInv l R Φ (fun _=>false) C a0 B a w))) ?_ ?_ ?_ ?_
 ·intro i o ho e he hb
  rcases hat i o ho with ⟨ho,-⟩ | ⟨j,rfl,ho,-⟩
  ·exact((at1 i o ho).2.1 e he hb).1
  ·have:=(bu ht ho).1 e he;omega
 ·refine⟨by simp,.inr (.inr ⟨fun i _=>getD_replicate_false _ _,(fun i o _ h=>by rw [getD_replicate_false]at h;cases h),Array.replicate l.length false,fun i _=>by rw [getD_replicate_false,getD_replicate_false],?_⟩)⟩
  exact {
   lsz:=by simp
   c:=hC0
   sz:=rfl
   df:=rfl
   fr:=fun t _=>rfl
   phi:=fun i o _ h=>by rw [getD_replicate_false]at h;cases h
   blk:=fun i o _ h=>by rw [getD_replicate_false]at h;cases h
   ne:=fun i j oi oj _ _ _ h=>by rw [getD_replicate_false]at h;cases h }
 ·rintro A a w i o ⟨hA,hI⟩ ho hAi hdep
  have hiA:i<A.size:=by
   rcases hat i o ho with ⟨-,hi⟩ | ⟨j,rfl,-,hj⟩ <;> omega
  have hAf:A.getD i false=false:=by
   simp only [Array.getD,hiA,dif_pos]at hAi ⊢;exact hAi
  rcases hI with ⟨k,hk1,hk2,hon,hoff,hq⟩ | ⟨hon,hdoff,hoff,⟨w1,hw1⟩,hq⟩ | ⟨hoff,hdn,B,hBA,hI⟩
  ·rcases hat i o ho with ⟨-,hi⟩ | ⟨j,rfl,hj,hjl⟩
   ·have:=hon i (by omega);rw [this]at hAf
    cases hAf
   ·have hjk:j=k:=by
     rcases Nat.lt_trichotomy j k with h | h | h
     ·have:=hon (l.length+j) (by omega);rw [this]at hAf
      cases hAf
     ·exact h
     ·exfalso
      obtain⟨e,he,h1,h2⟩:=(bu ht hj).2 (by omega);have h3:=hdep e he h2;rw [h1,hoff _ (by omega)]at h3
      cases h3
    subst hjk
    have hdrop:(z :: t).drop j=o :: (z :: t).drop (j+1):=by
     rw [List.drop_eq_getElem_cons hjl,(List.getElem?_eq_some_iff.1 hj).2]
    rw [hdrop]at hq;obtain⟨hw,hq⟩:=hq;rw [if_pos hw];refine Oper.wp_mono ?_ hq;intro a' w' hq';refine⟨by simpa using hA,.inl ⟨j+1,by omega,by omega,fun i hi=>?_,fun i hi=>?_,hq'⟩⟩
    ·by_cases e:i=l.length+j
     ·subst e;exact aC hiA
     ·rw [getD_set_ne false (by omega)];exact hon i (by omega)
    ·rw [getD_set_ne false (by omega)];exact hoff i (by omega)
  ·-- the store has come up,the late one has not
   have hid:i=d:=by
    rcases hat i o ho with ⟨-,hi⟩ | ⟨j,rfl,hj,hjl⟩
    ·by_cases e:i=d
     ·exact e
     ·have:=hon i e (Nat.le_of_lt hi);rw [this]at hAf
      cases hAf
    ·exfalso
     rcases Nat.lt_trichotomy j 1 with h | h | h
     ·have:=hon (l.length+j) (by omega) (by omega);rw [this]at hAf
      cases hAf
     ·subst h
      have hh:t.head? = some o:=by
       have:t[0]? = some o:=by simpa using hj
       rw [<- this]
       cases t <;> rfl
      rw [hh]at htd;simp only [Option.all_some]at htd;obtain⟨j,hj,h2⟩:=Array.any_eq_true.1 htd;simp only [Bool.and_eq_true,beq_iff_eq]at h2;have h3:=hdep _ (Array.getElem_mem hj) h2.2;rw [h2.1,hdoff]at h3
      cases h3
     ·obtain⟨e,he,h1,h2⟩:=(bu ht hj).2 (by omega);have h3:=hdep e he h2;rw [h1,hoff _ (by omega)]at h3
      cases h3
   subst hid
   have ho':l[i]? = some o:=by
    rcases hat i o ho with ⟨h,-⟩ | ⟨j,hj,-,-⟩
    ·exact h
    ·omega
   have:=hdat o ho';subst this;have hw:Region.wanted o (yielded (l ++ (z :: t)).toArray a.tmps)=true:=by unfold Region.wanted;rw [(at1 i o ho').1]
   rw [if_pos hw];unfold Oper.wp;rw [late a w1 w hw1,Oper.upon_value,hsd];refine⟨by simpa using hA,.inl ⟨1,by omega,by simp,fun x hx=>?_,fun x hx=>?_,hq⟩⟩
   ·by_cases e:x=i
    ·subst e;exact aC hiA
    ·rw [getD_set_ne false (Ne.symm e)];exact hon x e (by omega)
   ·rw [getD_set_ne false (by omega)];exact hoff x (by omega)
  ·rcases hat i o ho with ⟨ho',hi⟩ | ⟨j,rfl,hj,hjl⟩
   ·have hdB:∀ e ∈ o.after,Region.binds .any e=true->B.getD e.on false=true:=fun e he hb=>by
     rw [hBA _ (Nat.lt_trans ((at1 i o ho').2.1 e he hb).1 hi)];exact hdep e he hb
    have hw:Region.wanted o (yielded (l ++ (z :: t)).toArray a.tmps)=true:=by unfold Region.wanted;rw [(at1 i o ho').1]
    rw [if_pos hw]
    have hstep:C w->Given l Φ (fun _=>false) a0 o a w->o.wp P a w (fun a' w'=>∃ v,a'=a.put o.dst v/\R w w'/\Φ i (o.dst.elim undef fun _=>v) w') Q:=by
     by_cases e:i=d
     ·subst e;intro _ hG;have:=hdat o ho';subst this;unfold Oper.wp;rw [late a w w (fun e he hb oj hj=>hG.dep e he hb oj hj),Oper.upon_value];refine⟨Vd,rfl,hR0 w,?_⟩;rw [hsd];exact hΦd w
     ·exact step i o a w e ho'
    refine Oper.wp_mono ?_ (gR hB R Φ C hΦ hC hstep hI ho' hdB);rintro a' w' hI';refine⟨by simpa using hA,.inr (.inr ⟨fun x hx=>?_,fun x ox hox hxA e he hb=>?_,_,fun x hx=>?_,hI'⟩)⟩
    ·rw [getD_set_ne false (by omega)];exact hoff x hx
    ·by_cases e1:x=i
     ·subst e1;rw [ho']at hox
      cases hox
      have h1:=((at1 x o ho').2.1 e he hb).1;rw [getD_set_ne false (by omega)];exact hdep e he hb
     ·rw [getD_set_ne false (Ne.symm e1)]at hxA;have h3:=hdn x ox hox hxA e he hb
      by_cases e2:i=e.on
      ·rw [<- e2];exact aC hiA
      ·rw [getD_set_ne false e2];exact h3
    ·by_cases e:i=x
     ·subst e;rw [aC hiA,aC (by rw [hI.lsz];exact hi)]
     ·rw [getD_set_ne false e,getD_set_ne false e];exact hBA x hx
   ·have hj0:j=0:=by
     rcases Nat.eq_zero_or_pos j with h | h
     ·exact h
     ·exfalso
      obtain⟨e,he,h1,h2⟩:=(bu ht hj).2 (by omega);have h3:=hdep e he h2;rw [h1,hoff _ (by omega)]at h3
      cases h3
    subst hj0;have hz':o=z:=by simpa using hj.symm
    subst hz';have hall:=rr hlz hdep hdn;rw [if_pos (hwz a)]
    cases hAd:A.getD d false with
    | true =>
      have hBall:∀ i,i<l.length->B.getD i false=true:=fun i hi=>by
       rw [hBA i hi]
       by_cases e:i=d
       ·rw [e];exact hAd
       ·exact hall i hi e
      obtain⟨w',hrun,htl⟩:=done a w hI.c hI.df hI.sz hI.fr (fun i o ho=>hI.phi i o ho (hBall i (ji ho)));unfold Oper.wp;rw [hrun,Oper.upon_skip,hzd];refine⟨by simpa using hA,.inl ⟨1,by omega,by simp,fun i hi=>?_,fun i hi=>?_,htl⟩⟩
      ·by_cases e:i=l.length
       ·subst e;exact aC hiA
       ·rw [getD_set_ne false (by omega)]
        by_cases e2:i=d
        ·rw [e2];exact hAd
        ·exact hall i (by omega) e2
      ·rw [getD_set_ne false (by omega)];exact hoff i (by omega)
    | false =>
      have hdepd:∀ e ∈ od.after,Region.binds .any e=true->B.getD e.on false=true:=fun e he hb=>by
       have h1:=(at1 d od hd).2.1 e he hb;rw [hBA _ (by omega)];exact hall _ (by omega) h1.2
      have hphid:∀ e ∈ od.after,Region.binds .any e=true->∀ oj,l[e.on]? = some oj->Φ e.on (ba oj a) w:=fun e he hb oj hj=>hI.phi _ _ hj (hdepd e he hb)
      have hfut:=gR (P:=P) (Q:=fun _ _ _=>True) hB R Φ C hΦ hC (i:=d) (o:=od) (a:=a) (w:=w) (L:=B) (fun _ _=>by
       unfold Oper.wp;rw [late a w w hphid,Oper.upon_value];refine⟨Vd,rfl,hR0 w,?_⟩;rw [hsd]
       exact hΦd w) hI hd hdepd
      unfold Oper.wp at hfut;rw [late a w w hphid,Oper.upon_value,hsd]at hfut;have hdB:d<B.size:=by rw [hI.lsz];exact hdl
      have hBall:∀ i,i<l.length->(B.setIfInBounds d true).getD i false=true:=fun i hi=>by
       by_cases e:i=d
       ·subst e;exact aC hdB
       ·rw [getD_set_ne false (Ne.symm e),hBA i hi];exact hall i hi e
      obtain⟨w',hrun,htl⟩:=done _ w hfut.c hfut.df hfut.sz hfut.fr (fun i o ho=>hfut.phi i o ho (hBall i (ji ho)));rw [hzput]at hrun;unfold Oper.wp;rw [hrun,Oper.upon_skip,hzd];refine⟨by simpa using hA,.inr (.inl ⟨fun i hne hi=>?_,?_,fun i hi=>?_,⟨w,hphid⟩,htl⟩)⟩
      ·by_cases e:i=l.length
       ·subst e;exact aC hiA
       ·rw [getD_set_ne false (by omega)];exact hall i (by omega) hne
      ·rw [getD_set_ne false (by omega)];exact hAd
      ·rw [getD_set_ne false (by omega)];exact hoff i (by omega)
 ·rintro A a w ⟨hA,⟨k,hk1,hk2,hon,hoff,hq⟩ | ⟨-,hdoff,-⟩ | ⟨hoff,-⟩⟩ hall
  ·have hk:k=(z :: t).length:=by
    rcases Nat.lt_or_ge k (z :: t).length with h | h
    ·exfalso
     have h1:=hall (l.length+k) (by simp at h ⊢;omega);have h2:=hoff (l.length+k) aH;have h3:l.length+k<A.size:=by omega
     simp only [Array.getD,h3,dif_pos]at h1 h2;rw [h1]at h2
     cases h2
    ·omega
   subst hk
   simpa [aV]using hq
  ·exfalso
   have h1:=hall d (by simp;omega);have h3:d<A.size:=by omega
   simp only [Array.getD,h3,dif_pos]at h1 hdoff;rw [h1]at hdoff
   cases hdoff
  ·exfalso
   have h1:=hall l.length (by simp);have h2:=hoff l.length aH;have h3:l.length<A.size:=by simp at hA;omega
   simp only [Array.getD,h3,dif_pos]at h1 h2;rw [h1]at h2
   cases h2
theorem cI {P:Program} {Q:Exit->Act->World->Prop} {id:Nat} {L:List Oper} {a0:Act} {w0:World} (k d sd x y:Nat) (sty:TypeId) (Vd:Value) {od z:Oper} {t:List Oper}
 (hm:P.follows .mixedOrders=true) (hk:L.drop k=z :: t) (hB:jO (L.take k) a0.tmps.size d=true) (hd:(L.take k)[d]? = some od) (hsd:od.dst=some sd) (hz:z.op=.store sty (.tmp x) (.tmp y)) (hx:x≠sd) (hy:y≠sd)
 (ht:(lw (L.take k).length d z t && oH (L.take k) z d)=true)
 (R:World->World->Prop) (Φ:Nat->Value->World->Prop) (C:World->Prop)
 (hΦ:∀ j v w w',R w w'->Φ j v w->Φ j v w') (hR0:∀ w,R w w) (hC0:C w0.drew) (hC:∀ w w',C w->R w w'->C w') (hΦd:∀ w,Φ d Vd w)
 (late:∀ (a:Act) (w w':World),(∀ e ∈ od.after,Region.binds .any e=true->∀ oj,(L.take k)[e.on]? = some oj->Φ e.on (ba oj a) w)->(execOp a.eval od).run P w'=.ok (.value Vd) w')
 (step:∀ (i:Nat) (o:Oper) (a:Act) (w:World),i≠d->(L.take k)[i]? = some o->C w->Given (L.take k) Φ (fun _=>false) a0 o a w->o.wp P a w (fun a' w'=>∃ v,a'=a.put o.dst v/\R w w'/\Φ i (o.dst.elim undef fun _=>v) w') Q)
 (done:∀ a w,C w->a.defers=a0.defers->a.tmps.size=a0.tmps.size->(∀ s,(∀ oj ∈ L.take k,oj.dst≠some s)->a.tmps.getD s undef=a0.tmps.getD s undef)->(∀ (i:Nat) (o:Oper),(L.take k)[i]? = some o->Φ i (ba o a) w) ->
  ∃ w',(execOp a.eval z).run P w=.ok .skip w'/\aV P L.toArray Q t a w') :
 (Code.region id L.toArray true).wp P Q a0 w0:=by
 have hL:L.take k ++ (z :: t)=L:=by rw [<- hk,List.take_append_drop]
 revert hB hd ht late step done hL;generalize L.take k=l;intro hB hd ht late step done hL;clear hk;subst hL;exact iy d sd x y sty od Vd hm hB hd hsd hz hx hy ht R Φ C hΦ hR0 hC0 hC hΦd late step done
end
end Go.Proofs.YthaliljaglldjaaGreat
