/- Part of the proof. -/
import Derived.Test.YthaliljaglldjaaGreatmBS
import Derived.Test.YthaliljaglldjaaGreatmBM
namespace Go.Proofs.YthaliljaglldjaaGreat
set_option maxHeartbeats 16000000
set_option maxRecDepth 20000
open Go.RowKit Go.ChangeMaps Go.MapKept
section
variable {w:World} {p:Nat} {M:WM} {F:Nat->Prop}
theorem form_nohome15 (hW:IsW w p M F) (h tg bi:Int) (hs:sideB M h=false):Calls Tryz.prog 74 #[.pointer (some ⟨p,0,none⟩),.agg (wr 15 h 0 0 0 0 tg bi 0 false)] w fun e w'=>e=.returned (.bool false)/\Below w.heap.size w w':=by
 go_enter Tryz.func74,Tryz.ntmps74
 go_wp2_with fail
 refine(bare_15 _ h _ _ _ _ tg bi _ _ _ _ _ _ _ _ _ _ _ _ _ _ _ _).mono ?_;rintro e w1 ⟨rfl,hb1⟩;have B1:=below_blk hb1 (blk_new _ _);have aa:=cells16 B1;have hz1:w.heap.size<w1.heap.size:=by have:=hb1.size;simp at this;omega
 have HB1:Hid (Below w.heap.size w w1):=((Below.refl _ _).alloc (Nat.le_refl _) _).trans (hb1.mono (by simp;try omega));clear hb1
 go_wp2_with fail
 refine(blank0_W _).mono ?_;rintro e w2 ⟨rfl,hb2⟩;have B2:=below_blk hb2 (blk_old _ _ B1);clear aa;have aa:=cells16 B2;have hz2:w.heap.size<w2.heap.size:=by have:=hb2.size;simp at this;omega
 have HB2:Hid (Below w.heap.size w w2):=(HB1.out.alloc (by first | omega | (simp;try omega)) _).trans (hb2.mono (by first | omega | (simp;try omega)));clear hb2 B1 HB1 hz1
 go_wp2_with fail
 refine(blank0_W _).mono ?_;rintro e w3 ⟨rfl,hb3⟩;have B3:=below_blk hb3 B2;clear aa;have aa:=cells16 B3;have hz3:w.heap.size<w3.heap.size:=by have:=hb3.size;omega
 have HB3:Hid (Below w.heap.size w w3):=HB2.out.trans (hb3.mono (by first | omega | (simp;try omega)));clear hb3 B2 HB2 hz2
 go_wp2_with fail
 refine(side_W (hW.below HB3.out) h).mono ?_;rw [hs];rintro e _ ⟨rfl,rfl⟩
 go_wp2_with fail
 have hB:=HB3.out;have hZ:w.heap.size≤w3.heap.size:=by omega
 go_ret
 exact⟨rfl,by go_grown⟩
def gateP (M:WM) (h r n:Int):Int :=
 if sideB M h=true then if (M.at r).isSome=true then if (M.at n).isSome=true then if (at7 M n).kind=13/\(at7 M n).home=h/\(at7 M n).tgt=0 then 0 else 70 else 5 else 5 else 70
theorem Gate_no (hW:IsW w p M F) {h r n:Int} (hr:(Lit.int .i64 r).wf=true) (hn:(Lit.int .i64 n).wf=true) (he:gateP M h r n≠0) :
 Calls Tryz.prog 14 #[.pointer (some ⟨p,0,none⟩),.agg (thc (gateT h r n))] w fun e w'=>e=.returned (.tuple #[.int .i64 0,.int .i64 (gateP M h r n)])/\Bl w w':=by
 by_cases hs:sideB M h=true
 rotate_left
 ·have hE:gateP M h r n=70:=by unfold gateP;rw [if_neg hs]
  rw [hE];exact Make_form hW rfl (fun e=>absurd (show (15:Int)=13 from e) (by decide)) fun w1 hb=>form_nohome15 (hW.below hb) h r n (by simpa using hs)
 have hf:∀ w1,Bl w w1->Calls Tryz.prog 74 #[.pointer (some ⟨p,0,none⟩),.agg (wr 15 h 0 0 0 0 r n 0 false)] w1 fun e w'=>e=.returned (.bool true)/\Bl w1 w':=fun w1 hb=>form_15 (hW.below hb) h r n hs;have hnm:∀ w1,Bl w w1->Calls Tryz.prog 75 #[.pointer (some ⟨p,0,none⟩),.agg (wr 15 h 0 0 0 0 r n 0 false)] w1 fun e w'=>e=.returned (.bool true)/\Bl w1 w':=fun w1 hb=>names_W w1 _ 15 h 0 0 0 0 r n 0 false plain0
 cases hra:M.at r with
 | none =>
   have hE:gateP M h r n=5:=by unfold gateP;rw [if_pos hs,if_neg (by rw [hra];decide)]
   rw [hE];exact Make_refOf hW rfl (fun e=>absurd (show (15:Int)=13 from e) (by decide)) hf hnm hr rfl hra
 | some v =>
   have hrs:(M.at r).isSome=true:=by rw [hra];rfl
   cases hna:M.at n with
   | none =>
     have hE:gateP M h r n=5:=by unfold gateP;rw [if_pos hs,if_pos hrs,if_neg (by rw [hna];decide)]
     rw [hE];exact Make_refBy hW rfl (fun e=>absurd (show (15:Int)=13 from e) (by decide)) hf hnm hr hn rfl rfl hrs hna
   | some u =>
     have eu:at7 M n=u:=by unfold at7;rw [hna];rfl
     have hE0:gateP M h r n=if u.kind=13/\u.home=h/\u.tgt=0 then 0 else 70:=by unfold gateP;rw [if_pos hs,if_pos hrs,if_pos (by rw [hna];rfl),eu]
     have hc:¬ (u.kind=13/\u.home=h/\u.tgt=0):=fun e=>he (by rw [hE0,if_pos e]);have hE:gateP M h r n=70:=by rw [hE0,if_neg hc]
     rw [hE];refine Make_fits hW rfl (fun e=>absurd (show (15:Int)=13 from e) (by decide)) hf hnm (fun w1 hb=>?_) hr hn (fun _=>hrs) (fun _=>by rw [hna];rfl)
     by_cases h1:u.kind=13/\u.home=h
     ·exact fits_15_of (hW.below hb) hr hn hna h1.1 h1.2 (fun e=>hc ⟨h1.1,h1.2,e⟩) hra
     ·refine fits_15_no (hW.below hb) hr hn ?_ hra
      by_cases hk:u.kind=13
      ·exact .inr ⟨u,hna,hk,fun e=>h1 ⟨hk,e⟩⟩
      ·exact .inl (by unfold WM.kindOf;rw [hna];exact hk)
end
section
variable {w:World} {p:Nat} {M:WM} {F:Nat->Prop}
abbrev ft (r s:Int):Th:=lt 14 0 0 0 0 0 r 0 s false
theorem Facet_there (hW:IsW w p M F) {r s v q:Int} {t:Th} (hr:(Lit.int .i64 r).wf=true) (hsw:(Lit.int .u8 s).wf=true) (ht:M.at r=some t) (h14:t.kind≠14) (hv:AbleIs M 63 r v) (hs:s≠v)
 (hand:bits BinOp.andNot .u8 s v=0) (hf:M.find r s=some q) :
 Calls Tryz.prog 130 #[.pointer (some ⟨p,0,none⟩),.int .i64 r,.int .u8 s] w fun e w'=>e=.returned (.tuple #[.int .i64 q,.int .i64 0])/\Bl w w':=by
 have HW:Hid (IsW w p M F):=hW;have Hv:Hid (AbleIs M 63 r v):=hv;have hIs:(M.at r).isSome=true:=by rw [ht];rfl
 have hK:(M.kindOf r==14)=false:=by simp [WM.kindOf,ht,h14]
 have hsv:(s==v)=false:=by simpa using hs
 have Hf:Hid (M.find r s=some q):=hf;clear hW hv hf ht
 go_enter Tryz.func130,Tryz.ntmps130
 go_wp2_with fail
 refine(none_W HW.out).mono ?_;rintro e _ ⟨rfl,rfl⟩
 go_wp2_with fail
 refine(Is_W HW.out hr).mono ?_;rw [hIs];rintro e _ ⟨rfl,rfl⟩
 go_wp2_with fail
 refine(Able_W HW.out hr Hv.out).mono ?_;rintro e w1 ⟨rfl,hb1⟩;have HB:Hid (Bl w w1):=hb1;clear hb1
 go_wp2_with fail
 refine(Kind_W (HW.out.below HB.out) hr).mono ?_;rintro e _ ⟨rfl,rfl⟩
 go_wp2_with fail
 refine(Find_W (HW.out.below HB.out) hr hsw).mono ?_;rw [Hf.out];rintro e _ ⟨rfl,rfl⟩
 go_wp2_with fail
 go_ret2
 exact⟨rfl,HB.out⟩
theorem Facet_new (hW:IsW w p M F) {r s v:Int} {t:Th} (hr:(Lit.int .i64 r).wf=true) (hsw:(Lit.int .u8 s).wf=true) (ht:M.at r=some t) (h14:t.kind≠14) (hv:AbleIs M 63 r v) (hs:s≠v)
 (hand:bits BinOp.andNot .u8 s v=0) (hf:M.find r s=none) (hs0:0≤s/\s≤255) (hl:M.last+1≤1099511627776) :
 Calls Tryz.prog 130 #[.pointer (some ⟨p,0,none⟩),.int .i64 r,.int .u8 s] w fun e w'=>e=.returned (.tuple #[.int .i64 (M.last+1),.int .i64 0])/\∃ F',IsW w' p (M.add (ft r s)) F'/\Grew F w F' w':=by
 have a:AddOk M (ft r s):={
  wf:=⟨⟨by show (1:Int)≤14;decide,by show (14:Int)≤16;decide⟩,hr,rfl,hs0⟩
  last:=hl
  home:=fun h=>absurd rfl h
  made:=fun h=>absurd rfl h
  wrap:=fun _=>⟨t,ht⟩
  gate:=fun h=>absurd (show (14:Int)=15 from h) (by decide)
  purse:=fun h=>absurd (show (14:Int)=9 from h) (by decide)
  facet:=fun _=>hf }
 have HA:Hid (AddOk M (ft r s)):=a;have HW:Hid (IsW w p M F):=hW;have Hv:Hid (AbleIs M 63 r v):=hv;have hIs:(M.at r).isSome=true:=by rw [ht];rfl
 have hK:(M.kindOf r==14)=false:=by simp [WM.kindOf,ht,h14]
 have hsv:(s==v)=false:=by simpa using hs
 have Hf:Hid (M.find r s=none):=hf;clear hW hv hf ht a hl
 go_enter Tryz.func130,Tryz.ntmps130
 go_wp2_with fail
 refine(none_W HW.out).mono ?_;rintro e _ ⟨rfl,rfl⟩
 go_wp2_with fail
 refine(Is_W HW.out hr).mono ?_;rw [hIs];rintro e _ ⟨rfl,rfl⟩
 go_wp2_with fail
 refine(Able_W HW.out hr Hv.out).mono ?_;rintro e w1 ⟨rfl,hb1⟩;have HB:Hid (Bl w w1):=hb1;clear hb1
 go_wp2_with fail
 refine(Kind_W (HW.out.below HB.out) hr).mono ?_;rintro e _ ⟨rfl,rfl⟩
 go_wp2_with fail
 refine(Find_W (HW.out.below HB.out) hr hsw).mono ?_;rw [Hf.out];rintro e _ ⟨rfl,rfl⟩
 go_wp2_with fail
 refine(lay_W (HW.out.below HB.out) HA.out (deep_lt _ NoB _ _ _ _ _ _ _ _ _ _) (fun _ h=>h.elim)).mono ?_;rintro e w5 ⟨rfl,hW5,hk5⟩
 have HF:Hid (∃ F',IsW w5 p (M.add (ft r s)) F'/\Grew F w F' w5):=⟨_,hW5,Below.keeps HB.out hk5,by
  have:=HB.out.size;rintro b ((h | h) | h)
  ·exact .inl h
  ·exact h.elim
  ·right;omega⟩
 clear hW5 hk5
 go_wp2_with fail
 go_ret2
 exact⟨rfl,HF.out⟩
end
section
theorem find_first {α:Type} {p:α->Bool}:∀ {l:List α} {i:Nat} {x:α},l[i]? = some x->(∀ (j:Nat) (y:α),j<i->l[j]? = some y->p y=false)->p x=true->l.find? p=some x
 | [],i,x,h,_,_=>by simp at h
 | a :: l,0,x,h,_,hp=>by
   simp only [List.getElem?_cons_zero,Option.some.injEq]at h;subst h;rw [List.find?_cons_of_pos hp]
 | a :: l,i+1,x,h,hb,hp=>by
   rw [List.find?_cons_of_neg (by rw [hb 0 a (Nat.succ_pos i) rfl];decide)];exact find_first (l:=l) (i:=i) (by simpa using h) (fun j y hj hy=>hb (j+1) y (by omega) (by simpa using hy)) hp
def isF (t s:Int) (x:Int × Th):Bool:=x.2.kind==14 && x.2.tgt==t && x.2.set==s
theorem find_def (M:WM) (t s:Int):M.find t s=(M.things.find? (isF t s)).map (·.1):=rfl
theorem find7_W {w:World} {q:Nat} {N:WM} {G:Nat->Prop} (hR:IsR w q N G) (hN:ROk N) (t s:Int) :
 Calls Tryz.prog 59 #[.pointer (some ⟨q,0,none⟩),.int .i64 t,.int .u8 s] w fun e w'=>e=.returned (.tuple #[.int .i64 ((N.find t s).getD 0),.bool (N.find t s).isSome])/\Bl w w':=by
 obtain⟨sP,sC,sT,sM,hV⟩:=hR;obtain⟨n,hn⟩:∃ n,n=N.things.length:=⟨_,rfl⟩
 obtain⟨p0,c0,hsT⟩:∃ p c,sT=.slice p n c:=by
  obtain⟨h1,⟨rfl,h0⟩ | ⟨g,cap,cur,rfl,-⟩⟩:=hV.rt
  ·exact⟨none,0,by rw [hn,h0]⟩
  ·exact⟨_,_,by rw [hn]⟩
 subst hsT;have HV:=(show Hid (RVw w q N G sP sC (.slice p0 n c0) sM)from hV);have HN:Hid (n=N.things.length/\n≤100000):=⟨hn,by have:=hN.len;omega⟩;have HO:Hid (∀ x ∈ N.things,(thc x.2).all (·.oneCell')=true/\IntKind.i64.wrap x.2.kind=x.2.kind):=fun x hx=>⟨(hN.cell x hx).1,by have:=(hN.cell x hx).2;simp [IntKind.wrap,IntKind.signed,IntKind.bits];omega⟩;clear hV hn hN
 go_enter Tryz.func59,Tryz.ntmps59
 go_wp2_with fail
 go_loopw [8] (fun vi wr=>∃ i:Nat,vi=.int .i64 i/\i≤n/\Hid (Bl w wr/\∀ (j:Nat) (y:Int × Th),j<i->N.things[j]? = some y->isF t s y=false)) (fun vi _=>n - (intOf vi).toNat)
 case atStart=>exact⟨0,rfl,Nat.zero_le _,Below.refl _ _,fun j x h=>absurd h (Nat.not_lt_zero j)⟩
 case round =>
  obtain⟨i,rfl,hi,HB⟩:=hrel;have HV1:=(show Hid _ from HV.out.below HB.out.1);have d2:wr.cell? ⟨q,2,none⟩=some (.slice p0 n c0):=by rw [cell_blk HV1.out.blk];rfl
  by_cases hin:i<n
  ·have hiz:(i:Int)<(n:Int):=by omega
   obtain⟨x,hx⟩:∃ x,N.things[i]? = some x:=⟨_,List.getElem?_eq_getElem (by have:=HN.out.1;omega)⟩;obtain⟨hone,hwk⟩:=HO.out x (List.mem_of_getElem? hx);obtain⟨g,c,hs,hg,hc⟩:=HV1.out.ent hx;have hp0:p0=some ⟨g,0,none⟩:=by injection hs
   subst hp0
   have hldw:=loadWhat_mid (w:=wr) (b:=g) (o:=i * 17+1) (t:=x.2) (fun k v hv=>by
    have:=hc (k+1) v (by rw [<- hv];show (_ :: (thc x.2).toList)[k+1]? = _;simp);rw [show i * 17+1+k=i * 17+(k+1) by omega]
    exact this)
   obtain⟨w6,hst,hb6,hg6,-⟩:=boxed_what' wr (thc x.2) rfl hone;have k0:w6.cell? ⟨g,i * 17,none⟩=some (.int .i64 x.1):=(hb6.cell (p:=⟨g,i * 17,none⟩) hg).trans (hc 0 _ rfl);have k1:w6.cell? ⟨wr.heap.size,0,none⟩=some (.int .u8 x.2.kind):=by rw [cell_blk hg6];rfl
   have k2:w6.cell? ⟨wr.heap.size,10,none⟩=some (.int .i64 x.2.tgt):=by rw [cell_blk hg6];rfl
   have k3:w6.cell? ⟨wr.heap.size,12,none⟩=some (.int .u8 x.2.set):=by rw [cell_blk hg6];rfl
   have d6:w6.cell? ⟨q,2,none⟩=some (.slice (some ⟨g,0,none⟩) n c0):=by rw [cell_blk (below_blk hb6 HV1.out.blk)];rfl
   have HB6:Hid (Bl w w6):=HB.out.1.trans (hb6.mono HB.out.1.size);have hwi:wrap64 ((i:Int)+1)=(i:Int)+1:=by have:=HN.out.2;unfold wrap64;omega
   have HS:Hid (isF t s x=false->∀ (j:Nat) (y:Int × Th),j<i+1->N.things[j]? = some y->isF t s y=false):=fun hf j y hj hy=>by
    by_cases e:j=i
    ·subst e;rw [hx]at hy
     cases hy
     exact hf
    ·exact HB.out.2 j y (by omega) hy
   have HT:Hid (isF t s x=true->N.find t s=some x.1):=fun hf=>by rw [find_def,find_first hx HB.out.2 hf];rfl
   clear hs hc hx hb6 hg6 HB HV1 hone hg
   by_cases hk:x.2.kind=14
   ·have hkb:(x.2.kind==14)=true:=by simpa using hk
    by_cases ht:x.2.tgt=t
    ·have htb:(x.2.tgt==t)=true:=by simpa using ht
     by_cases hss:x.2.set=s
     ·have hsb:(x.2.set==s)=true:=by simpa using hss
      have HD:=(show Hid (N.find t s=some x.1)from HT.out (by simp [isF,hk,ht,hss]));clear hk ht hss HT HS
      go_wp2_with fail
      go_ret2
      exact⟨by rw [HD.out];rfl,HB6.out⟩
     ·have hsb:(x.2.set==s)=false:=by simpa using hss
      have HD:=(show Hid _ from HS.out (by simp [isF,hss]));clear hk ht hss HT HS
      go_wp2_with fail
      go_roundw
      case rel=>exact⟨i+1,by go_num,by omega,HB6.out,HD.out⟩
      case measure=>rw [hwi];clear hwi;simp [intOf];omega
    ·have htb:(x.2.tgt==t)=false:=by simpa using ht
     have HD:=(show Hid _ from HS.out (by simp [isF,ht]));clear hk ht HT HS
     go_wp2_with fail
     go_roundw
     case rel=>exact⟨i+1,by go_num,by omega,HB6.out,HD.out⟩
     case measure=>rw [hwi];clear hwi;simp [intOf];omega
   ·have hkb:(x.2.kind==14)=false:=by simpa using hk
    have HD:=(show Hid _ from HS.out (by simp [isF,hk]));clear hk HT HS
    go_wp2_with fail
    go_roundw
    case rel=>exact⟨i+1,by go_num,by omega,HB6.out,HD.out⟩
    case measure=>rw [hwi];clear hwi;simp [intOf];omega
  ·have hiz:¬ (i:Int)<(n:Int):=by omega
   obtain rfl:i=n:=by omega
   have hkk:¬ (i:Int)<(i:Int):=by omega
   have HD:Hid (N.find t s=none):=by
    show _=_;rw [find_def,List.find?_eq_none.2 fun y hy=>?_]
    ·rfl
    ·obtain⟨j,hj⟩:=List.mem_iff_getElem?.1 hy;have hlt:j<i:=by have h1:=(List.getElem?_eq_some_iff.1 hj).1;have h2:=HN.out.1;omega
     rw [HB.out.2 j y hlt hj]
     decide
   go_wp2_with fail
   go_ret2
   exact⟨by rw [HD.out];rfl,HB.out.1⟩
def facetE (M:WM) (r s v:Int):Int:=match M.at r with
 | none=>5
 | some t=>if t.kind=14\/bits BinOp.andNot .u8 s v≠0\/s=v then 70 else 0
theorem facet7_no {w:World} {q:Nat} {N:WM} {G:Nat->Prop} (hR:IsR w q N G) (hN:ROk N) (hok:N.ok) {r s v:Int} (hv:DAble N r v) (he:facetE N r s v≠0) :
 Calls Tryz.prog 136 #[.pointer (some ⟨q,0,none⟩),.int .i64 r,.int .u8 s] w fun e w'=>e=.returned (.tuple #[.int .i64 0,.int .i64 (facetE N r s v)])/\Bl w w':=by
 have HA:=(show Hid _ from at7_W hR hN.len r (fun x hx=>(hN.kd x hx).1));have HC:Hid (∀ w1,Bl w w1->Calls Tryz.prog 52 #[.pointer (some ⟨q,0,none⟩),.int .i64 r] w1 fun e w'=>e=.returned (.int .u8 v)/\Bl w1 w'):=fun w1 hb=>able7_W (hR.below hb) hN hok hv;have hone:=hN.one r
 cases ht:N.at r with
 | none =>
   have ha:at7 N r=lt 0 0 0 0 0 0 0 0 0 false:=by unfold at7;rw [ht];rfl
   have hE:facetE N r s v=5:=by unfold facetE;rw [ht]
   rw [hE];rw [ha,ht]at HA;rw [ha]at hone;clear hR hv ha ht hE he HC
   go_enter Tryz.func136,Tryz.ntmps136
   go_wp2_with fail
   refine Calls.mono HA.out ?_;rintro e w1 ⟨rfl,hb1⟩;obtain⟨w2,hst,hb2,hg2,-⟩:=boxed_what' w1 (thc (lt 0 0 0 0 0 0 0 0 0 false)) rfl hone;have HB2:=(show Hid (Bl w w2)from hb1.trans (hb2.mono hb1.size));clear hb1 hb2 hg2 hone HA
   go_wp2_with fail
   go_ret2
   exact⟨rfl,HB2.out⟩
 | some t =>
   have ha:at7 N r=t:=by unfold at7;rw [ht];rfl
   have hE:facetE N r s v=if t.kind=14\/bits BinOp.andNot .u8 s v≠0\/s=v then 70 else 0:=by unfold facetE;rw [ht]
   have hc:t.kind=14\/bits BinOp.andNot .u8 s v≠0\/s=v:=by
    by_cases h:t.kind=14\/bits BinOp.andNot .u8 s v≠0\/s=v
    ·exact h
    ·rw [hE,if_neg h]at he;exact absurd rfl he
   rw [hE,if_pos hc];have hkr:=(hok.wf r t ht).kind;have hwk:IntKind.i64.wrap t.kind=t.kind:=by simp [IntKind.wrap,IntKind.signed,IntKind.bits];omega
   rw [ha,ht]at HA;rw [ha]at hone;clear hR hv ha ht hE he hkr
   go_enter Tryz.func136,Tryz.ntmps136
   go_wp2_with fail
   refine Calls.mono HA.out ?_;rintro e w1 ⟨rfl,hb1⟩;obtain⟨w2,hst,hb2,hg2,-⟩:=boxed_what' w1 (thc t) rfl hone;have HB2:=(show Hid (Bl w w2/\w2.heap[w1.heap.size]? = some (.cells (thc t) 46 (0,0)))from⟨hb1.trans (hb2.mono hb1.size),hg2⟩);clear hb1 hb2 hg2 hone HA
   go_wp2_with fail
   refine Calls.mono (HC.out w2 HB2.out.1) ?_;rintro e w3 ⟨rfl,hb3⟩;have k0:w3.cell? ⟨w1.heap.size,0,none⟩=some (.int .u8 t.kind):=by rw [cell_blk (below_blk hb3 HB2.out.2)];rfl
   have HB3:=(show Hid (Bl w w3)from HB2.out.1.trans (hb3.mono HB2.out.1.size));clear hb3 HB2 HC hst;obtain⟨z,hz⟩:∃ z,z=bits BinOp.andNot .u8 s v:=⟨_,rfl⟩;rw [<- hz]at hc
   by_cases h14:t.kind=14
   ·have hkb:(t.kind==14)=true:=by simpa using h14
    clear h14 hc hz
    go_wp2_with fail
    go_ret2
    exact⟨rfl,HB3.out⟩
   ·have hkb:(t.kind==14)=false:=by simpa using h14
    by_cases h0:z=0
    ·have hsv:s=v:=by
      rcases hc with h | h | h
      ·exact absurd h h14
      ·exact absurd h0 h
      ·exact h
     subst hsv;rw [h0]at hz;have hz':=hz.symm;clear h14 hc hz h0
     go_wp2_with fail
     go_ret2
     exact⟨rfl,HB3.out⟩
    ·have hz':=hz.symm;have hzb:(z==0)=false:=by simpa using h0
     have hzn:(z != 0)=true:=by simpa using h0
     clear h14 hc hz h0
     go_wp2_with fail
     go_ret2
     exact⟨rfl,HB3.out⟩
def FacetR (w:World) (q:Nat) (N:WM) (G:Nat->Prop) (r s:Int) (e:Ending) (w':World):Prop :=
 (∃ x,N.find r s=some x/\e=.returned (.tuple #[.int .i64 x,.int .i64 0])/\Bl w w') \/
 (N.find r s=none/\e=.returned (.tuple #[.int .i64 (N.last+1),.int .i64 0])/\∃ G',IsR w' q (N.add (ft r s)) G'/\Grew G w G' w')
theorem facet7_W {w:World} {q:Nat} {N:WM} {G:Nat->Prop} (hR:IsR w q N G) (hN:ROk N) (hok:N.ok) {r s v:Int} (hv:DAble N r v) (he:facetE N r s v=0) :
 Calls Tryz.prog 136 #[.pointer (some ⟨q,0,none⟩),.int .i64 r,.int .u8 s] w (FacetR w q N G r s):=by
 have HA:=(show Hid _ from at7_W hR hN.len r (fun x hx=>(hN.kd x hx).1));have HC:Hid (∀ w1,Bl w w1->Calls Tryz.prog 52 #[.pointer (some ⟨q,0,none⟩),.int .i64 r] w1 fun e w'=>e=.returned (.int .u8 v)/\Bl w1 w'):=fun w1 hb=>able7_W (hR.below hb) hN hok hv;have HF:Hid (∀ w1,Bl w w1->Calls Tryz.prog 59 #[.pointer (some ⟨q,0,none⟩),.int .i64 r,.int .u8 s] w1 fun e w'=>e=.returned (.tuple #[.int .i64 ((N.find r s).getD 0),.bool (N.find r s).isSome])/\Bl w1 w'):=fun w1 hb=>find7_W (hR.below hb) hN r s
 have HD:Hid (∀ w1,Bl w w1->Calls Tryz.prog 83 #[.pointer (some ⟨q,0,none⟩),.agg (thc (ft r s))] w1 (AddR w1 q N G (ft r s))):=fun w1 hb =>
  add7_W (F:=fun _=>False) (hR.below hb) hN.len hok.last (ft r s) (SlAt.nil _ _ _ _) (SlAt.nil _ _ _ _) rfl rfl (depV_may (by rfl)) (fun x hx=>by cases hx) (Nat.zero_le _) (fun b h=>h.elim)
 have hone:=hN.one r
 cases ht:N.at r with
 | none =>
   unfold facetE at he;rw [ht]at he;exact absurd (show (5:Int)=0 from he) (by decide)
 | some t =>
   have ha:at7 N r=t:=by unfold at7;rw [ht];rfl
   have hc:¬ (t.kind=14\/bits BinOp.andNot .u8 s v≠0\/s=v):=fun h=>by
    unfold facetE at he;rw [ht]at he;simp only [if_pos h]at he;exact absurd he (by decide)
   have hkr:=(hok.wf r t ht).kind;have hwk:IntKind.i64.wrap t.kind=t.kind:=by simp [IntKind.wrap,IntKind.signed,IntKind.bits];omega
   have hkb:(t.kind==14)=false:=by simpa using fun h=>hc (.inl h)
   have hz':bits BinOp.andNot .u8 s v=0:=Decidable.byContradiction fun h=>hc (.inr (.inl h));have hsb:(s==v)=false:=by simpa using fun h=>hc (.inr (.inr h))
   rw [ha,ht]at HA;rw [ha]at hone;clear hR hv ha ht he hkr hc
   go_enter Tryz.func136,Tryz.ntmps136
   go_wp2_with fail
   refine Calls.mono HA.out ?_;rintro e w1 ⟨rfl,hb1⟩;obtain⟨w2,hst,hb2,hg2,-⟩:=boxed_what' w1 (thc t) rfl hone;have HB2:=(show Hid (Bl w w2/\w2.heap[w1.heap.size]? = some (.cells (thc t) 46 (0,0)))from⟨hb1.trans (hb2.mono hb1.size),hg2⟩);clear hb1 hb2 hg2 hone HA
   go_wp2_with fail
   refine Calls.mono (HC.out w2 HB2.out.1) ?_;rintro e w3 ⟨rfl,hb3⟩;have k0:w3.cell? ⟨w1.heap.size,0,none⟩=some (.int .u8 t.kind):=by rw [cell_blk (below_blk hb3 HB2.out.2)];rfl
   have HB3:=(show Hid (Bl w w3)from HB2.out.1.trans (hb3.mono HB2.out.1.size));clear hb3 HB2 HC hst
   go_wp2_with fail
   refine Calls.mono (HF.out w3 HB3.out) ?_;rintro e w4 ⟨rfl,hb4⟩;have HB4:=(show Hid (Bl w w4)from HB3.out.trans (hb4.mono HB3.out.size));clear hb4 HB3 HF k0;obtain⟨fnd,hf⟩:∃ f,f=N.find r s:=⟨_,rfl⟩;have HX:=(show Hid (N.find r s=fnd)from hf.symm);rw [<- hf];clear hf
   cases fnd with
   | some x =>
     go_wp2_with fail
     go_ret2
     exact .inl ⟨x,HX.out,rfl,HB4.out⟩
   | none =>
     go_wp2_with fail
     refine Calls.mono (HD.out w4 HB4.out) ?_;rintro e w5 ⟨vl',vals',G',rfl,h1,h2,h3,h4,h5⟩
     have HZ:=(show Hid (∃ G',IsR w5 q (N.add (ft r s)) G'/\Grew G w G' w5)from⟨G',by
      have e1:=h4 rfl;have e2:=h5 rfl;subst e1 e2
      exact h1,Below.keeps HB4.out h2,fun b hb=>(h3 b hb).imp id fun h=>Nat.le_trans HB4.out.size h⟩)
     clear h1 h2 h3 h4 h5
     go_wp2_with fail
     go_ret2
     exact .inr ⟨HX.out,rfl,HZ.out⟩
end
section
variable {M:WM}
def TThing (M:WM) (r:Int) (t:Th):Prop :=
 (∃ k h,t=lt k h 0 0 0 0 0 0 0 false/\(k=1\/k=2\/k=4\/k=5\/k=10\/k=12)) \/
 (∃ h n,t=tallyT h n/\0≤n/\n≤9007199254740992) \/
 (∃ h n,t=lt 8 h 0 0 n 0 0 0 0 false/\0≤n/\n≤9007199254740992) \/
 (∃ h g,t=lt 13 h 0 0 0 0 g 0 0 false/\(g=0\/∃ u,M.at g=some u/\u.kind=15/\u.bi=r)) \/
 (∃ x d,t=ft x 1/\(∃ u,M.at x=some u/\u.kind≠14)/\DAble M x d/\bits BinOp.andNot .u8 1 d=0/\d≠1) \/
 (∃ h x n,t=gateT h x n/\(∃ u,M.at x=some u)/\∃ u,M.at n=some u/\u.kind=13/\u.home=h/\u.tgt=r) \/
 (∃ h x n,t=tapT h x n/\(∃ u,M.at x=some u)/\∃ u,M.at n=some u/\u.kind=3/\u.home=h)
theorem TThing.lt {r:Int} {t:Th} (h:TThing M r t):∃ k h n tg bi s,t=lt k h 0 0 n 0 tg bi s false:=by
 rcases h with ⟨k,h,e,-⟩ | ⟨h,n,e,-⟩ | ⟨h,n,e,-⟩ | ⟨h,g,e,-⟩ | ⟨x,d,e,-⟩ | ⟨h,x,n,e,-⟩ | ⟨h,x,n,e,-⟩ <;> exact⟨_,_,_,_,_,_,e⟩
structure TP (M:WM):Prop where
 ok:M.ok
 things:∀ x ∈ M.things,TThing M x.1 x.2
 made:M.made.length=3
 cuts:∀ x ∈ M.cuts,x=false
theorem TP.at (h:TP M) {r:Int} {t:Th} (ht:M.at r=some t):TThing M r t:=h.things (r,t) (at_mem ht)
theorem TP.q (h:TP M) (hl:M.last≤100000):TQ M:=⟨h.ok,fun x hx=>by
 obtain⟨k,hh,n,tg,bi,s,e⟩:=(h.things x hx).lt
 exact⟨_,_,_,_,_,_,_,_,e⟩,hl⟩
def AbleD (d:Int):Prop:=d=0\/d=1\/d=3\/d=9\/d=12\/d=16\/d=33
theorem able_base {k d:Int} (hd:AbleD d) (hk:d=canM k):meet2 63 (canM k)=d/\meet2 1 (canM k)=meet2 1 d:=by
 rw [<- hk];refine⟨?_,rfl⟩
 rcases hd with rfl | rfl | rfl | rfl | rfl | rfl | rfl <;> decide
theorem able_one {d:Int} (hd:AbleD d) (h:bits BinOp.andNot .u8 1 d=0):meet2 1 d=1:=by
 rcases hd with rfl | rfl | rfl | rfl | rfl | rfl | rfl <;> first | decide | exact absurd h (by decide)
theorem canM_D {k:Int} (hk:k=1\/k=2\/k=4\/k=5\/k=10\/k=12\/k=3\/k=8\/k=13):AbleD (canM k):=by
 rcases hk with rfl | rfl | rfl | rfl | rfl | rfl | rfl | rfl | rfl
 ·exact .inr (.inr (.inl rfl))
 ·exact .inr (.inr (.inr (.inl rfl)))
 ·exact .inr (.inr (.inr (.inr (.inl rfl))))
 ·exact .inr (.inr (.inr (.inr (.inr (.inl rfl)))))
 ·exact .inr (.inl rfl)
 ·exact .inr (.inr (.inr (.inr (.inr (.inl rfl)))))
 ·exact .inr (.inr (.inr (.inl rfl)))
 ·exact .inr (.inr (.inr (.inr (.inr (.inl rfl)))))
 ·exact .inr (.inr (.inr (.inr (.inr (.inr rfl)))))
theorem DAble.uniq {r v v':Int} (h:DAble M r v) (h':DAble M r v'):v=v':=by
 obtain⟨f,h⟩:=h;obtain⟨f',h'⟩:=h';exact(h (f+f') (by omega)).symm.trans (h' (f+f') (by omega))
theorem TP.able (h:TP M) (r:Int):∃ d,AbleD d/\DAble M r d/\AbleIs M 63 r d/\AbleIs M 1 r (meet2 1 d):=by
 obtain⟨rk,-,hrk⟩:=h.ok.wrap;generalize hm:rk r=m
 induction m using Nat.strongRecOn generalizing r with
 | ind m ih =>
   subst hm
   cases hr:M.at r with
   | none=>exact⟨0,.inl rfl,DAble.mk_none hr,AbleIs.mk_none hr,by
    have:meet2 1 0=0:=by decide
    rw [this];exact AbleIs.mk_none hr⟩
   | some t =>
     have base:∀ k:Int,t.kind=k->(k=1\/k=2\/k=4\/k=5\/k=10\/k=12\/k=3\/k=8\/k=13)->∃ d,AbleD d/\DAble M r d/\AbleIs M 63 r d/\AbleIs M 1 r (meet2 1 d):=fun k e hk=>by
      have h14:¬ t.kind=14:=by omega
      have hw:¬ (t.kind=15\/t.kind=16):=by omega
      obtain⟨e1,e2⟩:=able_base (canM_D hk) rfl;refine⟨canM k,canM_D hk,?_,?_,?_⟩
      ·have:=DAble.mk_base hr h14 hw;rw [e]at this;exact this
      ·have:=AbleIs.mk_base (s:=63) hr h14 hw;rw [e,e1]at this;exact this
      ·have:=AbleIs.mk_base (s:=1) hr h14 hw;rw [e]at this;exact this
     have wrap:t.kind=15\/t.kind=16->∃ d,AbleD d/\DAble M r d/\AbleIs M 63 r d/\AbleIs M 1 r (meet2 1 d):=fun hk=>by
      obtain⟨d,h1,h2,h3,h4⟩:=ih _ (hrk r t hr (by rcases hk with e | e <;> simp [wrapsB,e])).2 t.tgt rfl
      exact⟨d,h1,DAble.mk_wrap hr hk h2,AbleIs.mk_wrap hr hk h3,AbleIs.mk_wrap hr hk h4⟩
     rcases h.at hr with ⟨k,hh,e,hk⟩ | ⟨hh,n,e,-⟩ | ⟨hh,n,e,-⟩ | ⟨hh,g,e,-⟩ | ⟨x,d,e,-,hd,ha,hd1⟩ | ⟨hh,x,n,e,-⟩ | ⟨hh,x,n,e,-⟩
     ·exact base k (by rw [e]) (by omega)
     ·exact base 3 (by rw [e]) (by decide)
     ·exact base 8 (by rw [e]) (by decide)
     ·exact base 13 (by rw [e]) (by decide)
     ·have h14:t.kind=14:=by rw [e]
      have hset:t.set=1:=by rw [e]
      have htg:t.tgt=x:=by rw [e]
      obtain⟨d',h1,h2,h3,h4⟩:=ih _ (hrk r t hr (by simp [wrapsB,h14])).2 t.tgt rfl;rw [htg]at h2;obtain rfl:=h2.uniq hd;have e1:=able_one h1 ha;rw [e1]at h4;refine⟨1,.inr (.inl rfl),?_,?_,?_⟩
      ·have:=DAble.mk_facet hr h14;rw [hset]at this;exact this
      ·exact AbleIs.mk_facet hr h14 (by rw [hset,show meet2 63 1=1 by decide];exact h4)
      ·rw [show meet2 1 1=1 by decide];exact AbleIs.mk_facet hr h14 (by rw [hset,show meet2 1 1=1 by decide];exact h4)
     ·exact wrap (.inl (by rw [e]))
     ·exact wrap (.inr (by rw [e]))
end
section
variable {w:World} {p q:Nat} {M:WM} {F G:Nat->Prop}
structure TS (w:World) (p q:Nat) (M:WM) (F G:Nat->Prop):Prop where
 W:IsW w p M F
 R:IsR w q M G
 ap:∀ b,F b->¬ G b
 tp:TP M
def TStep (w:World) (p q:Nat) (M:WM) (F G:Nat->Prop) (w':World):Prop :=
 ∃ M' F' G',TS w' p q M' F' G'/\M'.last≤M.last+2/\Keeps (fun b=>F b\/G b) w w'/\∀ b,F' b\/G' b->(F b\/G b)\/w.heap.size≤b
def Tw2 (w:World) (p q:Nat) (M:WM) (F G:Nat->Prop) (f:FuncId) (a:Array Value) (g:FuncId) (b:Array Value):Prop :=
 Calls Tryz.prog f a w fun e w5=>∃ x y,e=.returned (.tuple #[.int .i64 x,.int .i64 y])/\Keeps (fun b=>F b\/G b) w w5 /\
  ∀ w',Bl w5 w'->Calls Tryz.prog g b w' fun e w6=>e=.returned (.tuple #[.int .i64 x,.int .i64 y])/\TStep w p q M F G w6
def Tw1 (x:Int) (w:World) (p q:Nat) (M:WM) (F G:Nat->Prop) (f:FuncId) (a:Array Value) (g:FuncId) (b:Array Value):Prop :=
 Calls Tryz.prog f a w fun e w5=>e=.returned (.int .i64 x)/\Keeps (fun b=>F b\/G b) w w5 /\
  ∀ w',Bl w5 w'->Calls Tryz.prog g b w' fun e w6=>e=.returned (.int .i64 x)/\TStep w p q M F G w6/\Keeps G w' w6
theorem TStep.of_below {w0 w w':World} {p q:Nat} {M:WM} {F G:Nat->Prop} (h:TStep w p q M F G w') (hb:Bl w0 w):TStep w0 p q M F G w':=by
 obtain⟨M',F',G',h1,h2,h3,h4⟩:=h;exact⟨M',F',G',h1,h2,Below.keeps hb h3,fun b h=>(h4 b h).imp id fun h=>Nat.le_trans hb.size h⟩
theorem TS.below {w':World} (S:TS w p q M F G) (hb:Bl w w'):TS w' p q M F G:=⟨S.W.below hb,S.R.below hb,S.ap,S.tp⟩
theorem TS.same {w':World} (S:TS w p q M F G) (hb:Bl w w'):TStep w p q M F G w' :=
 ⟨M,F,G,S.below hb,by omega,Keeps.of_below hb,fun b h=>.inl h⟩
theorem TS.two {w5 w6:World} {M':WM} {F' G':Nat->Prop} (S:TS w p q M F G) (hW:IsW w5 p M' F') (hg:Grew F w F' w5) (hR:IsR w6 q M' G') (hg2:Grew G w5 G' w6) (hP:TP M') (hl:M'.last≤M.last+2):TStep w p q M F G w6:=by
 have hFG:∀ b,F' b->¬ G b:=fun b h1 h2=>(hg.2 b h1).elim (fun h=>S.ap b h h2) fun h=>by have:=S.R.lt b h2;omega
 exact⟨M',F',G',⟨hW.keeps hg2.1 hFG,hR,fun b h1 h2=>(hg2.2 b h2).elim (hFG b h1) fun h=>by have:=hW.lt b h1;omega,hP⟩,hl,hg.1.trans hg2.1 (fun _ _ h=>.inl h) (fun _ _ h=>.inr h),
  fun b h=>h.elim (fun h=>(hg.2 b h).imp .inl id) (fun h=>(hg2.2 b h).imp .inr fun h=>Nat.le_trans hg.1.size h)⟩
theorem TS.R5 {w5:World} {F':Nat->Prop} (S:TS w p q M F G) (hg:Grew F w F' w5):IsR w5 q M G:=S.R.keeps hg.1 fun b h1 h2=>S.ap b h2 h1
theorem Tw2.below {f g:FuncId} {a b:Array Value} {x y:Int} (S:TS w p q M F G) (h1:Calls Tryz.prog f a w fun e w'=>e=.returned (.tuple #[.int .i64 x,.int .i64 y])/\Bl w w')
 (h2:∀ w',Bl w w'->Calls Tryz.prog g b w' fun e w''=>e=.returned (.tuple #[.int .i64 x,.int .i64 y])/\Bl w' w''):Tw2 w p q M F G f a g b :=
 h1.mono fun _ _ ⟨e1,hb⟩=>⟨x,y,e1,Keeps.of_below hb,fun w' hb'=>(h2 w' (hb.trans (hb'.mono hb.size))).mono fun _ _ ⟨e2,hb2⟩=>⟨e2,S.same ((hb.trans (hb'.mono hb.size)).trans (hb2.mono (Nat.le_trans hb.size hb'.size)))⟩⟩
theorem Tw1.below {f g:FuncId} {a b:Array Value} {x:Int} (S:TS w p q M F G) (h1:Calls Tryz.prog f a w fun e w'=>e=.returned (.int .i64 x)/\Bl w w')
 (h2:∀ w',Bl w w'->Calls Tryz.prog g b w' fun e w''=>e=.returned (.int .i64 x)/\Bl w' w''):Tw1 x w p q M F G f a g b :=
 h1.mono fun _ _ ⟨e1,hb⟩=>⟨e1,Keeps.of_below hb,fun w' hb'=>(h2 w' (hb.trans (hb'.mono hb.size))).mono fun _ _ ⟨e2,hb2⟩=>⟨e2,S.same ((hb.trans (hb'.mono hb.size)).trans (hb2.mono (Nat.le_trans hb.size hb'.size))),Keeps.of_below hb2⟩⟩
theorem Tw2.made {f g:FuncId} {a b:Array Value} (S:TS w p q M F G) {h:Int} {t:Th} (h15:t.kind≠15) (h1:Calls Tryz.prog f a w (MadeL w p M F h t)) (h2:∀ w',IsR w' q M G->Calls Tryz.prog g b w' (MadeLR w' q M G h t))
 (hP:M.made.getD h.toNat 0<512->TP (M.add t)):Tw2 w p q M F G f a g b:=by
 refine h1.mono ?_;rintro e w5 (⟨hr,rfl,F',hW,hg⟩ | ⟨hr,rfl,hb⟩)
 ·refine⟨_,_,rfl,hg.1.mono fun _ _ h=>.inl h,fun w5' hb'=>(h2 w5' (S.R5 (hg.on hb'))).mono ?_⟩;rintro e w6 (⟨kr,rfl,G',hR,hg6⟩ | ⟨kr,-⟩)
  ·have e1:makeM M t=M.add t:=by unfold makeM;rw [if_neg h15]
   rw [e1]at hW;exact⟨rfl,S.two (hW.below hb') (hg.on hb') hR hg6 (hP hr) (by show M.last+1≤M.last+2;omega)⟩
  ·exact absurd hr kr
 ·refine⟨_,_,rfl,Keeps.of_below hb,fun w5' hb'=>(h2 w5' (S.R.below (hb.trans (hb'.mono hb.size)))).mono ?_⟩;rintro e w6 (⟨kr,-⟩ | ⟨kr,rfl,hb6⟩)
  ·exact absurd kr hr
  ·exact⟨rfl,S.same ((hb.trans (hb'.mono hb.size)).trans (hb6.mono (Nat.le_trans hb.size hb'.size)))⟩
end
section
variable {w:World} {p:Nat} {M:WM} {F:Nat->Prop}
theorem Facet_no (hW:IsW w p M F) {r s v:Int} (hr:(Lit.int .i64 r).wf=true) (hv:AbleIs M 63 r v) (he:facetE M r s v≠0) :
 Calls Tryz.prog 130 #[.pointer (some ⟨p,0,none⟩),.int .i64 r,.int .u8 s] w fun e w'=>e=.returned (.tuple #[.int .i64 0,.int .i64 (facetE M r s v)])/\Bl w w':=by
 have HW:Hid (IsW w p M F):=hW;have Hv:Hid (AbleIs M 63 r v):=hv
 cases ht:M.at r with
 | none =>
   have hE:facetE M r s v=5:=by unfold facetE;rw [ht]
   rw [hE];have hI:=Is_W hW hr;rw [ht]at hI;have HI:=(show Hid _ from hI);clear hW hv ht he hE hI
   go_enter Tryz.func130,Tryz.ntmps130
   go_wp2_with fail
   refine(none_W HW.out).mono ?_;rintro e _ ⟨rfl,rfl⟩
   go_wp2_with fail
   refine Calls.mono HI.out ?_;rintro e _ ⟨rfl,rfl⟩
   go_wp2_with fail
   go_ret2
   exact⟨rfl,Below.refl _ _⟩
 | some t =>
   have hE0:facetE M r s v=if t.kind=14\/bits BinOp.andNot .u8 s v≠0\/s=v then 70 else 0:=by unfold facetE;rw [ht]
   have hc:t.kind=14\/bits BinOp.andNot .u8 s v≠0\/s=v:=by
    by_cases h:t.kind=14\/bits BinOp.andNot .u8 s v≠0\/s=v
    ·exact h
    ·rw [hE0,if_neg h]at he;exact absurd rfl he
   have hE:facetE M r s v=70:=by rw [hE0,if_pos hc]
   rw [hE];have hI:=Is_W hW hr;rw [ht]at hI;have HI:=(show Hid _ from hI);have hkk:M.kindOf r=t.kind:=by unfold WM.kindOf;rw [ht];rfl
   have HK:Hid (∀ w1,Bl w w1->Calls Tryz.prog 50 #[.pointer (some ⟨p,0,none⟩),.int .i64 r] w1 fun e w'=>e=.returned (.int .u8 t.kind)/\w1=w'):=fun w1 hb=>by
    have:=Kind_W (hW.below hb) hr;rw [hkk]at this;exact this
   have HA:=(show Hid _ from Able_W hW hr hv);clear hW hv ht he hE hE0 hI hkk;generalize t.kind=k at *;obtain⟨z,hz⟩:∃ z,z=bits BinOp.andNot .u8 s v:=⟨_,rfl⟩;rw [<- hz]at hc
   go_enter Tryz.func130,Tryz.ntmps130
   go_wp2_with fail
   refine(none_W HW.out).mono ?_;rintro e _ ⟨rfl,rfl⟩
   go_wp2_with fail
   refine Calls.mono HI.out ?_;rintro e _ ⟨rfl,rfl⟩
   go_wp2_with fail
   refine Calls.mono HA.out ?_;rintro e w1 ⟨rfl,hb1⟩;have HB:Hid (Bl w w1):=hb1;clear hb1
   go_wp2_with fail
   refine Calls.mono (HK.out w1 HB.out) ?_;rintro e _ ⟨rfl,rfl⟩
   by_cases h14:k=14
   ·have hkb:(k==14)=true:=by simpa using h14
    clear h14 hc hz
    go_wp2_with fail
    go_ret2
    exact⟨rfl,HB.out⟩
   ·have hkb:(k==14)=false:=by simpa using h14
    by_cases hsv:s=v
    ·have hsb:(s==v)=true:=by simpa using hsv
     clear h14 hc hz hsv
     go_wp2_with fail
     go_ret2
     exact⟨rfl,HB.out⟩
    ·have hsb:(s==v)=false:=by simpa using hsv
     have hz0:z≠0:=by
      rcases hc with h | h | h
      ·exact absurd h h14
      ·exact h
      ·exact absurd h hsv
     have hz':=hz.symm;have hzn:(z != 0)=true:=by simpa using hz0
     have hzb:(z==0)=false:=by simpa using hz0
     clear h14 hc hz hsv hz0
     go_wp2_with fail
     go_ret2
     exact⟨rfl,HB.out⟩
end
section
variable {w:World} {p q:Nat} {M:WM} {F G:Nat->Prop}
def Wider (M M':WM):Prop:=∀ r t,M.at r=some t->∃ t',M'.at r=some t'/\t'.kind=t.kind/\(wrapsB t.kind=true->t'.tgt=t.tgt/\t'.set=t.set)
theorem dable_ext {M':WM} (hok:M.ok) (hx:Wider M M'):∀ (f:Nat) (r:Int),(∃ t,M.at r=some t)->dableF M' f r=dableF M f r
 | 0,_,_=>rfl
 | f+1,r,⟨t,ht⟩=>by
   obtain⟨t',h1,h2,h3⟩:=hx r t ht;simp only [dableF,h1,ht,h2];obtain⟨rk,-,hrk⟩:=hok.wrap
   by_cases h14:t.kind=14
   ·rw [if_pos h14,if_pos h14,(h3 (by simp [wrapsB,h14])).2]
   ·rw [if_neg h14,if_neg h14]
    by_cases hk:t.kind=15\/t.kind=16
    ·have hw:wrapsB t.kind=true:=by rcases hk with e | e <;> simp [wrapsB,e]
     rw [if_pos hk,if_pos hk,(h3 hw).1];exact dable_ext hok hx f t.tgt (hrk r t ht hw).1
    ·rw [if_neg hk,if_neg hk]
theorem DAble.wider {M':WM} (hok:M.ok) (hx:Wider M M') {r d:Int} {t:Th} (ht:M.at r=some t) (h:DAble M r d):DAble M' r d:=by
 obtain⟨f0,h⟩:=h;exact⟨f0,fun f hf=>(dable_ext hok hx f r ⟨t,ht⟩).trans (h f hf)⟩
theorem wider_add (hok:M.ok) (t:Th):Wider M (M.add t):=fun _ u hu=>⟨u,WM.add_at_old hok t hu,rfl,fun _=>⟨rfl,rfl⟩⟩
theorem TThing.add (hok:M.ok) (t:Th) {r:Int} {u:Th} (h:TThing M r u):TThing (M.add t) r u:=by
 have up:∀ x v,M.at x=some v->(M.add t).at x=some v:=fun x v hv=>WM.add_at_old hok t hv
 rcases h with h | h | h | ⟨hh,g,e,hg⟩ | ⟨x,d,e,⟨v,hv,hv14⟩,hd,h1,h2⟩ | ⟨hh,x,n,e,⟨v,hv⟩,u',hu,h1⟩ | ⟨hh,x,n,e,⟨v,hv⟩,u',hu,h1⟩
 ·exact .inl h
 ·exact .inr (.inl h)
 ·exact .inr (.inr (.inl h))
 ·refine .inr (.inr (.inr (.inl ⟨hh,g,e,hg.imp id fun⟨v,hv,h1⟩=>⟨v,up g v hv,h1⟩⟩)))
 ·exact .inr (.inr (.inr (.inr (.inl ⟨x,d,e,⟨v,up x v hv,hv14⟩,hd.wider hok (wider_add hok t) hv,h1,h2⟩))))
 ·exact .inr (.inr (.inr (.inr (.inr (.inl ⟨hh,x,n,e,⟨v,up x v hv⟩,u',up n u' hu,h1⟩)))))
 ·exact .inr (.inr (.inr (.inr (.inr (.inr ⟨hh,x,n,e,⟨v,up x v hv⟩,u',up n u' hu,h1⟩)))))
theorem TP.add (h:TP M) {t:Th} (a:AddOk M t) (ht:TThing (M.add t) (M.last+1) t):TP (M.add t) where
 ok:=WM.add_ok h.ok a
 things:=fun x hx=>by
  rcases List.mem_append.1 (show x ∈ M.things ++ [(M.last+1,t)]from hx)with hx | hx
  ·exact(h.things x hx).add h.ok t
  ·rw [List.mem_singleton.1 hx];exact ht
 made:=by rw [(WM.add_ok h.ok a).made,← h.made,h.ok.made];rfl
 cuts:=h.cuts
theorem facet2 (S:TS w p q M F G) (hl:M.last+2≤100000) {r:Int} (hr:(Lit.int .i64 r).wf=true) :
 Tw2 w p q M F G 130 #[.pointer (some ⟨p,0,none⟩),.int .i64 r,.int .u8 1] 136 #[.pointer (some ⟨q,0,none⟩),.int .i64 r,.int .u8 1]:=by
 have hQ:=S.tp.q (by omega);obtain⟨d,hD,hd,h63,-⟩:=S.tp.able r
 by_cases he:facetE M r 1 d=0
 rotate_left
 ·exact Tw2.below S (Facet_no S.W hr h63 he) fun w' hb=>facet7_no (S.R.below hb) hQ.good.ok S.tp.ok hd he
 cases ht:M.at r with
 | none =>
   have:facetE M r 1 d=5:=by unfold facetE;rw [ht]
   rw [this]at he
   cases he
 | some t =>
   have hc:¬ (t.kind=14\/bits BinOp.andNot .u8 1 d≠0\/(1:Int)=d):=fun e=>by
    have:facetE M r 1 d=70:=by unfold facetE;rw [ht];exact if_pos e
    rw [this]at he
    cases he
   have h14:t.kind≠14:=fun e=>hc (.inl e);have hand:bits BinOp.andNot .u8 1 d=0:=Decidable.byContradiction fun e=>hc (.inr (.inl e));have h1d:(1:Int)≠d:=fun e=>hc (.inr (.inr e))
   cases hf:M.find r 1 with
   | some x =>
     refine Tw2.below (x:=x) (y:=0) S (Facet_there S.W hr rfl ht h14 h63 h1d hand hf) fun w' hb=>(facet7_W (S.R.below hb) hQ.good.ok S.tp.ok hd he).mono fun e w'' h7=>?_
     rcases h7 with ⟨y,h1,h2,h3⟩ | ⟨h1,-⟩
     ·rw [hf]at h1
      cases h1
      exact⟨h2,h3⟩
     ·rw [hf]at h1
      cases h1
   | none =>
     have hA:AddOk M (ft r 1):={
      wf:=⟨⟨by show (1:Int)≤14;decide,by show (14:Int)≤16;decide⟩,hr,rfl,by show (0:Int)≤1/\(1:Int)≤255;decide⟩
      last:=by omega
      home:=fun h=>absurd rfl h
      made:=fun h=>absurd rfl h
      wrap:=fun _=>⟨t,ht⟩
      gate:=fun h=>absurd (show (14:Int)=15 from h) (by decide)
      purse:=fun h=>absurd (show (14:Int)=9 from h) (by decide)
      facet:=fun _=>hf }
     have hP:TP (M.add (ft r 1)):=S.tp.add hA (.inr (.inr (.inr (.inr (.inl ⟨r,d,rfl,⟨t,WM.add_at_old S.tp.ok _ ht,h14⟩,hd.wider S.tp.ok (wider_add S.tp.ok _) ht,hand,fun e=>h1d e.symm⟩)))));refine(Facet_new S.W hr rfl ht h14 h63 h1d hand hf (by decide) (by omega)).mono ?_;rintro e w5 ⟨rfl,F',hW,hg⟩;refine⟨_,_,rfl,hg.1.mono fun _ _ h=>.inl h,fun w5' hb'=>(facet7_W (S.R5 (hg.on hb')) hQ.good.ok S.tp.ok hd he).mono ?_⟩;rintro e w6 (⟨y,h1,-⟩ | ⟨-,rfl,G',hR,hg6⟩)
     ·rw [hf]at h1
      cases h1
     ·exact⟨rfl,S.two (hW.below hb') (hg.on hb') hR hg6 hP (by show M.last+1≤M.last+2;omega)⟩
end
section
variable {w:World} {p:Nat} {M:WM} {F:Nat->Prop}
def mayT (M:WM) (h r:Int):Int:=if sideB M h=true then if (M.at r).isSome=true then 0 else 5 else 2
theorem tmayT_W (hW:IsW w p M F) {h r:Int} (hr:(Lit.int .i64 r).wf=true) :
 Calls Tryz.prog 209 #[.pointer (some ⟨p,0,none⟩),.int .i64 h,.int .i64 r] w fun e w'=>e=.returned (.int .i64 (mayT M h r))/\w=w':=by
 have HS:=(show Hid _ from Sides_W hW);have HI:=(show Hid _ from Is_W hW hr)
 have hne:((M.made.length:Int)==0)=false:=by
  have:=hW.ok.made;exact beq_eq_false_iff_ne.2 (by omega)
 obtain⟨E,hE⟩:∃ E,E=mayT M h r:=⟨_,rfl⟩;rw [<- hE];have HE:Hid (E=if sideB M h=true then if (M.at r).isSome=true then 0 else 5 else 2):=hE
 have HB:Hid (sideB M h=true ↔ 0≤h/\h<M.made.length):=sideB_iff;clear hW hE;generalize (M.at r).isSome=B at *;obtain⟨n,hn⟩:∃ n,n=M.made.length:=⟨_,rfl⟩;rw [<- hn]at HS hne HB;clear hn
 by_cases h1:h<0
 ·have HX:Hid (E=2):=by show _=_;rw [HE.out,if_neg (fun e=>by have:=HB.out.1 e;omega)]
  clear HE HB
  go_enter Tryz.func209,Tryz.ntmps209
  go_wp2_with fail
  refine Calls.mono HS.out ?_;rintro e _ ⟨rfl,rfl⟩
  go_wp2_with fail
  go_ret
  exact⟨by rw [HX.out];rfl,rfl⟩
 by_cases h2:(n:Int)≤h
 ·have HX:Hid (E=2):=by show _=_;rw [HE.out,if_neg (fun e=>by have:=HB.out.1 e;omega)]
  have h2':h ≥ (n:Int):=h2;clear HE HB
  go_enter Tryz.func209,Tryz.ntmps209
  go_wp2_with fail
  refine Calls.mono HS.out ?_;rintro e _ ⟨rfl,rfl⟩
  go_wp2_with fail
  refine Calls.mono HS.out ?_;rintro e _ ⟨rfl,rfl⟩
  go_wp2_with fail
  go_ret
  exact⟨by rw [HX.out];rfl,rfl⟩
 have HX:Hid (E=if B=true then 0 else 5):=by show _=_;rw [HE.out,if_pos (HB.out.2 (by omega))]
 clear HE HB
 cases B
 ·have HX2:Hid (E=5):=HX.out;clear HX
  go_enter Tryz.func209,Tryz.ntmps209
  go_wp2_with fail
  refine Calls.mono HS.out ?_;rintro e _ ⟨rfl,rfl⟩
  go_wp2_with fail
  refine Calls.mono HS.out ?_;rintro e _ ⟨rfl,rfl⟩
  go_wp2_with fail
  refine Calls.mono HI.out ?_;rintro e _ ⟨rfl,rfl⟩
  go_wp2_with fail
  go_ret
  exact⟨by rw [HX2.out];rfl,rfl⟩
 ·have HX2:Hid (E=0):=HX.out;clear HX
  go_enter Tryz.func209,Tryz.ntmps209
  go_wp2_with fail
  refine Calls.mono HS.out ?_;rintro e _ ⟨rfl,rfl⟩
  go_wp2_with fail
  refine Calls.mono HS.out ?_;rintro e _ ⟨rfl,rfl⟩
  go_wp2_with fail
  refine Calls.mono HI.out ?_;rintro e _ ⟨rfl,rfl⟩
  go_wp2_with fail
  go_ret
  exact⟨by rw [HX2.out];rfl,rfl⟩
theorem tWith_no (hW:IsW w p M F) {h r n:Int} (hr:(Lit.int .i64 r).wf=true) (hn:(Lit.int .i64 n).wf=true) (he:withE M h r n≠0) :
 Calls Tryz.prog 119 #[.pointer (some ⟨p,0,none⟩),.int .i64 h,.int .i64 r,.int .i64 n] w fun e w'=>e=.returned (.tuple #[.int .i64 0,.int .i64 (withE M h r n)])/\Bl w w':=by
 have HY:=(show Hid _ from tmayT_W hW (h:=h) hr);have HI:=(show Hid _ from Is_W hW hn);have HH:=(show Hid _ from Home_W hW hn);have HK:=(show Hid _ from Kind_W hW hn);obtain⟨E,hE⟩:∃ E,E=withE M h r n:=⟨_,rfl⟩;rw [<- hE]at he ⊢
 by_cases h0:mayT M h r=0
 rotate_left
 ·have HX:Hid (E=mayT M h r):=by
   show _=_;rw [hE];unfold withE mayT at *;split
   ·rename_i h1
    rw [if_pos h1]at h0;split
    ·rename_i h2
     rw [if_pos h2]at h0;exact absurd rfl h0
    ·rfl
   ·rfl
  generalize mayT M h r=E2 at *;have hE0:(E2==0)=false:=by simpa using h0
  have hE1:(E2 != 0)=true:=by simpa using h0
  clear hW hE he h0
  go_enter Tryz.func119,Tryz.ntmps119
  go_wp2_with fail
  refine Calls.mono HY.out ?_;rintro e _ ⟨rfl,rfl⟩
  go_wp2_with fail
  go_ret2
  exact⟨by rw [HX.out];rfl,Below.refl _ _⟩
 have hs:sideB M h=true/\(M.at r).isSome=true:=by
  unfold mayT at h0
  by_cases h1:sideB M h=true
  ·rw [if_pos h1]at h0
   by_cases h2:(M.at r).isSome=true
   ·exact⟨h1,h2⟩
   ·rw [if_neg h2]at h0;cases h0
  ·rw [if_neg h1]at h0;cases h0
 rw [h0]at HY
 have HE:Hid (E=if (M.at n).isSome=true then if M.kindOf n=3/\(at7 M n).home=h then 0 else 130 else 5):=by
  show _=_;rw [hE];unfold withE;rw [if_pos hs.1,if_pos hs.2,at7_kind]
 have HNE:Hid (E≠0):=he
 have HHm:Hid (M.kindOf n=3->M.homeOf n=(at7 M n).home):=fun hk=>by
  unfold WM.homeOf at7 WM.kindOf at *
  cases hna:M.at n with
  | none=>rw [hna]at hk;exact absurd (show (0:Int)=3 from hk) (by decide)
  | some u =>
    rw [hna]at hk;have:u.kind=3:=hk;simp [this]
 clear hW hE he h0 hs;generalize (M.at n).isSome=B at *;generalize M.kindOf n=k at *;generalize M.homeOf n=hm at *;generalize (at7 M n).home=hm2 at *;generalize M.hasHome n=hh at *
 cases B
 ·have HX:Hid (E=5):=HE.out;clear HE HNE HHm
  go_enter Tryz.func119,Tryz.ntmps119
  go_wp2_with fail
  refine Calls.mono HY.out ?_;rintro e _ ⟨rfl,rfl⟩
  go_wp2_with fail
  refine Calls.mono HI.out ?_;rintro e _ ⟨rfl,rfl⟩
  go_wp2_with fail
  go_ret2
  exact⟨by rw [HX.out];rfl,Below.refl _ _⟩
 have HE2:Hid (E=if k=3/\hm2=h then 0 else 130):=HE.out
 have hc:¬ (k=3/\hm2=h):=fun e=>HNE.out (by rw [HE2.out,if_pos e]);have HX:Hid (E=130):=by show _=_;rw [HE2.out,if_neg hc]
 clear HE HE2 HNE
 by_cases hk:k=3
 ·have e1:=HHm.out hk;have hkb:(k==3)=true:=by simpa using hk
  have hkn:(k != 3)=false:=by rw [bne,hkb];rfl
  have hhb:(hm==h)=false:=by rw [e1];simpa using fun e=>hc ⟨hk,e⟩
  have hhn:(hm != h)=true:=by rw [bne,hhb];rfl
  clear hc hk e1 HHm
  go_enter Tryz.func119,Tryz.ntmps119
  go_wp2_with fail
  refine Calls.mono HY.out ?_;rintro e _ ⟨rfl,rfl⟩
  go_wp2_with fail
  refine Calls.mono HI.out ?_;rintro e _ ⟨rfl,rfl⟩
  go_wp2_with fail
  refine Calls.mono HH.out ?_;rintro e _ ⟨rfl,rfl⟩
  go_wp2_with fail
  refine Calls.mono HK.out ?_;rintro e _ ⟨rfl,rfl⟩
  go_wp2_with fail
  go_ret2
  exact⟨by rw [HX.out];rfl,Below.refl _ _⟩
 ·have hkb:(k==3)=false:=by simpa using hk
  have hkn:(k != 3)=true:=by rw [bne,hkb];rfl
  clear hc hk HHm
  go_enter Tryz.func119,Tryz.ntmps119
  go_wp2_with fail
  refine Calls.mono HY.out ?_;rintro e _ ⟨rfl,rfl⟩
  go_wp2_with fail
  refine Calls.mono HI.out ?_;rintro e _ ⟨rfl,rfl⟩
  go_wp2_with fail
  refine Calls.mono HH.out ?_;rintro e _ ⟨rfl,rfl⟩
  go_wp2_with fail
  refine Calls.mono HK.out ?_;rintro e _ ⟨rfl,rfl⟩
  go_wp2_with fail
  go_ret2
  exact⟨by rw [HX.out];rfl,Below.refl _ _⟩
end
end Go.Proofs.YthaliljaglldjaaGreat
