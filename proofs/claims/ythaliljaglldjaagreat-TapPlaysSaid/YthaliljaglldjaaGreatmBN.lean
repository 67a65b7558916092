/- Part of the proof. -/
import Derived.Test.YthaliljaglldjaaGreatmAO
namespace Go.Proofs.YthaliljaglldjaaGreat
set_option maxHeartbeats 16000000
set_option maxRecDepth 20000
open Go.RowKit Go.ChangeMaps Go.MapKept
section
def isBy (k of:Int) (x:Int × Th):Bool:=x.2.kind==k && x.2.bi==of
def byB (N:WM) (k of:Int):Bool:=N.things.any (isBy k of)
theorem other7_by {w:World} {q:Nat} {N:WM} {G:Nat->Prop} (hR:IsR w q N G) (hN:ROk N) (r k of:Int) (hno:∀ x ∈ N.things,x.1≠r) :
 Calls Tryz.prog 180 #[.pointer (some ⟨q,0,none⟩),.int .i64 r,.int .i64 k,.int .i64 of,.bool true] w fun e w'=>e=.returned (.bool (byB N k of))/\Bl w w':=by
 obtain⟨sP,sC,sT,sM,hV⟩:=hR;obtain⟨n,hn⟩:∃ n,n=N.things.length:=⟨_,rfl⟩
 obtain⟨p0,c0,hsT⟩:∃ p c,sT=.slice p n c:=by
  obtain⟨h1,⟨rfl,h0⟩ | ⟨g,cap,cur,rfl,-⟩⟩:=hV.rt
  ·exact⟨none,0,by rw [hn,h0]⟩
  ·exact⟨_,_,by rw [hn]⟩
 subst hsT;have HV:=(show Hid (RVw w q N G sP sC (.slice p0 n c0) sM)from hV);have HN:Hid (n=N.things.length/\n≤100000):=⟨hn,by have:=hN.len;omega⟩;have HNO:Hid (∀ x ∈ N.things,x.1≠r/\(thc x.2).all (·.oneCell')=true/\IntKind.i64.wrap x.2.kind=x.2.kind):=fun x hx=>⟨hno x hx,(hN.cell x hx).1,by have:=(hN.cell x hx).2;simp [IntKind.wrap,IntKind.signed,IntKind.bits];omega⟩;clear hV hn hN hno
 go_enter Tryz.func180,Tryz.ntmps180
 go_wp2_with fail
 go_loopw [11] (fun vi wr=>∃ i:Nat,vi=.int .i64 i/\i≤n/\Hid (Bl w wr/\∀ (j:Nat) (y:Int × Th),j<i->N.things[j]? = some y->isBy k of y=false)) (fun vi _=>n - (intOf vi).toNat)
 case atStart=>exact⟨0,rfl,Nat.zero_le _,Below.refl _ _,fun j y h=>absurd h (Nat.not_lt_zero j)⟩
 case round =>
  obtain⟨i,rfl,hi,HB⟩:=hrel;have HV1:=(show Hid _ from HV.out.below HB.out.1);have d2:wr.cell? ⟨q,2,none⟩=some (.slice p0 n c0):=by rw [cell_blk HV1.out.blk];rfl
  by_cases hin:i<n
  ·have hiz:(i:Int)<(n:Int):=by omega
   obtain⟨x,hx⟩:∃ x,N.things[i]? = some x:=⟨_,List.getElem?_eq_getElem (by have:=HN.out.1;omega)⟩;obtain⟨hr,hone,hwk⟩:=HNO.out x (List.mem_of_getElem? hx);obtain⟨g,c,hs,hg,hc⟩:=HV1.out.ent hx;have hp0:p0=some ⟨g,0,none⟩:=by injection hs
   subst hp0
   have hldw:=loadWhat_mid (w:=wr) (b:=g) (o:=i * 17+1) (t:=x.2) (fun k v hv=>by
    have:=hc (k+1) v (by rw [<- hv];show (_ :: (thc x.2).toList)[k+1]? = _;simp);rw [show i * 17+1+k=i * 17+(k+1) by omega]
    exact this)
   obtain⟨w6,hst,hb6,hg6,-⟩:=boxed_what' wr (thc x.2) rfl hone;have k0:w6.cell? ⟨g,i * 17,none⟩=some (.int .i64 x.1):=(hb6.cell (p:=⟨g,i * 17,none⟩) hg).trans (hc 0 _ rfl);have k1:w6.cell? ⟨wr.heap.size,0,none⟩=some (.int .u8 x.2.kind):=by rw [cell_blk hg6];rfl
   have k2:w6.cell? ⟨wr.heap.size,11,none⟩=some (.int .i64 x.2.bi):=by rw [cell_blk hg6];rfl
   have d6:w6.cell? ⟨q,2,none⟩=some (.slice (some ⟨g,0,none⟩) n c0):=by rw [cell_blk (below_blk hb6 HV1.out.blk)];rfl
   have HB6:Hid (Bl w w6):=HB.out.1.trans (hb6.mono HB.out.1.size);have hwi:wrap64 ((i:Int)+1)=(i:Int)+1:=by have:=HN.out.2;unfold wrap64;omega
   have hrb:(x.1==r)=false:=by simpa using hr
   have hr':¬ x.1=r:=hr
   have HS:Hid (isBy k of x=false->∀ (j:Nat) (y:Int × Th),j<i+1->N.things[j]? = some y->isBy k of y=false):=fun hf j y hj hy=>by
    by_cases e:j=i
    ·subst e;rw [hx]at hy
     cases hy
     exact hf
    ·exact HB.out.2 j y (by omega) hy
   have HT:Hid (isBy k of x=true->byB N k of=true):=fun hf=>List.any_eq_true.2 ⟨x,List.mem_of_getElem? hx,hf⟩;clear hs hc hx hb6 hg6 HB HV1 hone hr
   by_cases hk:x.2.kind=k
   ·have hkb:(x.2.kind==k)=true:=by simpa using hk
    by_cases ht:x.2.bi=of
    ·have htb:(x.2.bi==of)=true:=by simpa using ht
     have HD:=(show Hid _ from HT.out (by simp [isBy,hk,ht]));clear hk ht HT HS
     go_wp2_with fail
     go_ret
     exact⟨by rw [HD.out];rfl,HB6.out⟩
    ·have htb:(x.2.bi==of)=false:=by simpa using ht
     have HD:=(show Hid _ from HS.out (by simp [isBy,ht]));clear hk ht HT HS
     go_wp2_with fail
     go_roundw
     case rel=>exact⟨i+1,by go_num,by omega,HB6.out,HD.out⟩
     case measure=>rw [hwi];clear hwi;simp [intOf];omega
   ·have hkb:(x.2.kind==k)=false:=by simpa using hk
    have HD:=(show Hid _ from HS.out (by simp [isBy,hk]));clear hk HT HS
    go_wp2_with fail
    go_roundw
    case rel=>exact⟨i+1,by go_num,by omega,HB6.out,HD.out⟩
    case measure=>rw [hwi];clear hwi;simp [intOf];omega
  ·have hiz:¬ (i:Int)<(n:Int):=by omega
   obtain rfl:i=n:=by omega
   have hkk:¬ (i:Int)<(i:Int):=by omega
   have HD:Hid (byB N k of=false):=by
    show _=_;refine Bool.eq_false_iff.2 fun h=>?_;obtain⟨y,hy,h2⟩:=List.any_eq_true.1 h;obtain⟨j,hj⟩:=List.mem_iff_getElem?.1 hy;have hlt:j<i:=by have h1:=(List.getElem?_eq_some_iff.1 hj).1;have h3:=HN.out.1;omega
    rw [HB.out.2 j y hlt hj]at h2
    cases h2
   go_wp2_with fail
   go_ret
   exact⟨by rw [HD.out];rfl,HB.out.1⟩
theorem askedq_15ref {w:World} {q:Nat} {N:WM} {G:Nat->Prop} (hR:IsR w q N G) (hN:ROk N) (t:Th) (r:Int) 
 (hk11:t.kind=15) (hof:(N.at t.tgt).isSome=true) (hby:N.at t.bi=none) (rs:List Int) (hrl:rs.length≤100000)
 (hrefs:∀ w',Bl w w'->Calls Tryz.prog 179 #[.agg (thc t)] w' fun e w''=>∃ u,e=.returned u/\RefRow w'' w'.heap.size u rs/\Bl w' w'')
 (hall:∀ x ∈ rs,(N.at x).isSome=true) :
 Calls Tryz.prog 82 #[.pointer (some ⟨q,0,none⟩),.int .i64 r,.agg (thc t)] w fun e w'=>e=.returned (.int .i64 5)/\Bl w w':=by
 have hwk:IntKind.i64.wrap t.kind=t.kind:=by simp [IntKind.wrap,IntKind.signed,IntKind.bits];omega
 have b6:(t.kind==6)=false:=by rw [hk11];rfl
 have b7:(t.kind==7)=false:=by rw [hk11];rfl
 have b9:(t.kind==9)=false:=by rw [hk11];rfl
 have b11:(t.kind==11)=false:=by rw [hk11];rfl
 have b13:(t.kind==13)=false:=by rw [hk11];rfl
 have b14:(t.kind==14)=false:=by rw [hk11];rfl
 have b15:(t.kind==15)=true:=by rw [hk11];rfl
 have b16:(t.kind==16)=false:=by rw [hk11];rfl
 have HO1:Hid ((N.at t.tgt).isSome=true):=hof;have HKw:Hid (t.kind=15\/t.kind=16):=.inl hk11;have HU:Hid ((N.at t.bi).isSome=false):=by show _=_;rw [hby];rfl
 have HRf:=(show Hid _ from hrefs)
 have HKd:Hid (∀ w',Bl w w'->∀ x ∈ rs,Calls Tryz.prog 147 #[.pointer (some ⟨q,0,none⟩),.int .i64 x] w' fun e w''=>∃ k,e=.returned (.int .i64 k)/\(k==0)=false/\Bl w' w''):=fun w' hb x hx=>by
  refine(kind7_W (hR.below hb) hN.len x hN.kd).mono ?_;rintro e w'' ⟨rfl,hb'⟩;refine⟨_,rfl,?_,hb'⟩;obtain⟨u,hu⟩:=Option.isSome_iff_exists.1 (hall x hx);have h1:=(hN.cell (x,u) (at_mem hu)).2.1;have:(at7 N x).kind≠0:=by unfold at7;rw [hu];simp only [Option.getD_some]at *;omega
  simpa using this
 have HAt:Hid (∀ w',Bl w w'->∀ x,Calls Tryz.prog 47 #[.pointer (some ⟨q,0,none⟩),.int .i64 x] w' fun e w''=>e=.returned (.tuple #[.agg (thc (at7 N x)),.bool (N.at x).isSome])/\Bl w' w''):=fun w' hb x=>at7_W (hR.below hb) hN.len x fun y hy=>(hN.cell y hy).1;have HL:Hid (rs.length≤100000/\∀ x,(thc (at7 N x)).all (·.oneCell')=true):=⟨hrl,hN.one⟩;have H0:Hid (Bl w (w.alloc (.cells (thc t) 46))/\(w.alloc (.cells (thc t) 46)).heap[w.heap.size]? = some (.cells (thc t) 46 (0,0))):=⟨(Below.refl _ w).alloc (Nat.le_refl _) _,blk_new _ _⟩;clear hR hN hrefs hall hrl hk11 hof hby
 go_enter Tryz.func82,Tryz.ntmps82
 go_upto_region 1 with fail
 revert H0;generalize w.alloc _=w0;intro H0;have l0:=loadWhat_blk H0.out.2 rfl
 go_wp2_with fail
 refine Calls.mono (HRf.out w0 H0.out.1) ?_;rintro e w1 ⟨u,rfl,hr1,hb1⟩;have H1:Hid (Bl w w1/\w1.heap[w.heap.size]? = some (.cells (thc t) 46 (0,0))/\RefRow w1 w0.heap.size u rs):=⟨H0.out.1.trans (hb1.mono H0.out.1.size),below_blk hb1 H0.out.2,hr1⟩;obtain⟨n,hn⟩:∃ n,n=rs.length:=⟨_,rfl⟩
 obtain⟨p,c,rfl⟩:∃ p c,u=.slice p n c:=by
  obtain⟨h1,⟨rfl,h0⟩ | ⟨g,cap,cur,rfl,-⟩⟩:=hr1
  ·exact⟨none,0,by rw [hn,h0]⟩
  ·exact⟨_,_,by rw [hn]⟩
 have HN:Hid (n=rs.length):=hn;clear hr1 hb1 H0 l0 HRf hn
 go_wp2_with fail
 go_loopw [8] (fun vi wr=>∃ i:Nat,vi=.int .i64 i/\i≤n/\Hid (Bl w1 wr)) (fun vi _=>n - (intOf vi).toNat)
 case atStart=>exact⟨0,rfl,Nat.zero_le _,Below.refl _ _⟩
 case round =>
  obtain⟨i,rfl,hi,HB⟩:=hrel;have HBw:Hid (Bl w wr):=H1.out.1.trans (HB.out.mono H1.out.1.size)
  by_cases hin:i<n
  ·have hiz:(i:Int)<(n:Int):=by omega
   have hi0:(0:Int)≤(i:Int):=by omega
   obtain⟨x,hx⟩:∃ x,rs[i]? = some x:=⟨_,List.getElem?_eq_getElem (by have:=HN.out;omega)⟩;have hrow:wr.ownsRow w0.heap.size 25 1 (.slice p n c) rs.length (rs.map (Value.int .i64)):=refRow_on H1.out.2.2 HB.out;obtain⟨g,c',hs,hcx,-,-⟩:=ownsRow_int hrow hx;have hp:p=some ⟨g,0,none⟩:=by injection hs
   subst hp;have HC:=(show Hid _ from HKd.out wr HBw.out x (List.mem_of_getElem? hx));have hwi:wrap64 ((i:Int)+1)=(i:Int)+1:=by have:=HL.out.1;have:=HN.out;unfold wrap64;omega
   clear hrow hs hx
   go_wp2_with fail
   refine Calls.mono HC.out ?_;rintro e w3 ⟨k,rfl,hk0,hb3⟩;have HB3:Hid (Bl w1 w3):=HB.out.trans (hb3.mono HB.out.size);clear hb3 HB HBw HC hcx
   go_wp2_with fail
   go_roundw
   case rel=>exact⟨i+1,by go_num,by omega,HB3.out⟩
   case measure=>rw [hwi];simp [intOf];omega
  ·have hiz:¬ (i:Int)<(n:Int):=by omega
   obtain rfl:i=n:=by omega
   have hkk:¬ (i:Int)<(i:Int):=by omega
   have H4:Hid (Bl w wr/\wr.heap[w.heap.size]? = some (.cells (thc t) 46 (0,0))):=⟨HBw.out,below_blk HB.out H1.out.2.1⟩;clear HB HBw H1 HKd;have c0:wr.cell? ⟨w.heap.size,0,none⟩=some (.int .u8 t.kind):=by rw [cell_blk H4.out.2];rfl
   have c10:wr.cell? ⟨w.heap.size,10,none⟩=some (.int .i64 t.tgt):=by rw [cell_blk H4.out.2];rfl
   go_wp2_with fail
   refine Calls.mono (HAt.out wr H4.out.1 t.tgt) ?_;rintro e w5 ⟨rfl,hb5⟩;have H5:Hid (Bl w w5/\w5.heap[w.heap.size]? = some (.cells (thc t) 46 (0,0))):=⟨H4.out.1.trans (hb5.mono H4.out.1.size),below_blk hb5 H4.out.2⟩;clear hb5 H4 c0 c10;have ho:=HL.out.2 t.tgt;generalize at7 N t.tgt=o1 at ho ⊢;rw [HO1.out];obtain⟨w6,hst,hb6,hg6,-⟩:=boxed_what' w5 (thc o1) rfl ho;have H6:Hid (Bl w w6/\w6.heap[w.heap.size]? = some (.cells (thc t) 46 (0,0))/\w6.heap[w5.heap.size]? = some (.cells (thc o1) 46 (0,0))):=⟨H5.out.1.trans (hb6.mono H5.out.1.size),below_blk hb6 H5.out.2,hg6⟩;have c11:w6.cell? ⟨w.heap.size,11,none⟩=some (.int .i64 t.bi):=by rw [cell_blk H6.out.2.1];rfl
   clear hb6 hg6 ho H5
   go_wp2_with fail
   refine Calls.mono (HAt.out w6 H6.out.1 t.bi) ?_;rintro e w7 ⟨rfl,hb7⟩;have H7:Hid (Bl w w7/\w7.heap[w.heap.size]? = some (.cells (thc t) 46 (0,0))/\w7.heap[w5.heap.size]? = some (.cells (thc o1) 46 (0,0))):=⟨H6.out.1.trans (hb7.mono H6.out.1.size),below_blk hb7 H6.out.2.1,below_blk hb7 H6.out.2.2⟩;clear hb7 H6 c11 hst HAt;have ho:=HL.out.2 t.bi;generalize at7 N t.bi=u at ho ⊢;rw [HU.out];obtain⟨w8,hst,hb8,hg8,-⟩:=boxed_what' w7 (thc u) rfl ho;have H8:Hid (Bl w w8/\w8.heap[w.heap.size]? = some (.cells (thc t) 46 (0,0))/\w8.heap[w7.heap.size]? = some (.cells (thc u) 46 (0,0))):=⟨H7.out.1.trans (hb8.mono H7.out.1.size),below_blk hb8 H7.out.2.1,hg8⟩;clear hb8 hg8 ho H7
   go_wp2_with fail
   refine(wrap7_yes _ _ HKw.out).mono ?_;rintro e _ ⟨rfl,rfl⟩
   go_wp2_with fail
   go_ret
   exact⟨rfl,H8.out.1⟩
theorem askedq_16 {w:World} {q:Nat} {N:WM} {G:Nat->Prop} (hR:IsR w q N G) (hN:ROk N) (t:Th) (r:Int) 
 (hk11:t.kind=16) (hof:(N.at t.tgt).isSome=true) {u:Th} (hby:N.at t.bi=some u) (hu:u.kind=3/\u.home=t.home) (rs:List Int) (hrl:rs.length≤100000)
 (hrefs:∀ w',Bl w w'->Calls Tryz.prog 179 #[.agg (thc t)] w' fun e w''=>∃ u,e=.returned u/\RefRow w'' w'.heap.size u rs/\Bl w' w'')
 (hall:∀ x ∈ rs,(N.at x).isSome=true) :
 Calls Tryz.prog 82 #[.pointer (some ⟨q,0,none⟩),.int .i64 r,.agg (thc t)] w fun e w'=>e=.returned (.int .i64 0)/\Bl w w':=by
 have hwk:IntKind.i64.wrap t.kind=t.kind:=by simp [IntKind.wrap,IntKind.signed,IntKind.bits];omega
 have b6:(t.kind==6)=false:=by rw [hk11];rfl
 have b7:(t.kind==7)=false:=by rw [hk11];rfl
 have b9:(t.kind==9)=false:=by rw [hk11];rfl
 have b11:(t.kind==11)=false:=by rw [hk11];rfl
 have b13:(t.kind==13)=false:=by rw [hk11];rfl
 have b14:(t.kind==14)=false:=by rw [hk11];rfl
 have b15:(t.kind==15)=false:=by rw [hk11];rfl
 have b16:(t.kind==16)=true:=by rw [hk11];rfl
 have HO1:Hid ((N.at t.tgt).isSome=true):=hof;have HKw:Hid (t.kind=15\/t.kind=16):=.inr hk11;have HU:Hid (at7 N t.bi=u/\(N.at t.bi).isSome=true):=⟨by unfold at7;rw [hby];rfl,by rw [hby];rfl⟩;have hwu:IntKind.i64.wrap u.kind=u.kind:=by have h2:1≤u.kind/\u.kind≤255:=(hN.cell _ (at_mem hby)).2;simp [IntKind.wrap,IntKind.signed,IntKind.bits];omega
 have u3:(u.kind==3)=true:=by rw [hu.1];rfl
 have uh:(u.home==t.home)=true:=by rw [hu.2];simp
 have HRf:=(show Hid _ from hrefs)
 have HKd:Hid (∀ w',Bl w w'->∀ x ∈ rs,Calls Tryz.prog 147 #[.pointer (some ⟨q,0,none⟩),.int .i64 x] w' fun e w''=>∃ k,e=.returned (.int .i64 k)/\(k==0)=false/\Bl w' w''):=fun w' hb x hx=>by
  refine(kind7_W (hR.below hb) hN.len x hN.kd).mono ?_;rintro e w'' ⟨rfl,hb'⟩;refine⟨_,rfl,?_,hb'⟩;obtain⟨u,hu⟩:=Option.isSome_iff_exists.1 (hall x hx);have h1:=(hN.cell (x,u) (at_mem hu)).2.1;have:(at7 N x).kind≠0:=by unfold at7;rw [hu];simp only [Option.getD_some]at *;omega
  simpa using this
 have HAt:Hid (∀ w',Bl w w'->∀ x,Calls Tryz.prog 47 #[.pointer (some ⟨q,0,none⟩),.int .i64 x] w' fun e w''=>e=.returned (.tuple #[.agg (thc (at7 N x)),.bool (N.at x).isSome])/\Bl w' w''):=fun w' hb x=>at7_W (hR.below hb) hN.len x fun y hy=>(hN.cell y hy).1;have HL:Hid (rs.length≤100000/\∀ x,(thc (at7 N x)).all (·.oneCell')=true):=⟨hrl,hN.one⟩;have H0:Hid (Bl w (w.alloc (.cells (thc t) 46))/\(w.alloc (.cells (thc t) 46)).heap[w.heap.size]? = some (.cells (thc t) 46 (0,0))):=⟨(Below.refl _ w).alloc (Nat.le_refl _) _,blk_new _ _⟩;clear hR hN hrefs hall hrl hk11 hof hby hu
 go_enter Tryz.func82,Tryz.ntmps82
 go_upto_region 1 with fail
 revert H0;generalize w.alloc _=w0;intro H0;have l0:=loadWhat_blk H0.out.2 rfl
 go_wp2_with fail
 refine Calls.mono (HRf.out w0 H0.out.1) ?_;rintro e w1 ⟨u,rfl,hr1,hb1⟩;have H1:Hid (Bl w w1/\w1.heap[w.heap.size]? = some (.cells (thc t) 46 (0,0))/\RefRow w1 w0.heap.size u rs):=⟨H0.out.1.trans (hb1.mono H0.out.1.size),below_blk hb1 H0.out.2,hr1⟩;obtain⟨n,hn⟩:∃ n,n=rs.length:=⟨_,rfl⟩
 obtain⟨p,c,rfl⟩:∃ p c,u=.slice p n c:=by
  obtain⟨h1,⟨rfl,h0⟩ | ⟨g,cap,cur,rfl,-⟩⟩:=hr1
  ·exact⟨none,0,by rw [hn,h0]⟩
  ·exact⟨_,_,by rw [hn]⟩
 have HN:Hid (n=rs.length):=hn;clear hr1 hb1 H0 l0 HRf hn
 go_wp2_with fail
 go_loopw [8] (fun vi wr=>∃ i:Nat,vi=.int .i64 i/\i≤n/\Hid (Bl w1 wr)) (fun vi _=>n - (intOf vi).toNat)
 case atStart=>exact⟨0,rfl,Nat.zero_le _,Below.refl _ _⟩
 case round =>
  obtain⟨i,rfl,hi,HB⟩:=hrel;have HBw:Hid (Bl w wr):=H1.out.1.trans (HB.out.mono H1.out.1.size)
  by_cases hin:i<n
  ·have hiz:(i:Int)<(n:Int):=by omega
   have hi0:(0:Int)≤(i:Int):=by omega
   obtain⟨x,hx⟩:∃ x,rs[i]? = some x:=⟨_,List.getElem?_eq_getElem (by have:=HN.out;omega)⟩;have hrow:wr.ownsRow w0.heap.size 25 1 (.slice p n c) rs.length (rs.map (Value.int .i64)):=refRow_on H1.out.2.2 HB.out;obtain⟨g,c',hs,hcx,-,-⟩:=ownsRow_int hrow hx;have hp:p=some ⟨g,0,none⟩:=by injection hs
   subst hp;have HC:=(show Hid _ from HKd.out wr HBw.out x (List.mem_of_getElem? hx));have hwi:wrap64 ((i:Int)+1)=(i:Int)+1:=by have:=HL.out.1;have:=HN.out;unfold wrap64;omega
   clear hrow hs hx
   go_wp2_with fail
   refine Calls.mono HC.out ?_;rintro e w3 ⟨k,rfl,hk0,hb3⟩;have HB3:Hid (Bl w1 w3):=HB.out.trans (hb3.mono HB.out.size);clear hb3 HB HBw HC hcx
   go_wp2_with fail
   go_roundw
   case rel=>exact⟨i+1,by go_num,by omega,HB3.out⟩
   case measure=>rw [hwi];simp [intOf];omega
  ·have hiz:¬ (i:Int)<(n:Int):=by omega
   obtain rfl:i=n:=by omega
   have hkk:¬ (i:Int)<(i:Int):=by omega
   have H4:Hid (Bl w wr/\wr.heap[w.heap.size]? = some (.cells (thc t) 46 (0,0))):=⟨HBw.out,below_blk HB.out H1.out.2.1⟩;clear HB HBw H1 HKd;have c0:wr.cell? ⟨w.heap.size,0,none⟩=some (.int .u8 t.kind):=by rw [cell_blk H4.out.2];rfl
   have c10:wr.cell? ⟨w.heap.size,10,none⟩=some (.int .i64 t.tgt):=by rw [cell_blk H4.out.2];rfl
   go_wp2_with fail
   refine Calls.mono (HAt.out wr H4.out.1 t.tgt) ?_;rintro e w5 ⟨rfl,hb5⟩;have H5:Hid (Bl w w5/\w5.heap[w.heap.size]? = some (.cells (thc t) 46 (0,0))):=⟨H4.out.1.trans (hb5.mono H4.out.1.size),below_blk hb5 H4.out.2⟩;clear hb5 H4 c0 c10;have ho:=HL.out.2 t.tgt;generalize at7 N t.tgt=o1 at ho ⊢;rw [HO1.out];obtain⟨w6,hst,hb6,hg6,-⟩:=boxed_what' w5 (thc o1) rfl ho;have H6:Hid (Bl w w6/\w6.heap[w.heap.size]? = some (.cells (thc t) 46 (0,0))/\w6.heap[w5.heap.size]? = some (.cells (thc o1) 46 (0,0))):=⟨H5.out.1.trans (hb6.mono H5.out.1.size),below_blk hb6 H5.out.2,hg6⟩;have c11:w6.cell? ⟨w.heap.size,11,none⟩=some (.int .i64 t.bi):=by rw [cell_blk H6.out.2.1];rfl
   clear hb6 hg6 ho H5
   go_wp2_with fail
   refine Calls.mono (HAt.out w6 H6.out.1 t.bi) ?_;rintro e w7 ⟨rfl,hb7⟩;have H7:Hid (Bl w w7/\w7.heap[w.heap.size]? = some (.cells (thc t) 46 (0,0))/\w7.heap[w5.heap.size]? = some (.cells (thc o1) 46 (0,0))):=⟨H6.out.1.trans (hb7.mono H6.out.1.size),below_blk hb7 H6.out.2.1,below_blk hb7 H6.out.2.2⟩;clear hb7 H6 c11 hst HAt;have ho:=HL.out.2 t.bi;rw [HU.out.1]at ho ⊢;rw [HU.out.2];obtain⟨w8,hst,hb8,hg8,-⟩:=boxed_what' w7 (thc u) rfl ho;have H8:Hid (Bl w w8/\w8.heap[w.heap.size]? = some (.cells (thc t) 46 (0,0))/\w8.heap[w7.heap.size]? = some (.cells (thc u) 46 (0,0))):=⟨H7.out.1.trans (hb8.mono H7.out.1.size),below_blk hb8 H7.out.2.1,hg8⟩;clear hb8 hg8 ho H7;have c11:w8.cell? ⟨w.heap.size,11,none⟩=some (.int .i64 t.bi):=by rw [cell_blk H8.out.2.1];rfl
   have c1:w8.cell? ⟨w.heap.size,1,none⟩=some (.int .i64 t.home):=by rw [cell_blk H8.out.2.1];rfl
   have e0:w8.cell? ⟨w7.heap.size,0,none⟩=some (.int .u8 u.kind):=by rw [cell_blk H8.out.2.2];rfl
   have e1:w8.cell? ⟨w7.heap.size,1,none⟩=some (.int .i64 u.home):=by rw [cell_blk H8.out.2.2];rfl
   go_wp2_with fail
   refine(wrap7_yes _ _ HKw.out).mono ?_;rintro e _ ⟨rfl,rfl⟩
   go_wp2_with fail
   go_ret
   exact⟨rfl,H8.out.1⟩
theorem askedq_15no {w:World} {q:Nat} {N:WM} {G:Nat->Prop} (hR:IsR w q N G) (hN:ROk N) (t:Th) (r:Int) 
 (hk11:t.kind=15) (hof:(N.at t.tgt).isSome=true) {u:Th} (hby:N.at t.bi=some u) (hu:¬ (u.kind=13/\u.home=t.home)) (hr0:r=0) (rs:List Int) (hrl:rs.length≤100000)
 (hrefs:∀ w',Bl w w'->Calls Tryz.prog 179 #[.agg (thc t)] w' fun e w''=>∃ u,e=.returned u/\RefRow w'' w'.heap.size u rs/\Bl w' w'')
 (hall:∀ x ∈ rs,(N.at x).isSome=true) :
 Calls Tryz.prog 82 #[.pointer (some ⟨q,0,none⟩),.int .i64 r,.agg (thc t)] w fun e w'=>e=.returned (.int .i64 70)/\Bl w w':=by
 have hwk:IntKind.i64.wrap t.kind=t.kind:=by simp [IntKind.wrap,IntKind.signed,IntKind.bits];omega
 have b6:(t.kind==6)=false:=by rw [hk11];rfl
 have b7:(t.kind==7)=false:=by rw [hk11];rfl
 have b9:(t.kind==9)=false:=by rw [hk11];rfl
 have b11:(t.kind==11)=false:=by rw [hk11];rfl
 have b13:(t.kind==13)=false:=by rw [hk11];rfl
 have b14:(t.kind==14)=false:=by rw [hk11];rfl
 have b15:(t.kind==15)=true:=by rw [hk11];rfl
 have b16:(t.kind==16)=false:=by rw [hk11];rfl
 have HO1:Hid ((N.at t.tgt).isSome=true):=hof;have HKw:Hid (t.kind=15\/t.kind=16):=.inl hk11;have HU:Hid (at7 N t.bi=u/\(N.at t.bi).isSome=true):=⟨by unfold at7;rw [hby];rfl,by rw [hby];rfl⟩;have hwu:IntKind.i64.wrap u.kind=u.kind:=by have h2:1≤u.kind/\u.kind≤255:=(hN.cell _ (at_mem hby)).2;simp [IntKind.wrap,IntKind.signed,IntKind.bits];omega
 have HNU:Hid (¬ (u.kind=13/\u.home=t.home)):=hu;clear hu;subst hr0;have HRf:=(show Hid _ from hrefs)
 have HKd:Hid (∀ w',Bl w w'->∀ x ∈ rs,Calls Tryz.prog 147 #[.pointer (some ⟨q,0,none⟩),.int .i64 x] w' fun e w''=>∃ k,e=.returned (.int .i64 k)/\(k==0)=false/\Bl w' w''):=fun w' hb x hx=>by
  refine(kind7_W (hR.below hb) hN.len x hN.kd).mono ?_;rintro e w'' ⟨rfl,hb'⟩;refine⟨_,rfl,?_,hb'⟩;obtain⟨u,hu⟩:=Option.isSome_iff_exists.1 (hall x hx);have h1:=(hN.cell (x,u) (at_mem hu)).2.1;have:(at7 N x).kind≠0:=by unfold at7;rw [hu];simp only [Option.getD_some]at *;omega
  simpa using this
 have HAt:Hid (∀ w',Bl w w'->∀ x,Calls Tryz.prog 47 #[.pointer (some ⟨q,0,none⟩),.int .i64 x] w' fun e w''=>e=.returned (.tuple #[.agg (thc (at7 N x)),.bool (N.at x).isSome])/\Bl w' w''):=fun w' hb x=>at7_W (hR.below hb) hN.len x fun y hy=>(hN.cell y hy).1;have HL:Hid (rs.length≤100000/\∀ x,(thc (at7 N x)).all (·.oneCell')=true):=⟨hrl,hN.one⟩;have H0:Hid (Bl w (w.alloc (.cells (thc t) 46))/\(w.alloc (.cells (thc t) 46)).heap[w.heap.size]? = some (.cells (thc t) 46 (0,0))):=⟨(Below.refl _ w).alloc (Nat.le_refl _) _,blk_new _ _⟩;clear hR hN hrefs hall hrl hk11 hof hby
 go_enter Tryz.func82,Tryz.ntmps82
 go_upto_region 1 with fail
 revert H0;generalize w.alloc _=w0;intro H0;have l0:=loadWhat_blk H0.out.2 rfl
 go_wp2_with fail
 refine Calls.mono (HRf.out w0 H0.out.1) ?_;rintro e w1 ⟨u,rfl,hr1,hb1⟩;have H1:Hid (Bl w w1/\w1.heap[w.heap.size]? = some (.cells (thc t) 46 (0,0))/\RefRow w1 w0.heap.size u rs):=⟨H0.out.1.trans (hb1.mono H0.out.1.size),below_blk hb1 H0.out.2,hr1⟩;obtain⟨n,hn⟩:∃ n,n=rs.length:=⟨_,rfl⟩
 obtain⟨p,c,rfl⟩:∃ p c,u=.slice p n c:=by
  obtain⟨h1,⟨rfl,h0⟩ | ⟨g,cap,cur,rfl,-⟩⟩:=hr1
  ·exact⟨none,0,by rw [hn,h0]⟩
  ·exact⟨_,_,by rw [hn]⟩
 have HN:Hid (n=rs.length):=hn;clear hr1 hb1 H0 l0 HRf hn
 go_wp2_with fail
 go_loopw [8] (fun vi wr=>∃ i:Nat,vi=.int .i64 i/\i≤n/\Hid (Bl w1 wr)) (fun vi _=>n - (intOf vi).toNat)
 case atStart=>exact⟨0,rfl,Nat.zero_le _,Below.refl _ _⟩
 case round =>
  obtain⟨i,rfl,hi,HB⟩:=hrel;have HBw:Hid (Bl w wr):=H1.out.1.trans (HB.out.mono H1.out.1.size)
  by_cases hin:i<n
  ·have hiz:(i:Int)<(n:Int):=by omega
   have hi0:(0:Int)≤(i:Int):=by omega
   obtain⟨x,hx⟩:∃ x,rs[i]? = some x:=⟨_,List.getElem?_eq_getElem (by have:=HN.out;omega)⟩;have hrow:wr.ownsRow w0.heap.size 25 1 (.slice p n c) rs.length (rs.map (Value.int .i64)):=refRow_on H1.out.2.2 HB.out;obtain⟨g,c',hs,hcx,-,-⟩:=ownsRow_int hrow hx;have hp:p=some ⟨g,0,none⟩:=by injection hs
   subst hp;have HC:=(show Hid _ from HKd.out wr HBw.out x (List.mem_of_getElem? hx));have hwi:wrap64 ((i:Int)+1)=(i:Int)+1:=by have:=HL.out.1;have:=HN.out;unfold wrap64;omega
   clear hrow hs hx
   go_wp2_with fail
   refine Calls.mono HC.out ?_;rintro e w3 ⟨k,rfl,hk0,hb3⟩;have HB3:Hid (Bl w1 w3):=HB.out.trans (hb3.mono HB.out.size);clear hb3 HB HBw HC hcx
   go_wp2_with fail
   go_roundw
   case rel=>exact⟨i+1,by go_num,by omega,HB3.out⟩
   case measure=>rw [hwi];simp [intOf];omega
  ·have hiz:¬ (i:Int)<(n:Int):=by omega
   obtain rfl:i=n:=by omega
   have hkk:¬ (i:Int)<(i:Int):=by omega
   have H4:Hid (Bl w wr/\wr.heap[w.heap.size]? = some (.cells (thc t) 46 (0,0))):=⟨HBw.out,below_blk HB.out H1.out.2.1⟩;clear HB HBw H1 HKd;have c0:wr.cell? ⟨w.heap.size,0,none⟩=some (.int .u8 t.kind):=by rw [cell_blk H4.out.2];rfl
   have c10:wr.cell? ⟨w.heap.size,10,none⟩=some (.int .i64 t.tgt):=by rw [cell_blk H4.out.2];rfl
   go_wp2_with fail
   refine Calls.mono (HAt.out wr H4.out.1 t.tgt) ?_;rintro e w5 ⟨rfl,hb5⟩;have H5:Hid (Bl w w5/\w5.heap[w.heap.size]? = some (.cells (thc t) 46 (0,0))):=⟨H4.out.1.trans (hb5.mono H4.out.1.size),below_blk hb5 H4.out.2⟩;clear hb5 H4 c0 c10;have ho:=HL.out.2 t.tgt;generalize at7 N t.tgt=o1 at ho ⊢;rw [HO1.out];obtain⟨w6,hst,hb6,hg6,-⟩:=boxed_what' w5 (thc o1) rfl ho;have H6:Hid (Bl w w6/\w6.heap[w.heap.size]? = some (.cells (thc t) 46 (0,0))/\w6.heap[w5.heap.size]? = some (.cells (thc o1) 46 (0,0))):=⟨H5.out.1.trans (hb6.mono H5.out.1.size),below_blk hb6 H5.out.2,hg6⟩;have c11:w6.cell? ⟨w.heap.size,11,none⟩=some (.int .i64 t.bi):=by rw [cell_blk H6.out.2.1];rfl
   clear hb6 hg6 ho H5
   go_wp2_with fail
   refine Calls.mono (HAt.out w6 H6.out.1 t.bi) ?_;rintro e w7 ⟨rfl,hb7⟩;have H7:Hid (Bl w w7/\w7.heap[w.heap.size]? = some (.cells (thc t) 46 (0,0))/\w7.heap[w5.heap.size]? = some (.cells (thc o1) 46 (0,0))):=⟨H6.out.1.trans (hb7.mono H6.out.1.size),below_blk hb7 H6.out.2.1,below_blk hb7 H6.out.2.2⟩;clear hb7 H6 c11 hst HAt;have ho:=HL.out.2 t.bi;rw [HU.out.1]at ho ⊢;rw [HU.out.2];obtain⟨w8,hst,hb8,hg8,-⟩:=boxed_what' w7 (thc u) rfl ho;have H8:Hid (Bl w w8/\w8.heap[w.heap.size]? = some (.cells (thc t) 46 (0,0))/\w8.heap[w7.heap.size]? = some (.cells (thc u) 46 (0,0))):=⟨H7.out.1.trans (hb8.mono H7.out.1.size),below_blk hb8 H7.out.2.1,hg8⟩;clear hb8 hg8 ho H7;have c11:w8.cell? ⟨w.heap.size,11,none⟩=some (.int .i64 t.bi):=by rw [cell_blk H8.out.2.1];rfl
   have c1:w8.cell? ⟨w.heap.size,1,none⟩=some (.int .i64 t.home):=by rw [cell_blk H8.out.2.1];rfl
   have e0:w8.cell? ⟨w7.heap.size,0,none⟩=some (.int .u8 u.kind):=by rw [cell_blk H8.out.2.2];rfl
   have e1:w8.cell? ⟨w7.heap.size,1,none⟩=some (.int .i64 u.home):=by rw [cell_blk H8.out.2.2];rfl
   go_wp2_with fail
   refine(wrap7_yes _ _ HKw.out).mono ?_;rintro e _ ⟨rfl,rfl⟩
   by_cases h13:u.kind=13
   ·have u3:(u.kind==13)=true:=by rw [h13];rfl
    have uh:(u.home==t.home)=false:=by simpa using fun h=>HNU.out ⟨h13,h⟩
    clear h13
    go_wp2_with fail
    go_ret
    exact⟨rfl,H8.out.1⟩
   ·have u3:(u.kind==13)=false:=by simpa using h13
    clear h13
    go_wp2_with fail
    go_ret
    exact⟨rfl,H8.out.1⟩
end
section
theorem askedq_15 {w:World} {q:Nat} {N:WM} {G:Nat->Prop} (hR:IsR w q N G) (hN:ROk N) (t:Th) (r:Int) 
 (hk11:t.kind=15) (hof:(N.at t.tgt).isSome=true) {u:Th} (hby:N.at t.bi=some u) (hu:u.kind=13/\u.home=t.home) (hr0:r=0) (hid:∀ x ∈ N.things,x.1≠r) (hob:byB N 15 t.bi=false) (rs:List Int) (hrl:rs.length≤100000)
 (hrefs:∀ w',Bl w w'->Calls Tryz.prog 179 #[.agg (thc t)] w' fun e w''=>∃ u,e=.returned u/\RefRow w'' w'.heap.size u rs/\Bl w' w'')
 (hall:∀ x ∈ rs,(N.at x).isSome=true) :
 Calls Tryz.prog 82 #[.pointer (some ⟨q,0,none⟩),.int .i64 r,.agg (thc t)] w fun e w'=>e=.returned (.int .i64 0)/\Bl w w':=by
 have hwk:IntKind.i64.wrap t.kind=t.kind:=by simp [IntKind.wrap,IntKind.signed,IntKind.bits];omega
 have b6:(t.kind==6)=false:=by rw [hk11];rfl
 have b7:(t.kind==7)=false:=by rw [hk11];rfl
 have b9:(t.kind==9)=false:=by rw [hk11];rfl
 have b11:(t.kind==11)=false:=by rw [hk11];rfl
 have b13:(t.kind==13)=false:=by rw [hk11];rfl
 have b14:(t.kind==14)=false:=by rw [hk11];rfl
 have b15:(t.kind==15)=true:=by rw [hk11];rfl
 have b16:(t.kind==16)=false:=by rw [hk11];rfl
 have r0:(r==0)=true:=by rw [hr0];rfl
 have HOt:Hid (∀ w',Bl w w'->Calls Tryz.prog 180 #[.pointer (some ⟨q,0,none⟩),.int .i64 r,.int .i64 15,.int .i64 t.bi,.bool true] w' fun e w''=>e=.returned (.bool false)/\Bl w' w''):=fun w' hb=>by have:=other7_by (hR.below hb) hN r 15 t.bi hid;rw [hob]at this;exact this
 have HO1:Hid ((N.at t.tgt).isSome=true):=hof;have HKw:Hid (t.kind=15\/t.kind=16):=.inl hk11;have HU:Hid (at7 N t.bi=u/\(N.at t.bi).isSome=true):=⟨by unfold at7;rw [hby];rfl,by rw [hby];rfl⟩;have hwu:IntKind.i64.wrap u.kind=u.kind:=by have h2:1≤u.kind/\u.kind≤255:=(hN.cell _ (at_mem hby)).2;simp [IntKind.wrap,IntKind.signed,IntKind.bits];omega
 have u3:(u.kind==13)=true:=by rw [hu.1];rfl
 have uh:(u.home==t.home)=true:=by rw [hu.2];simp
 have HRf:=(show Hid _ from hrefs)
 have HKd:Hid (∀ w',Bl w w'->∀ x ∈ rs,Calls Tryz.prog 147 #[.pointer (some ⟨q,0,none⟩),.int .i64 x] w' fun e w''=>∃ k,e=.returned (.int .i64 k)/\(k==0)=false/\Bl w' w''):=fun w' hb x hx=>by
  refine(kind7_W (hR.below hb) hN.len x hN.kd).mono ?_;rintro e w'' ⟨rfl,hb'⟩;refine⟨_,rfl,?_,hb'⟩;obtain⟨u,hu⟩:=Option.isSome_iff_exists.1 (hall x hx);have h1:=(hN.cell (x,u) (at_mem hu)).2.1;have:(at7 N x).kind≠0:=by unfold at7;rw [hu];simp only [Option.getD_some]at *;omega
  simpa using this
 have HAt:Hid (∀ w',Bl w w'->∀ x,Calls Tryz.prog 47 #[.pointer (some ⟨q,0,none⟩),.int .i64 x] w' fun e w''=>e=.returned (.tuple #[.agg (thc (at7 N x)),.bool (N.at x).isSome])/\Bl w' w''):=fun w' hb x=>at7_W (hR.below hb) hN.len x fun y hy=>(hN.cell y hy).1;have HL:Hid (rs.length≤100000/\∀ x,(thc (at7 N x)).all (·.oneCell')=true):=⟨hrl,hN.one⟩;have H0:Hid (Bl w (w.alloc (.cells (thc t) 46))/\(w.alloc (.cells (thc t) 46)).heap[w.heap.size]? = some (.cells (thc t) 46 (0,0))):=⟨(Below.refl _ w).alloc (Nat.le_refl _) _,blk_new _ _⟩;clear hR hN hrefs hall hrl hk11 hof hby hu hr0 hid hob
 go_enter Tryz.func82,Tryz.ntmps82
 go_upto_region 1 with fail
 revert H0;generalize w.alloc _=w0;intro H0;have l0:=loadWhat_blk H0.out.2 rfl
 go_wp2_with fail
 refine Calls.mono (HRf.out w0 H0.out.1) ?_;rintro e w1 ⟨u,rfl,hr1,hb1⟩;have H1:Hid (Bl w w1/\w1.heap[w.heap.size]? = some (.cells (thc t) 46 (0,0))/\RefRow w1 w0.heap.size u rs):=⟨H0.out.1.trans (hb1.mono H0.out.1.size),below_blk hb1 H0.out.2,hr1⟩;obtain⟨n,hn⟩:∃ n,n=rs.length:=⟨_,rfl⟩
 obtain⟨p,c,rfl⟩:∃ p c,u=.slice p n c:=by
  obtain⟨h1,⟨rfl,h0⟩ | ⟨g,cap,cur,rfl,-⟩⟩:=hr1
  ·exact⟨none,0,by rw [hn,h0]⟩
  ·exact⟨_,_,by rw [hn]⟩
 have HN:Hid (n=rs.length):=hn;clear hr1 hb1 H0 l0 HRf hn
 go_wp2_with fail
 go_loopw [8] (fun vi wr=>∃ i:Nat,vi=.int .i64 i/\i≤n/\Hid (Bl w1 wr)) (fun vi _=>n - (intOf vi).toNat)
 case atStart=>exact⟨0,rfl,Nat.zero_le _,Below.refl _ _⟩
 case round =>
  obtain⟨i,rfl,hi,HB⟩:=hrel;have HBw:Hid (Bl w wr):=H1.out.1.trans (HB.out.mono H1.out.1.size)
  by_cases hin:i<n
  ·have hiz:(i:Int)<(n:Int):=by omega
   have hi0:(0:Int)≤(i:Int):=by omega
   obtain⟨x,hx⟩:∃ x,rs[i]? = some x:=⟨_,List.getElem?_eq_getElem (by have:=HN.out;omega)⟩;have hrow:wr.ownsRow w0.heap.size 25 1 (.slice p n c) rs.length (rs.map (Value.int .i64)):=refRow_on H1.out.2.2 HB.out;obtain⟨g,c',hs,hcx,-,-⟩:=ownsRow_int hrow hx;have hp:p=some ⟨g,0,none⟩:=by injection hs
   subst hp;have HC:=(show Hid _ from HKd.out wr HBw.out x (List.mem_of_getElem? hx));have hwi:wrap64 ((i:Int)+1)=(i:Int)+1:=by have:=HL.out.1;have:=HN.out;unfold wrap64;omega
   clear hrow hs hx
   go_wp2_with fail
   refine Calls.mono HC.out ?_;rintro e w3 ⟨k,rfl,hk0,hb3⟩;have HB3:Hid (Bl w1 w3):=HB.out.trans (hb3.mono HB.out.size);clear hb3 HB HBw HC hcx
   go_wp2_with fail
   go_roundw
   case rel=>exact⟨i+1,by go_num,by omega,HB3.out⟩
   case measure=>rw [hwi];simp [intOf];omega
  ·have hiz:¬ (i:Int)<(n:Int):=by omega
   obtain rfl:i=n:=by omega
   have hkk:¬ (i:Int)<(i:Int):=by omega
   have H4:Hid (Bl w wr/\wr.heap[w.heap.size]? = some (.cells (thc t) 46 (0,0))):=⟨HBw.out,below_blk HB.out H1.out.2.1⟩;clear HB HBw H1 HKd;have c0:wr.cell? ⟨w.heap.size,0,none⟩=some (.int .u8 t.kind):=by rw [cell_blk H4.out.2];rfl
   have c10:wr.cell? ⟨w.heap.size,10,none⟩=some (.int .i64 t.tgt):=by rw [cell_blk H4.out.2];rfl
   go_wp2_with fail
   refine Calls.mono (HAt.out wr H4.out.1 t.tgt) ?_;rintro e w5 ⟨rfl,hb5⟩;have H5:Hid (Bl w w5/\w5.heap[w.heap.size]? = some (.cells (thc t) 46 (0,0))):=⟨H4.out.1.trans (hb5.mono H4.out.1.size),below_blk hb5 H4.out.2⟩;clear hb5 H4 c0 c10;have ho:=HL.out.2 t.tgt;generalize at7 N t.tgt=o1 at ho ⊢;rw [HO1.out];obtain⟨w6,hst,hb6,hg6,-⟩:=boxed_what' w5 (thc o1) rfl ho;have H6:Hid (Bl w w6/\w6.heap[w.heap.size]? = some (.cells (thc t) 46 (0,0))/\w6.heap[w5.heap.size]? = some (.cells (thc o1) 46 (0,0))):=⟨H5.out.1.trans (hb6.mono H5.out.1.size),below_blk hb6 H5.out.2,hg6⟩;have c11:w6.cell? ⟨w.heap.size,11,none⟩=some (.int .i64 t.bi):=by rw [cell_blk H6.out.2.1];rfl
   clear hb6 hg6 ho H5
   go_wp2_with fail
   refine Calls.mono (HAt.out w6 H6.out.1 t.bi) ?_;rintro e w7 ⟨rfl,hb7⟩;have H7:Hid (Bl w w7/\w7.heap[w.heap.size]? = some (.cells (thc t) 46 (0,0))/\w7.heap[w5.heap.size]? = some (.cells (thc o1) 46 (0,0))):=⟨H6.out.1.trans (hb7.mono H6.out.1.size),below_blk hb7 H6.out.2.1,below_blk hb7 H6.out.2.2⟩;clear hb7 H6 c11 hst HAt;have ho:=HL.out.2 t.bi;rw [HU.out.1]at ho ⊢;rw [HU.out.2];obtain⟨w8,hst,hb8,hg8,-⟩:=boxed_what' w7 (thc u) rfl ho;have H8:Hid (Bl w w8/\w8.heap[w.heap.size]? = some (.cells (thc t) 46 (0,0))/\w8.heap[w7.heap.size]? = some (.cells (thc u) 46 (0,0))):=⟨H7.out.1.trans (hb8.mono H7.out.1.size),below_blk hb8 H7.out.2.1,hg8⟩;clear hb8 hg8 ho H7;have c11:w8.cell? ⟨w.heap.size,11,none⟩=some (.int .i64 t.bi):=by rw [cell_blk H8.out.2.1];rfl
   have c1:w8.cell? ⟨w.heap.size,1,none⟩=some (.int .i64 t.home):=by rw [cell_blk H8.out.2.1];rfl
   have e0:w8.cell? ⟨w7.heap.size,0,none⟩=some (.int .u8 u.kind):=by rw [cell_blk H8.out.2.2];rfl
   have e1:w8.cell? ⟨w7.heap.size,1,none⟩=some (.int .i64 u.home):=by rw [cell_blk H8.out.2.2];rfl
   go_wp2_with fail
   refine(wrap7_yes _ _ HKw.out).mono ?_;rintro e _ ⟨rfl,rfl⟩
   go_wp2_with fail
   refine Calls.mono (HOt.out w8 H8.out.1) ?_;rintro e w9 ⟨rfl,hb9⟩;have HB9:Hid (Bl w w9):=H8.out.1.trans (hb9.mono H8.out.1.size);clear hb9 H8 HOt c11 c1 e0 e1 hst
   as_aux_lemma =>
    go_wp2_with fail
    go_ret
    exact⟨rfl,HB9.out⟩
theorem askedq_15ot {w:World} {q:Nat} {N:WM} {G:Nat->Prop} (hR:IsR w q N G) (hN:ROk N) (t:Th) (r:Int) 
 (hk11:t.kind=15) (hof:(N.at t.tgt).isSome=true) {u:Th} (hby:N.at t.bi=some u) (hu:u.kind=13/\u.home=t.home) (hr0:r=0) (hid:∀ x ∈ N.things,x.1≠r) (hob:byB N 15 t.bi=true) (rs:List Int) (hrl:rs.length≤100000)
 (hrefs:∀ w',Bl w w'->Calls Tryz.prog 179 #[.agg (thc t)] w' fun e w''=>∃ u,e=.returned u/\RefRow w'' w'.heap.size u rs/\Bl w' w'')
 (hall:∀ x ∈ rs,(N.at x).isSome=true) :
 Calls Tryz.prog 82 #[.pointer (some ⟨q,0,none⟩),.int .i64 r,.agg (thc t)] w fun e w'=>e=.returned (.int .i64 70)/\Bl w w':=by
 have hwk:IntKind.i64.wrap t.kind=t.kind:=by simp [IntKind.wrap,IntKind.signed,IntKind.bits];omega
 have b6:(t.kind==6)=false:=by rw [hk11];rfl
 have b7:(t.kind==7)=false:=by rw [hk11];rfl
 have b9:(t.kind==9)=false:=by rw [hk11];rfl
 have b11:(t.kind==11)=false:=by rw [hk11];rfl
 have b13:(t.kind==13)=false:=by rw [hk11];rfl
 have b14:(t.kind==14)=false:=by rw [hk11];rfl
 have b15:(t.kind==15)=true:=by rw [hk11];rfl
 have b16:(t.kind==16)=false:=by rw [hk11];rfl
 have r0:(r==0)=true:=by rw [hr0];rfl
 have HOt:Hid (∀ w',Bl w w'->Calls Tryz.prog 180 #[.pointer (some ⟨q,0,none⟩),.int .i64 r,.int .i64 15,.int .i64 t.bi,.bool true] w' fun e w''=>e=.returned (.bool true)/\Bl w' w''):=fun w' hb=>by have:=other7_by (hR.below hb) hN r 15 t.bi hid;rw [hob]at this;exact this
 have HO1:Hid ((N.at t.tgt).isSome=true):=hof;have HKw:Hid (t.kind=15\/t.kind=16):=.inl hk11;have HU:Hid (at7 N t.bi=u/\(N.at t.bi).isSome=true):=⟨by unfold at7;rw [hby];rfl,by rw [hby];rfl⟩;have hwu:IntKind.i64.wrap u.kind=u.kind:=by have h2:1≤u.kind/\u.kind≤255:=(hN.cell _ (at_mem hby)).2;simp [IntKind.wrap,IntKind.signed,IntKind.bits];omega
 have u3:(u.kind==13)=true:=by rw [hu.1];rfl
 have uh:(u.home==t.home)=true:=by rw [hu.2];simp
 have HRf:=(show Hid _ from hrefs)
 have HKd:Hid (∀ w',Bl w w'->∀ x ∈ rs,Calls Tryz.prog 147 #[.pointer (some ⟨q,0,none⟩),.int .i64 x] w' fun e w''=>∃ k,e=.returned (.int .i64 k)/\(k==0)=false/\Bl w' w''):=fun w' hb x hx=>by
  refine(kind7_W (hR.below hb) hN.len x hN.kd).mono ?_;rintro e w'' ⟨rfl,hb'⟩;refine⟨_,rfl,?_,hb'⟩;obtain⟨u,hu⟩:=Option.isSome_iff_exists.1 (hall x hx);have h1:=(hN.cell (x,u) (at_mem hu)).2.1;have:(at7 N x).kind≠0:=by unfold at7;rw [hu];simp only [Option.getD_some]at *;omega
  simpa using this
 have HAt:Hid (∀ w',Bl w w'->∀ x,Calls Tryz.prog 47 #[.pointer (some ⟨q,0,none⟩),.int .i64 x] w' fun e w''=>e=.returned (.tuple #[.agg (thc (at7 N x)),.bool (N.at x).isSome])/\Bl w' w''):=fun w' hb x=>at7_W (hR.below hb) hN.len x fun y hy=>(hN.cell y hy).1;have HL:Hid (rs.length≤100000/\∀ x,(thc (at7 N x)).all (·.oneCell')=true):=⟨hrl,hN.one⟩;have H0:Hid (Bl w (w.alloc (.cells (thc t) 46))/\(w.alloc (.cells (thc t) 46)).heap[w.heap.size]? = some (.cells (thc t) 46 (0,0))):=⟨(Below.refl _ w).alloc (Nat.le_refl _) _,blk_new _ _⟩;clear hR hN hrefs hall hrl hk11 hof hby hu hr0 hid hob
 go_enter Tryz.func82,Tryz.ntmps82
 go_upto_region 1 with fail
 revert H0;generalize w.alloc _=w0;intro H0;have l0:=loadWhat_blk H0.out.2 rfl
 go_wp2_with fail
 refine Calls.mono (HRf.out w0 H0.out.1) ?_;rintro e w1 ⟨u,rfl,hr1,hb1⟩;have H1:Hid (Bl w w1/\w1.heap[w.heap.size]? = some (.cells (thc t) 46 (0,0))/\RefRow w1 w0.heap.size u rs):=⟨H0.out.1.trans (hb1.mono H0.out.1.size),below_blk hb1 H0.out.2,hr1⟩;obtain⟨n,hn⟩:∃ n,n=rs.length:=⟨_,rfl⟩
 obtain⟨p,c,rfl⟩:∃ p c,u=.slice p n c:=by
  obtain⟨h1,⟨rfl,h0⟩ | ⟨g,cap,cur,rfl,-⟩⟩:=hr1
  ·exact⟨none,0,by rw [hn,h0]⟩
  ·exact⟨_,_,by rw [hn]⟩
 have HN:Hid (n=rs.length):=hn;clear hr1 hb1 H0 l0 HRf hn
 go_wp2_with fail
 go_loopw [8] (fun vi wr=>∃ i:Nat,vi=.int .i64 i/\i≤n/\Hid (Bl w1 wr)) (fun vi _=>n - (intOf vi).toNat)
 case atStart=>exact⟨0,rfl,Nat.zero_le _,Below.refl _ _⟩
 case round =>
  obtain⟨i,rfl,hi,HB⟩:=hrel;have HBw:Hid (Bl w wr):=H1.out.1.trans (HB.out.mono H1.out.1.size)
  by_cases hin:i<n
  ·have hiz:(i:Int)<(n:Int):=by omega
   have hi0:(0:Int)≤(i:Int):=by omega
   obtain⟨x,hx⟩:∃ x,rs[i]? = some x:=⟨_,List.getElem?_eq_getElem (by have:=HN.out;omega)⟩;have hrow:wr.ownsRow w0.heap.size 25 1 (.slice p n c) rs.length (rs.map (Value.int .i64)):=refRow_on H1.out.2.2 HB.out;obtain⟨g,c',hs,hcx,-,-⟩:=ownsRow_int hrow hx;have hp:p=some ⟨g,0,none⟩:=by injection hs
   subst hp;have HC:=(show Hid _ from HKd.out wr HBw.out x (List.mem_of_getElem? hx));have hwi:wrap64 ((i:Int)+1)=(i:Int)+1:=by have:=HL.out.1;have:=HN.out;unfold wrap64;omega
   clear hrow hs hx
   go_wp2_with fail
   refine Calls.mono HC.out ?_;rintro e w3 ⟨k,rfl,hk0,hb3⟩;have HB3:Hid (Bl w1 w3):=HB.out.trans (hb3.mono HB.out.size);clear hb3 HB HBw HC hcx
   go_wp2_with fail
   go_roundw
   case rel=>exact⟨i+1,by go_num,by omega,HB3.out⟩
   case measure=>rw [hwi];simp [intOf];omega
  ·have hiz:¬ (i:Int)<(n:Int):=by omega
   obtain rfl:i=n:=by omega
   have hkk:¬ (i:Int)<(i:Int):=by omega
   have H4:Hid (Bl w wr/\wr.heap[w.heap.size]? = some (.cells (thc t) 46 (0,0))):=⟨HBw.out,below_blk HB.out H1.out.2.1⟩;clear HB HBw H1 HKd;have c0:wr.cell? ⟨w.heap.size,0,none⟩=some (.int .u8 t.kind):=by rw [cell_blk H4.out.2];rfl
   have c10:wr.cell? ⟨w.heap.size,10,none⟩=some (.int .i64 t.tgt):=by rw [cell_blk H4.out.2];rfl
   go_wp2_with fail
   refine Calls.mono (HAt.out wr H4.out.1 t.tgt) ?_;rintro e w5 ⟨rfl,hb5⟩;have H5:Hid (Bl w w5/\w5.heap[w.heap.size]? = some (.cells (thc t) 46 (0,0))):=⟨H4.out.1.trans (hb5.mono H4.out.1.size),below_blk hb5 H4.out.2⟩;clear hb5 H4 c0 c10;have ho:=HL.out.2 t.tgt;generalize at7 N t.tgt=o1 at ho ⊢;rw [HO1.out];obtain⟨w6,hst,hb6,hg6,-⟩:=boxed_what' w5 (thc o1) rfl ho;have H6:Hid (Bl w w6/\w6.heap[w.heap.size]? = some (.cells (thc t) 46 (0,0))/\w6.heap[w5.heap.size]? = some (.cells (thc o1) 46 (0,0))):=⟨H5.out.1.trans (hb6.mono H5.out.1.size),below_blk hb6 H5.out.2,hg6⟩;have c11:w6.cell? ⟨w.heap.size,11,none⟩=some (.int .i64 t.bi):=by rw [cell_blk H6.out.2.1];rfl
   clear hb6 hg6 ho H5
   go_wp2_with fail
   refine Calls.mono (HAt.out w6 H6.out.1 t.bi) ?_;rintro e w7 ⟨rfl,hb7⟩;have H7:Hid (Bl w w7/\w7.heap[w.heap.size]? = some (.cells (thc t) 46 (0,0))/\w7.heap[w5.heap.size]? = some (.cells (thc o1) 46 (0,0))):=⟨H6.out.1.trans (hb7.mono H6.out.1.size),below_blk hb7 H6.out.2.1,below_blk hb7 H6.out.2.2⟩;clear hb7 H6 c11 hst HAt;have ho:=HL.out.2 t.bi;rw [HU.out.1]at ho ⊢;rw [HU.out.2];obtain⟨w8,hst,hb8,hg8,-⟩:=boxed_what' w7 (thc u) rfl ho;have H8:Hid (Bl w w8/\w8.heap[w.heap.size]? = some (.cells (thc t) 46 (0,0))/\w8.heap[w7.heap.size]? = some (.cells (thc u) 46 (0,0))):=⟨H7.out.1.trans (hb8.mono H7.out.1.size),below_blk hb8 H7.out.2.1,hg8⟩;clear hb8 hg8 ho H7;have c11:w8.cell? ⟨w.heap.size,11,none⟩=some (.int .i64 t.bi):=by rw [cell_blk H8.out.2.1];rfl
   have c1:w8.cell? ⟨w.heap.size,1,none⟩=some (.int .i64 t.home):=by rw [cell_blk H8.out.2.1];rfl
   have e0:w8.cell? ⟨w7.heap.size,0,none⟩=some (.int .u8 u.kind):=by rw [cell_blk H8.out.2.2];rfl
   have e1:w8.cell? ⟨w7.heap.size,1,none⟩=some (.int .i64 u.home):=by rw [cell_blk H8.out.2.2];rfl
   go_wp2_with fail
   refine(wrap7_yes _ _ HKw.out).mono ?_;rintro e _ ⟨rfl,rfl⟩
   go_wp2_with fail
   refine Calls.mono (HOt.out w8 H8.out.1) ?_;rintro e w9 ⟨rfl,hb9⟩;have HB9:Hid (Bl w w9):=H8.out.1.trans (hb9.mono H8.out.1.size);clear hb9 H8 HOt c11 c1 e0 e1 hst
   as_aux_lemma =>
    go_wp2_with fail
    go_ret
    exact⟨rfl,HB9.out⟩
end
end Go.Proofs.YthaliljaglldjaaGreat
