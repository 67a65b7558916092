/- Part of the proof. -/
import Derived.Test.YthaliljaglldjaaGreatmAN
namespace Go.Proofs.YthaliljaglldjaaGreat
set_option maxHeartbeats 16000000
set_option maxRecDepth 20000
open Go.RowKit Go.ChangeMaps Go.MapKept
section
theorem wrap7_yes (w:World) (k:Int) (hk:k=15\/k=16):Calls Tryz.prog 146 #[.int .i64 k] w fun e w'=>e=.returned (.bool true)/\w=w':=by
 rcases hk with rfl | rfl
 ·go_enter Tryz.func146,Tryz.ntmps146
  go_wp2_with fail
  go_ret
  exact⟨rfl,rfl⟩
 ·go_enter Tryz.func146,Tryz.ntmps146
  go_wp2_with fail
  go_ret
  exact⟨rfl,rfl⟩
theorem askedq_13 {w:World} {q:Nat} {N:WM} {G:Nat->Prop} (hR:IsR w q N G) (hN:ROk N) (t:Th) (r:Int) 
 (hk11:t.kind=13) (ht0:t.tgt=0) (rs:List Int) (hrl:rs.length≤100000)
 (hrefs:∀ w',Bl w w'->Calls Tryz.prog 179 #[.agg (thc t)] w' fun e w''=>∃ u,e=.returned u/\RefRow w'' w'.heap.size u rs/\Bl w' w'')
 (hall:∀ x ∈ rs,(N.at x).isSome=true) :
 Calls Tryz.prog 82 #[.pointer (some ⟨q,0,none⟩),.int .i64 r,.agg (thc t)] w fun e w'=>e=.returned (.int .i64 0)/\Bl w w':=by
 have hwk:IntKind.i64.wrap t.kind=t.kind:=by simp [IntKind.wrap,IntKind.signed,IntKind.bits];omega
 have b6:(t.kind==6)=false:=by rw [hk11];rfl
 have b7:(t.kind==7)=false:=by rw [hk11];rfl
 have b9:(t.kind==9)=false:=by rw [hk11];rfl
 have b11:(t.kind==11)=false:=by rw [hk11];rfl
 have b13:(t.kind==13)=true:=by rw [hk11];rfl
 have b14:(t.kind==14)=false:=by rw [hk11];rfl
 have b15:(t.kind==15)=false:=by rw [hk11];rfl
 have b16:(t.kind==16)=false:=by rw [hk11];rfl
 have HT0:Hid (t.tgt=0):=ht0;have HRf:=(show Hid _ from hrefs)
 have HKd:Hid (∀ w',Bl w w'->∀ x ∈ rs,Calls Tryz.prog 147 #[.pointer (some ⟨q,0,none⟩),.int .i64 x] w' fun e w''=>∃ k,e=.returned (.int .i64 k)/\(k==0)=false/\Bl w' w''):=fun w' hb x hx=>by
  refine(kind7_W (hR.below hb) hN.len x hN.kd).mono ?_;rintro e w'' ⟨rfl,hb'⟩;refine⟨_,rfl,?_,hb'⟩;obtain⟨u,hu⟩:=Option.isSome_iff_exists.1 (hall x hx);have h1:=(hN.cell (x,u) (at_mem hu)).2.1;have:(at7 N x).kind≠0:=by unfold at7;rw [hu];simp only [Option.getD_some]at *;omega
  simpa using this
 have HAt:Hid (∀ w',Bl w w'->∀ x,Calls Tryz.prog 47 #[.pointer (some ⟨q,0,none⟩),.int .i64 x] w' fun e w''=>e=.returned (.tuple #[.agg (thc (at7 N x)),.bool (N.at x).isSome])/\Bl w' w''):=fun w' hb x=>at7_W (hR.below hb) hN.len x fun y hy=>(hN.cell y hy).1;have HL:Hid (rs.length≤100000/\∀ x,(thc (at7 N x)).all (·.oneCell')=true):=⟨hrl,hN.one⟩;have H0:Hid (Bl w (w.alloc (.cells (thc t) 46))/\(w.alloc (.cells (thc t) 46)).heap[w.heap.size]? = some (.cells (thc t) 46 (0,0))):=⟨(Below.refl _ w).alloc (Nat.le_refl _) _,blk_new _ _⟩;clear hR hN hrefs hall hrl hk11 ht0
 go_enter Tryz.func82,Tryz.ntmps82
 go_upto_region 1 with fail
 revert H0;generalize w.alloc _=w0;intro H0;have l0:=loadWhat_blk H0.out.2 rfl
 go_wp2_with fail
 refine Calls.mono (HRf.out w0 H0.out.1) ?_;rintro e w1 ⟨u,rfl,hr1,hb1⟩;have H1:Hid (Bl w w1/\w1.heap[w.heap.size]? = some (.cells (thc t) 46 (0,0))/\RefRow w1 w0.heap.size u rs):=⟨H0.out.1.trans (hb1.mono H0.out.1.size),below_blk hb1 H0.out.2,hr1⟩;obtain⟨n,hn⟩:∃ n,n=rs.length:=⟨_,rfl⟩
 obtain⟨p,c,rfl⟩:∃ p c,u=.slice p n c:=by
  obtain⟨h1,⟨rfl,h0⟩ | ⟨g,cap,cur,rfl,-⟩⟩:=hr1
  ·exact⟨none,0,by rw [hn,h0]⟩
  ·exact⟨_,_,by rw [hn]⟩
 have HN:Hid (n=rs.length):=hn;clear hr1 hb1 H0 l0 HRf hn
 go_wp2_with fail
 go_loopw [8] (fun vi wr=>∃ i:Nat,vi=.int .i64 i/\i≤n/\Hid (Bl w1 wr)) (fun vi _=>n - (intOf vi).toNat)
 case atStart=>exact⟨0,rfl,Nat.zero_le _,Below.refl _ _⟩
 case round =>
  obtain⟨i,rfl,hi,HB⟩:=hrel;have HBw:Hid (Bl w wr):=H1.out.1.trans (HB.out.mono H1.out.1.size)
  by_cases hin:i<n
  ·have hiz:(i:Int)<(n:Int):=by omega
   have hi0:(0:Int)≤(i:Int):=by omega
   obtain⟨x,hx⟩:∃ x,rs[i]? = some x:=⟨_,List.getElem?_eq_getElem (by have:=HN.out;omega)⟩;have hrow:wr.ownsRow w0.heap.size 25 1 (.slice p n c) rs.length (rs.map (Value.int .i64)):=refRow_on H1.out.2.2 HB.out;obtain⟨g,c',hs,hcx,-,-⟩:=ownsRow_int hrow hx;have hp:p=some ⟨g,0,none⟩:=by injection hs
   subst hp;have HC:=(show Hid _ from HKd.out wr HBw.out x (List.mem_of_getElem? hx));have hwi:wrap64 ((i:Int)+1)=(i:Int)+1:=by have:=HL.out.1;have:=HN.out;unfold wrap64;omega
   clear hrow hs hx
   go_wp2_with fail
   refine Calls.mono HC.out ?_;rintro e w3 ⟨k,rfl,hk0,hb3⟩;have HB3:Hid (Bl w1 w3):=HB.out.trans (hb3.mono HB.out.size);clear hb3 HB HBw HC hcx
   go_wp2_with fail
   go_roundw
   case rel=>exact⟨i+1,by go_num,by omega,HB3.out⟩
   case measure=>rw [hwi];simp [intOf];omega
  ·have hiz:¬ (i:Int)<(n:Int):=by omega
   obtain rfl:i=n:=by omega
   have hkk:¬ (i:Int)<(i:Int):=by omega
   have H4:Hid (Bl w wr/\wr.heap[w.heap.size]? = some (.cells (thc t) 46 (0,0))):=⟨HBw.out,below_blk HB.out H1.out.2.1⟩;clear HB HBw H1 HKd;have c0:wr.cell? ⟨w.heap.size,0,none⟩=some (.int .u8 t.kind):=by rw [cell_blk H4.out.2];rfl
   have c10:wr.cell? ⟨w.heap.size,10,none⟩=some (.int .i64 t.tgt):=by rw [cell_blk H4.out.2];rfl
   go_wp2_with fail
   refine Calls.mono (HAt.out wr H4.out.1 t.tgt) ?_;rintro e w5 ⟨rfl,hb5⟩;have H5:Hid (Bl w w5/\w5.heap[w.heap.size]? = some (.cells (thc t) 46 (0,0))):=⟨H4.out.1.trans (hb5.mono H4.out.1.size),below_blk hb5 H4.out.2⟩;clear hb5 H4 c0 c10;have ho:=HL.out.2 t.tgt;generalize at7 N t.tgt=u at ho ⊢;generalize (N.at t.tgt).isSome=B1;obtain⟨w6,hst,hb6,hg6,-⟩:=boxed_what' w5 (thc u) rfl ho;have H6:Hid (Bl w w6/\w6.heap[w.heap.size]? = some (.cells (thc t) 46 (0,0))/\w6.heap[w5.heap.size]? = some (.cells (thc u) 46 (0,0))):=⟨H5.out.1.trans (hb6.mono H5.out.1.size),below_blk hb6 H5.out.2,hg6⟩;have c11:w6.cell? ⟨w.heap.size,11,none⟩=some (.int .i64 t.bi):=by rw [cell_blk H6.out.2.1];rfl
   clear hb6 hg6 ho H5
   go_wp2_with fail
   refine Calls.mono (HAt.out w6 H6.out.1 t.bi) ?_;rintro e w7 ⟨rfl,hb7⟩;have H7:Hid (Bl w w7/\w7.heap[w.heap.size]? = some (.cells (thc t) 46 (0,0))/\w7.heap[w5.heap.size]? = some (.cells (thc u) 46 (0,0))):=⟨H6.out.1.trans (hb7.mono H6.out.1.size),below_blk hb7 H6.out.2.1,below_blk hb7 H6.out.2.2⟩;clear hb7 H6 c11 hst HAt;have ho:=HL.out.2 t.bi;generalize at7 N t.bi=o2 at ho ⊢;generalize (N.at t.bi).isSome=B2;obtain⟨w8,hst,hb8,hg8,-⟩:=boxed_what' w7 (thc o2) rfl ho;have HB8:Hid (Bl w w8):=H7.out.1.trans (hb8.mono H7.out.1.size);have c10:w8.cell? ⟨w.heap.size,10,none⟩=some (.int .i64 0):=by rw [cell_blk (below_blk hb8 H7.out.2.1),← HT0.out];rfl
   clear hb8 hg8 ho H7
   go_wp2_with fail
   refine(wrap7_no _ _ (by simpa using b14) (by simpa using b15) (by simpa using b16)).mono ?_;rintro e _ ⟨rfl,rfl⟩
   go_wp2_with fail
   go_ret
   exact⟨rfl,HB8.out⟩
theorem askedq_ref {w:World} {q:Nat} {N:WM} {G:Nat->Prop} (hR:IsR w q N G) (hN:ROk N) (t:Th) (r:Int) 
 (hk11:t.kind=6\/t.kind=7\/t.kind=9\/t.kind=11\/t.kind=15\/t.kind=16) (hof:N.at t.tgt=none) (rs:List Int) (hrl:rs.length≤100000)
 (hrefs:∀ w',Bl w w'->Calls Tryz.prog 179 #[.agg (thc t)] w' fun e w''=>∃ u,e=.returned u/\RefRow w'' w'.heap.size u rs/\Bl w' w'')
 (hall:∀ x ∈ rs,(N.at x).isSome=true) :
 Calls Tryz.prog 82 #[.pointer (some ⟨q,0,none⟩),.int .i64 r,.agg (thc t)] w fun e w'=>e=.returned (.int .i64 5)/\Bl w w':=by
 have hwk:IntKind.i64.wrap t.kind=t.kind:=by simp [IntKind.wrap,IntKind.signed,IntKind.bits];omega
 have HU:Hid ((N.at t.tgt).isSome=false):=by show _=_;rw [hof];rfl
 have HK:=(show Hid (t.kind=6\/t.kind=7\/t.kind=9\/t.kind=11\/t.kind=15\/t.kind=16)from hk11);have HRf:=(show Hid _ from hrefs)
 have HKd:Hid (∀ w',Bl w w'->∀ x ∈ rs,Calls Tryz.prog 147 #[.pointer (some ⟨q,0,none⟩),.int .i64 x] w' fun e w''=>∃ k,e=.returned (.int .i64 k)/\(k==0)=false/\Bl w' w''):=fun w' hb x hx=>by
  refine(kind7_W (hR.below hb) hN.len x hN.kd).mono ?_;rintro e w'' ⟨rfl,hb'⟩;refine⟨_,rfl,?_,hb'⟩;obtain⟨u,hu⟩:=Option.isSome_iff_exists.1 (hall x hx);have h1:=(hN.cell (x,u) (at_mem hu)).2.1;have:(at7 N x).kind≠0:=by unfold at7;rw [hu];simp only [Option.getD_some]at *;omega
  simpa using this
 have HAt:Hid (∀ w',Bl w w'->∀ x,Calls Tryz.prog 47 #[.pointer (some ⟨q,0,none⟩),.int .i64 x] w' fun e w''=>e=.returned (.tuple #[.agg (thc (at7 N x)),.bool (N.at x).isSome])/\Bl w' w''):=fun w' hb x=>at7_W (hR.below hb) hN.len x fun y hy=>(hN.cell y hy).1;have HL:Hid (rs.length≤100000/\∀ x,(thc (at7 N x)).all (·.oneCell')=true):=⟨hrl,hN.one⟩;have H0:Hid (Bl w (w.alloc (.cells (thc t) 46))/\(w.alloc (.cells (thc t) 46)).heap[w.heap.size]? = some (.cells (thc t) 46 (0,0))):=⟨(Below.refl _ w).alloc (Nat.le_refl _) _,blk_new _ _⟩;clear hR hN hrefs hall hrl hk11 hof
 go_enter Tryz.func82,Tryz.ntmps82
 go_upto_region 1 with fail
 revert H0;generalize w.alloc _=w0;intro H0;have l0:=loadWhat_blk H0.out.2 rfl
 go_wp2_with fail
 refine Calls.mono (HRf.out w0 H0.out.1) ?_;rintro e w1 ⟨u,rfl,hr1,hb1⟩;have H1:Hid (Bl w w1/\w1.heap[w.heap.size]? = some (.cells (thc t) 46 (0,0))/\RefRow w1 w0.heap.size u rs):=⟨H0.out.1.trans (hb1.mono H0.out.1.size),below_blk hb1 H0.out.2,hr1⟩;obtain⟨n,hn⟩:∃ n,n=rs.length:=⟨_,rfl⟩
 obtain⟨p,c,rfl⟩:∃ p c,u=.slice p n c:=by
  obtain⟨h1,⟨rfl,h0⟩ | ⟨g,cap,cur,rfl,-⟩⟩:=hr1
  ·exact⟨none,0,by rw [hn,h0]⟩
  ·exact⟨_,_,by rw [hn]⟩
 have HN:Hid (n=rs.length):=hn;clear hr1 hb1 H0 l0 HRf hn
 go_wp2_with fail
 go_loopw [8] (fun vi wr=>∃ i:Nat,vi=.int .i64 i/\i≤n/\Hid (Bl w1 wr)) (fun vi _=>n - (intOf vi).toNat)
 case atStart=>exact⟨0,rfl,Nat.zero_le _,Below.refl _ _⟩
 case round =>
  obtain⟨i,rfl,hi,HB⟩:=hrel;have HBw:Hid (Bl w wr):=H1.out.1.trans (HB.out.mono H1.out.1.size)
  by_cases hin:i<n
  ·have hiz:(i:Int)<(n:Int):=by omega
   have hi0:(0:Int)≤(i:Int):=by omega
   obtain⟨x,hx⟩:∃ x,rs[i]? = some x:=⟨_,List.getElem?_eq_getElem (by have:=HN.out;omega)⟩;have hrow:wr.ownsRow w0.heap.size 25 1 (.slice p n c) rs.length (rs.map (Value.int .i64)):=refRow_on H1.out.2.2 HB.out;obtain⟨g,c',hs,hcx,-,-⟩:=ownsRow_int hrow hx;have hp:p=some ⟨g,0,none⟩:=by injection hs
   subst hp;have HC:=(show Hid _ from HKd.out wr HBw.out x (List.mem_of_getElem? hx));have hwi:wrap64 ((i:Int)+1)=(i:Int)+1:=by have:=HL.out.1;have:=HN.out;unfold wrap64;omega
   clear hrow hs hx
   go_wp2_with fail
   refine Calls.mono HC.out ?_;rintro e w3 ⟨k,rfl,hk0,hb3⟩;have HB3:Hid (Bl w1 w3):=HB.out.trans (hb3.mono HB.out.size);clear hb3 HB HBw HC hcx
   go_wp2_with fail
   go_roundw
   case rel=>exact⟨i+1,by go_num,by omega,HB3.out⟩
   case measure=>rw [hwi];simp [intOf];omega
  ·have hiz:¬ (i:Int)<(n:Int):=by omega
   obtain rfl:i=n:=by omega
   have hkk:¬ (i:Int)<(i:Int):=by omega
   have H4:Hid (Bl w wr/\wr.heap[w.heap.size]? = some (.cells (thc t) 46 (0,0))):=⟨HBw.out,below_blk HB.out H1.out.2.1⟩;clear HB HBw H1 HKd;have c0:wr.cell? ⟨w.heap.size,0,none⟩=some (.int .u8 t.kind):=by rw [cell_blk H4.out.2];rfl
   have c10:wr.cell? ⟨w.heap.size,10,none⟩=some (.int .i64 t.tgt):=by rw [cell_blk H4.out.2];rfl
   go_wp2_with fail
   refine Calls.mono (HAt.out wr H4.out.1 t.tgt) ?_;rintro e w5 ⟨rfl,hb5⟩;have H5:Hid (Bl w w5/\w5.heap[w.heap.size]? = some (.cells (thc t) 46 (0,0))):=⟨H4.out.1.trans (hb5.mono H4.out.1.size),below_blk hb5 H4.out.2⟩;clear hb5 H4 c0 c10;have ho:=HL.out.2 t.tgt;generalize at7 N t.tgt=u at ho ⊢;rw [HU.out];obtain⟨w6,hst,hb6,hg6,-⟩:=boxed_what' w5 (thc u) rfl ho;have H6:Hid (Bl w w6/\w6.heap[w.heap.size]? = some (.cells (thc t) 46 (0,0))/\w6.heap[w5.heap.size]? = some (.cells (thc u) 46 (0,0))):=⟨H5.out.1.trans (hb6.mono H5.out.1.size),below_blk hb6 H5.out.2,hg6⟩;have c11:w6.cell? ⟨w.heap.size,11,none⟩=some (.int .i64 t.bi):=by rw [cell_blk H6.out.2.1];rfl
   clear hb6 hg6 ho H5
   go_wp2_with fail
   refine Calls.mono (HAt.out w6 H6.out.1 t.bi) ?_;rintro e w7 ⟨rfl,hb7⟩;have H7:Hid (Bl w w7/\w7.heap[w.heap.size]? = some (.cells (thc t) 46 (0,0))/\w7.heap[w5.heap.size]? = some (.cells (thc u) 46 (0,0))):=⟨H6.out.1.trans (hb7.mono H6.out.1.size),below_blk hb7 H6.out.2.1,below_blk hb7 H6.out.2.2⟩;clear hb7 H6 c11 hst HAt;have ho:=HL.out.2 t.bi;generalize at7 N t.bi=o2 at ho ⊢;generalize (N.at t.bi).isSome=B2;obtain⟨w8,hst,hb8,hg8,-⟩:=boxed_what' w7 (thc o2) rfl ho;have HB8:Hid (Bl w w8):=H7.out.1.trans (hb8.mono H7.out.1.size);clear hb8 hg8 ho H7
   rcases HK.out with h | h | h | h | h | h
   ·have b6:(t.kind==6)=true:=by rw [h];rfl
    clear h
    go_wp2_with fail
    go_ret
    exact⟨rfl,HB8.out⟩
   ·have b6:(t.kind==6)=false:=by rw [h];rfl
    have b7:(t.kind==7)=true:=by rw [h];rfl
    clear h
    go_wp2_with fail
    go_ret
    exact⟨rfl,HB8.out⟩
   ·have b6:(t.kind==6)=false:=by rw [h];rfl
    have b7:(t.kind==7)=false:=by rw [h];rfl
    have b9:(t.kind==9)=true:=by rw [h];rfl
    clear h
    go_wp2_with fail
    go_ret
    exact⟨rfl,HB8.out⟩
   ·have b6:(t.kind==6)=false:=by rw [h];rfl
    have b7:(t.kind==7)=false:=by rw [h];rfl
    have b9:(t.kind==9)=false:=by rw [h];rfl
    have b11:(t.kind==11)=true:=by rw [h];rfl
    clear h
    go_wp2_with fail
    go_ret
    exact⟨rfl,HB8.out⟩
   ·have b6:(t.kind==6)=false:=by rw [h];rfl
    have b7:(t.kind==7)=false:=by rw [h];rfl
    have b9:(t.kind==9)=false:=by rw [h];rfl
    have b11:(t.kind==11)=false:=by rw [h];rfl
    have b15:(t.kind==15)=true:=by rw [h];rfl
    have hk:=(show Hid (t.kind=15\/t.kind=16)from .inl h);clear h
    go_wp2_with fail
    refine(wrap7_yes _ _ hk.out).mono ?_;rintro e _ ⟨rfl,rfl⟩
    go_wp2_with fail
    go_ret
    exact⟨rfl,HB8.out⟩
   ·have b6:(t.kind==6)=false:=by rw [h];rfl
    have b7:(t.kind==7)=false:=by rw [h];rfl
    have b9:(t.kind==9)=false:=by rw [h];rfl
    have b11:(t.kind==11)=false:=by rw [h];rfl
    have b16:(t.kind==16)=true:=by rw [h];rfl
    have hk:=(show Hid (t.kind=15\/t.kind=16)from .inr h);clear h
    go_wp2_with fail
    refine(wrap7_yes _ _ hk.out).mono ?_;rintro e _ ⟨rfl,rfl⟩
    go_wp2_with fail
    go_ret
    exact⟨rfl,HB8.out⟩
end
section
theorem make7_no {w:World} {q:Nat} {N:WM} {G:Nat->Prop} (hR:IsR w q N G) (t:Th) (hk:0≤t.kind/\t.kind≤255)
 (hform:∀ w',Bl w w'->Calls Tryz.prog 81 #[.agg (thc t),.int .i64 N.made.length] w' fun e w''=>e=.returned (.bool false)/\Bl w' w'') :
 Calls Tryz.prog 15 #[.pointer (some ⟨q,0,none⟩),.agg (thc t)] w fun e w'=>e=.returned (.tuple #[.int .i64 0,.int .i64 70])/\Bl w w':=by
 have hwk:IntKind.i64.wrap t.kind=t.kind:=by simp [IntKind.wrap,IntKind.signed,IntKind.bits];omega
 obtain⟨sP,sC,sT,sM,hV⟩:=hR;obtain⟨ln,hln⟩:∃ ln,ln=N.made.length:=⟨_,rfl⟩
 obtain⟨pM,cM,hsM⟩:∃ p c,sM=.slice p ln c:=by
  obtain⟨h1,⟨rfl,h0⟩ | ⟨g,cap,cur,rfl,-⟩⟩:=hV.rm
  ·exact⟨none,0,by rw [hln,h0]⟩
  ·exact⟨_,_,by rw [hln]⟩
 have HFM:=(show Hid _ from hform);rw [<- hln]at HFM
 have DS:Hid (∀ w',Bl w w'->w'.heap[w.heap.size]? = some (.cells (thc t) 46 (0,0))->w'.cell? ⟨q,4,none⟩=some (.slice pM ln cM)/\w'.cell? ⟨w.heap.size,0,none⟩=some (.int .u8 t.kind) /\
  (ldW (.pointer (some ⟨w.heap.size,0,none⟩))).run Tryz.prog w'=.ok (.value (.agg (thc t))) w'):=fun w' hb hx=>by
  have hq:=below_blk hb hV.blk;exact⟨by rw [cell_blk hq,← hsM];rfl,by rw [cell_blk hx];rfl,loadWhat_blk hx rfl⟩
 clear hV hform hln hsM hk
 go_enter Tryz.func15,Tryz.ntmps15
 go_upto_region 1 with fail
 have H0:Hid (Bl w (w.alloc (.cells (thc t) 46))/\(w.alloc (.cells (thc t) 46)).heap[w.heap.size]? = some (.cells (thc t) 46 (0,0))):=⟨(Below.refl _ w).alloc (Nat.le_refl _) _,blk_new _ _⟩;revert H0;generalize w.alloc _=w0;intro H0
 have ds:Hid (∀ w',Bl w0 w'->w'.cell? ⟨q,4,none⟩=some (.slice pM ln cM)/\w'.cell? ⟨w.heap.size,0,none⟩=some (.int .u8 t.kind)/\(ldW (.pointer (some ⟨w.heap.size,0,none⟩))).run Tryz.prog w'=.ok (.value (.agg (thc t))) w'/\Bl w w'):=fun w' hb=>by
  have hb':=H0.out.1.trans (hb.mono H0.out.1.size);obtain⟨q1,q2,q3⟩:=DS.out w' hb' (below_blk hb H0.out.2);exact⟨q1,q2,q3,hb'⟩
 have Hf:=HFM;have k0:=(ds.out w0 (Below.refl _ _)).2.1
 go_upto_region 2 with fail
 clear k0;refine region_class (C:=fun w'=>Bl w0 w') (by kernel_rfl) (by kernel_rfl) below_drew ?_
 repeat (first
  | go_big_quiet_step (fail)
  | quiet_step (fail)
  | (refine wpQuiet_step (fun K hK=>?_);go_simp;first
   | (refine hK _ ?_;clear hK K)
   | (apply Exists.intro
      refine⟨fun w' hC=>?_,hK _ ?_⟩
      ·obtain⟨q1,q2,q3,q4⟩:=ds.out w' hC
       first
        | exact rfl
        | (go_simp;exact rfl)
        | (go_simp;exact⟨rfl,rfl⟩)
        | exact(Hf.out w' q4).mono fun e w'' ⟨he,hb⟩=>⟨he,hC.trans (hb.mono hC.size)⟩
      clear hK K)))
 refine wpQuiet_nil ?_;intro w5 hC5;have H5:Hid (Bl w w5):=(ds.out w5 hC5).2.2.2;clear hC5 ds Hf H0
 go_wp2_with fail
 go_returns
 exact⟨rfl,H5.out⟩
theorem make7_14 {w:World} {q:Nat} {N:WM} {G:Nat->Prop} (hR:IsR w q N G) (t:Th) (hk14:t.kind=14)
 (hform:∀ w',Bl w w'->Calls Tryz.prog 81 #[.agg (thc t),.int .i64 N.made.length] w' fun e w''=>e=.returned (.bool true)/\Bl w' w'') :
 Calls Tryz.prog 15 #[.pointer (some ⟨q,0,none⟩),.agg (thc t)] w fun e w'=>e=.returned (.tuple #[.int .i64 0,.int .i64 70])/\Bl w w':=by
 have hwk:IntKind.i64.wrap t.kind=t.kind:=by simp [IntKind.wrap,IntKind.signed,IntKind.bits];omega
 have k14:(t.kind==14)=true:=by rw [hk14];rfl
 clear hk14;obtain⟨sP,sC,sT,sM,hV⟩:=hR;obtain⟨ln,hln⟩:∃ ln,ln=N.made.length:=⟨_,rfl⟩
 obtain⟨pM,cM,hsM⟩:∃ p c,sM=.slice p ln c:=by
  obtain⟨h1,⟨rfl,h0⟩ | ⟨g,cap,cur,rfl,-⟩⟩:=hV.rm
  ·exact⟨none,0,by rw [hln,h0]⟩
  ·exact⟨_,_,by rw [hln]⟩
 have HFM:=(show Hid _ from hform);rw [<- hln]at HFM
 have DS:Hid (∀ w',Bl w w'->w'.heap[w.heap.size]? = some (.cells (thc t) 46 (0,0))->w'.cell? ⟨q,4,none⟩=some (.slice pM ln cM)/\w'.cell? ⟨w.heap.size,0,none⟩=some (.int .u8 t.kind) /\
  (ldW (.pointer (some ⟨w.heap.size,0,none⟩))).run Tryz.prog w'=.ok (.value (.agg (thc t))) w'):=fun w' hb hx=>by
  have hq:=below_blk hb hV.blk;exact⟨by rw [cell_blk hq,← hsM];rfl,by rw [cell_blk hx];rfl,loadWhat_blk hx rfl⟩
 clear hV hform hln hsM
 go_enter Tryz.func15,Tryz.ntmps15
 go_upto_region 1 with fail
 have H0:Hid (Bl w (w.alloc (.cells (thc t) 46))/\(w.alloc (.cells (thc t) 46)).heap[w.heap.size]? = some (.cells (thc t) 46 (0,0))):=⟨(Below.refl _ w).alloc (Nat.le_refl _) _,blk_new _ _⟩;revert H0;generalize w.alloc _=w0;intro H0
 have ds:Hid (∀ w',Bl w0 w'->w'.cell? ⟨q,4,none⟩=some (.slice pM ln cM)/\w'.cell? ⟨w.heap.size,0,none⟩=some (.int .u8 t.kind)/\(ldW (.pointer (some ⟨w.heap.size,0,none⟩))).run Tryz.prog w'=.ok (.value (.agg (thc t))) w'/\Bl w w'):=fun w' hb=>by
  have hb':=H0.out.1.trans (hb.mono H0.out.1.size);obtain⟨q1,q2,q3⟩:=DS.out w' hb' (below_blk hb H0.out.2);exact⟨q1,q2,q3,hb'⟩
 have Hf:=HFM;have k0:=(ds.out w0 (Below.refl _ _)).2.1
 go_upto_region 2 with fail
 clear k0;refine region_class (C:=fun w'=>Bl w0 w') (by kernel_rfl) (by kernel_rfl) below_drew ?_
 repeat (first
  | go_big_quiet_step (fail)
  | quiet_step (fail)
  | (refine wpQuiet_step (fun K hK=>?_);go_simp;first
   | (refine hK _ ?_;clear hK K)
   | (apply Exists.intro
      refine⟨fun w' hC=>?_,hK _ ?_⟩
      ·obtain⟨q1,q2,q3,q4⟩:=ds.out w' hC
       first
        | exact rfl
        | (go_simp;exact rfl)
        | (go_simp;exact⟨rfl,rfl⟩)
        | exact(Hf.out w' q4).mono fun e w'' ⟨he,hb⟩=>⟨he,hC.trans (hb.mono hC.size)⟩
      clear hK K)))
 refine wpQuiet_nil ?_;intro w5 hC5;have H5:Hid (Bl w w5):=(ds.out w5 hC5).2.2.2;clear hC5 ds Hf H0
 go_wp2_with fail
 go_returns
 exact⟨rfl,H5.out⟩
theorem make7_13 {w:World} {q:Nat} {N:WM} {G F:Nat->Prop} (hR:IsR w q N G) (hl:N.things.length≤100000) (hla:0≤N.last/\N.last≤1099511627776) (hmade:∀ (i:Nat) (x:Int),N.made[i]? = some x->0≤x/\x≤512)
 (t:Th) (h1:SlAt w F t.vl t.v.l) (h2:SlAt w F t.vals t.vs) (hc:t.code=.slice none 0 0) (hn:t.names=.slice none 0 0) (hd:depV 16 t.v) (hds:∀ x ∈ t.vs,depV 16 x) (hvl:t.vs.length≤1000) (hF:∀ b,F b->¬ G b)
 (hhome:0≤t.home/\t.home<N.made.length) (hk13:t.kind=13) (ht0:t.tgt=0) (aE:Int)
 (hform:∀ w',Bl w w'->Calls Tryz.prog 81 #[.agg (thc t),.int .i64 N.made.length] w' fun e w''=>e=.returned (.bool true)/\Bl w' w'')
 (hask:∀ w',Bl w w'->Calls Tryz.prog 82 #[.pointer (some ⟨q,0,none⟩),.int .i64 0,.agg (thc t)] w' fun e w''=>e=.returned (.int .i64 aE)/\Bl w' w'') :
 Calls Tryz.prog 15 #[.pointer (some ⟨q,0,none⟩),.agg (thc t)] w (MakeR w q N G t aE):=by
 have hwk:IntKind.i64.wrap t.kind=t.kind:=by simp [IntKind.wrap,IntKind.signed,IntKind.bits];omega
 have hk14:t.kind≠14:=by omega
 have hk15:t.kind≠15:=by omega
 have k13:(t.kind==13)=true:=by simpa using hk13
 have k14:(t.kind==14)=false:=by simpa using hk14
 have k15:(t.kind==15)=false:=by simpa using hk15
 obtain⟨pv,cv,hv⟩:=h1.form;obtain⟨ps,cs,hvals⟩:=h2.form;obtain⟨j,hj⟩:∃ j:Nat,t.home=j:=⟨t.home.toNat,by omega⟩;have hjn:j<N.made.length:=by omega
 obtain⟨m,hm⟩:∃ m,N.made[j]? = some m:=⟨_,List.getElem?_eq_getElem hjn⟩;have hm512:=hmade j m hm;have hgd:N.made.getD t.home.toNat 0=m:=by rw [hj];simp [List.getD_eq_getElem?_getD,hm]
 have HADD:Hid (∀ (w':World),Keeps G w w'->IsR w' q { N with made:=N.made.set j (m+1) } G->Calls Tryz.prog 83 #[.pointer (some ⟨q,0,none⟩),.agg (thc t)] w' (AddR w' q { N with made:=N.made.set j (m+1) } G t)):=fun w' hk' hR' =>
  add7_W hR' hl hla t (h1.lt.keeps hk' fun b e h=>hF b h.1 e) (h2.lt.keeps hk' fun b e h=>hF b h.1 e) hc hn hd hds hvl (fun b h=>hF b h.1)
 obtain⟨sP,sC,sT,sM,hV⟩:=hR;obtain⟨g,cM,hsM,hcm,hfm,hgl⟩:=ownsRow_int hV.rm hm
 have hone:(thc t).all (·.oneCell')=true:=by
  simp only [thc,hc,hn,hv,hvals];simp [go_sem]
 obtain⟨ln,hln⟩:∃ ln,ln=N.made.length:=⟨_,rfl⟩;rw [<- hln]at hsM;have HV:=(show Hid (RVw w q N G sP sC sT sM)from hV);have HFM:=(show Hid _ from hform);have HAK:=(show Hid _ from hask);have HI:Hid (N.made.getD t.home.toNat 0=m/\t.home=j/\0≤m/\m≤512/\j<ln/\ln=N.made.length):=⟨hgd,hj,hm512.1,hm512.2,by omega,hln⟩;have hwm:wrap64 (m+1)=m+1:=by unfold wrap64;omega
 have DS:Hid (∀ w',Bl w w'->w'.heap[w.heap.size]? = some (.cells (thc t) 46 (0,0))->w'.cell? ⟨q,4,none⟩=some sM/\w'.cell? ⟨w.heap.size,0,none⟩=some (.int .u8 t.kind)/\w'.cell? ⟨w.heap.size,1,none⟩=some (.int .i64 j) /\
  (ldW (.pointer (some ⟨w.heap.size,0,none⟩))).run Tryz.prog w'=.ok (.value (.agg (thc t))) w'/\w'.cell? ⟨g,j,none⟩=some (.int .i64 m)/\w'.frozen? ⟨g,j,none⟩=false/\w'.cell? ⟨w.heap.size,10,none⟩=some (.int .i64 0)):=fun w' hb hx=>by
  have hq:=below_blk hb hV.blk;have hb':w'.heap[g]? = w.heap[g]?:=hb.block g hgl;refine⟨by rw [cell_blk hq];rfl,by rw [cell_blk hx];rfl,by rw [cell_blk hx,← hj];rfl,loadWhat_blk hx rfl,?_,?_,by rw [cell_blk hx,← ht0];rfl⟩
  ·exact(World.cell?_of_block (a:=⟨g,j,none⟩) hb').trans hcm
  ·exact(World.frozen?_of_block (a:=⟨g,j,none⟩) hb').trans hfm
 clear hV ht0 hk13 hform hask hgd hj hm512 hln h1 h2 hc hn hd hds hvl hF hl hla hmade hhome hm hjn hcm hfm hgl hv hvals hone
 go_enter Tryz.func15,Tryz.ntmps15
 go_upto_region 1 with fail
 have H0:Hid (Bl w (w.alloc (.cells (thc t) 46))/\(w.alloc (.cells (thc t) 46)).heap[w.heap.size]? = some (.cells (thc t) 46 (0,0))):=⟨(Below.refl _ w).alloc (Nat.le_refl _) _,blk_new _ _⟩;revert H0;generalize w.alloc _=w0;intro H0
 have ds:Hid (∀ w',Bl w0 w'->w'.cell? ⟨q,4,none⟩=some (.slice (some ⟨g,0,none⟩) ln cM)/\w'.cell? ⟨w.heap.size,0,none⟩=some (.int .u8 t.kind)/\(ldW (.pointer (some ⟨w.heap.size,0,none⟩))).run Tryz.prog w'=.ok (.value (.agg (thc t))) w'/\Bl w w'/\w'.cell? ⟨w.heap.size,10,none⟩=some (.int .i64 0)):=fun w' hb=>by
  have hb':=H0.out.1.trans (hb.mono H0.out.1.size);obtain⟨q1,q2,q3,q4,-,-,q5⟩:=DS.out w' hb' (below_blk hb H0.out.2);rw [hsM]at q1;exact⟨q1,q2,q4,hb',q5⟩
 have Hf:Hid (∀ w',Bl w w'->Calls Tryz.prog 81 #[.agg (thc t),.int .i64 ln] w' fun e w''=>e=.returned (.bool true)/\Bl w' w''):=by rw [HI.out.2.2.2.2.2];exact HFM.out
 have k0:=(ds.out w0 (Below.refl _ _)).2.1
 go_upto_region 2 with fail
 clear k0;refine region_class (C:=fun w'=>Bl w0 w') (by kernel_rfl) (by kernel_rfl) below_drew ?_
 repeat (first
  | go_big_quiet_step (fail)
  | quiet_step (fail)
  | (refine wpQuiet_step (fun K hK=>?_);go_simp;first
   | (refine hK _ ?_;clear hK K)
   | (apply Exists.intro
      refine⟨fun w' hC=>?_,hK _ ?_⟩
      ·obtain⟨q1,q2,q3,q4,q5⟩:=ds.out w' hC
       first
        | exact rfl
        | (go_simp;exact rfl)
        | (go_simp;exact⟨rfl,rfl⟩)
        | exact(Hf.out w' q4).mono fun e w'' ⟨he,hb⟩=>⟨he,hC.trans (hb.mono hC.size)⟩
      clear hK K)))
 refine wpQuiet_nil ?_;intro w5 hC5;have H5:Hid (Bl w w5/\w5.heap[w.heap.size]? = some (.cells (thc t) 46 (0,0))):=⟨(ds.out w5 hC5).2.2.2.1,below_blk hC5 H0.out.2⟩;have l5:=(ds.out w5 hC5).2.2.1;clear hC5 ds Hf H0
 go_wp2_with fail
 refine Calls.mono (HAK.out w5 H5.out.1) ?_;rintro e w6 ⟨rfl,hb6⟩;have H6:Hid (Bl w w6/\w6.heap[w.heap.size]? = some (.cells (thc t) 46 (0,0))):=⟨H5.out.1.trans (hb6.mono H5.out.1.size),below_blk hb6 H5.out.2⟩;clear hb6 H5 l5 HAK HFM
 by_cases ha:aE=0
 rotate_left
 ·have HR:Hid (MakeR w q N G t aE (.returned (.tuple #[.int .i64 0,.int .i64 aE])) w6):=.inl ⟨ha,rfl,H6.out.1⟩;have hab:(aE==0)=false:=by simpa using ha
  go_wp2_with fail
  go_returns
  exact HR.out
 subst ha;obtain⟨c4,-,c1,l6,cm,fm,-⟩:=DS.out w6 H6.out.1 H6.out.2;rw [hsM]at c4;have hj0:(0:Int)≤(j:Int):=by omega
 have hjl:(j:Int)<(ln:Int):=by have:=HI.out.2.2.2.2.1;omega
 have hjl':j<ln:=HI.out.2.2.2.2.1
 by_cases hm5:m ≥ 512
 ·have HR:Hid (∀ wx,wx=w6.drew\/wx=w6->MakeR w q N G t 0 (.returned (.tuple #[.int .i64 0,.int .i64 8])) wx):=fun wx e=>.inr (.inl ⟨rfl,by rw [HI.out.1];omega,rfl,by
   rcases e with rfl | rfl
   ·exact H6.out.1.trans (below_drew.mono H6.out.1.size)
   ·exact H6.out.1⟩)
  go_upto_region 7 with fail
  go_region
  all_goals
   go_wp2_with fail
   go_returns
   exact HR.out _ (.inl rfl)
 have HM5:Hid (m<512):=by show _<_;omega
 have hm5':¬ m ≥ 512:=hm5
 have HC:Hid (∀ wx,wx=(w6.drew.setCell ⟨g,j,none⟩ (.int .i64 (m+1))).drew ->
  wx.heap[w.heap.size]? = some (.cells (thc t) 46 (0,0))/\Keeps G w wx/\IsR wx q { N with made:=N.made.set j (m+1) } G/\w.heap.size≤wx.heap.size):=fun wx e=>by
  have hv6:=(HV.out.below H6.out.1).below below_drew;have hs:=hsM;rw [HI.out.2.2.2.2.2]at hs;obtain⟨h1,h2⟩:=hv6.count hs j (m+1);have hgw:g<w.heap.size:=HV.out.lt g (HV.out.own g (.inr (.inr (.inr (.inr (by rw [hsM];rfl))))));have hx:(w6.drew.setCell ⟨g,j,none⟩ (.int .i64 (m+1))).heap[w.heap.size]? = some (.cells (thc t) 46 (0,0)):=blk_other (w:=w6.drew) H6.out.2 _ _ (by show w.heap.size≠g;omega);have hk:=(Keeps.of_below (S:=G) H6.out.1).drew.trans h2 (fun _ _ h=>h) (fun _ _ h=>h);have hi:IsR (w6.drew.setCell ⟨g,j,none⟩ (.int .i64 (m+1))) q { N with made:=N.made.set j (m+1) } G:=⟨sP,sC,sT,sM,h1⟩
  subst e;exact⟨hx,hk.drew,hi.below below_drew,hk.size⟩
 have d4:w6.drew.cell? ⟨q,4,none⟩=_:=c4;have d1:w6.drew.cell? ⟨w.heap.size,1,none⟩=_:=c1;have dm:w6.drew.cell? ⟨g,j,none⟩=_:=cm;have dfm:w6.drew.frozen? ⟨g,j,none⟩=_:=fm;clear hm5
 go_upto_region 7 with fail
 go_region
 all_goals (go_upto_region 9 with fail)
 clear d4 d1 dm dfm c4 c1 cm fm l6
 have c4:w6.drew.cell? ⟨q,4,none⟩=some (.slice (some ⟨g,0,none⟩) ln cM):=by
  have:=(DS.out w6 H6.out.1 H6.out.2).1;rw [hsM]at this;exact this
 have c1:w6.drew.cell? ⟨w.heap.size,1,none⟩=some (.int .i64 j):=(DS.out w6 H6.out.1 H6.out.2).2.2.1;have cm:w6.drew.cell? ⟨g,j,none⟩=some (.int .i64 m):=(DS.out w6 H6.out.1 H6.out.2).2.2.2.2.1;have fm:w6.drew.frozen? ⟨g,j,none⟩=false:=(DS.out w6 H6.out.1 H6.out.2).2.2.2.2.2.1;generalize hwd:w6.drew=wd at *
 go_region
 all_goals (go_upto_region 10 with fail)
 obtain⟨wx,hwx⟩:∃ wx,wx=(wd.setCell ⟨g,j,none⟩ (.int .i64 (m+1))).drew:=⟨_,rfl⟩;have HX:Hid (wx.heap[w.heap.size]? = some (.cells (thc t) 46 (0,0))/\Keeps G w wx/\IsR wx q { N with made:=N.made.set j (m+1) } G/\w.heap.size≤wx.heap.size):=HC.out wx hwx
 rw [<- hwx];have l9:=loadWhat_blk HX.out.1 rfl;clear hwx hwd c4 c1 cm fm HC DS
 go_wp2_with fail
 refine Calls.mono (HADD.out wx HX.out.2.1 HX.out.2.2.1) ?_;rintro e w9 ⟨vl',vals',G',rfl,hr9,hk9,hg9,n1,n2⟩
 have HR:Hid (MakeR w q N G t 0 (.returned (.tuple #[.int .i64 (N.last+1),.int .i64 0])) w9):=by
  refine .inr (.inr ⟨rfl,by rw [HI.out.1];exact HM5.out,rfl,vl',vals',G',?_,HX.out.2.1.trans hk9 (fun _ _ h=>h) (fun _ _ h=>h),fun b hb=>(hg9 b hb).imp id fun h=>Nat.le_trans HX.out.2.2.2 h,n1,n2⟩)
  have e:(N.add { t with vl:=vl',vals:=vals' }) = { N with made:=N.made.set j (m+1),things:=N.things ++ [(N.last+1,{ t with vl:=vl',vals:=vals' })],last:=N.last+1 }:=by
   unfold WM.add;rw [if_neg hk14];show WM.mk _ _ _ _ (N.made.set t.home.toNat (N.made.getD t.home.toNat 0+1))=_;rw [HI.out.1,HI.out.2.1];rfl
  rw [e];exact hr9
 clear hr9 hk9 hg9 n1 n2 HX HADD l9
 go_wp2_with fail
 go_returns
 exact HR.out
end
set_option linter.unusedSimpArgs false
end Go.Proofs.YthaliljaglldjaaGreat
namespace Go.Proofs.YthaliljaglldjaaGreat
set_option maxHeartbeats 16000000
set_option maxRecDepth 20000
section
def WM.set (M:WM) (r:Int) (t:Th):WM:={ M with things:=M.things.map fun x=>if x.1=r then (x.1,t)else x }
theorem lookup_map_set (l:List (Int × Th)) (r:Int) (t:Th) (q:Int):(l.map fun x=>if x.1=r then (x.1,t)else x).lookup q=if q=r then (l.lookup q).map fun _=>t else l.lookup q:=by
 induction l with
 | nil=>simp
 | cons x l ih =>
   obtain⟨a,b⟩:=x;rw [List.map_cons]
   by_cases ha:a=r
   ·subst ha;rw [if_pos rfl,List.lookup_cons,List.lookup_cons,ih]
    by_cases e:q=a
    ·subst e;simp
    ·simp [e,show (q==a)=false by simpa using e]
   ·rw [if_neg ha,List.lookup_cons,List.lookup_cons,ih]
    by_cases e:q=a
    ·subst e;simp [ha]
    ·simp [show (q==a)=false by simpa using e]
theorem WM.set_at (M:WM) (r:Int) (t:Th) (q:Int):(M.set r t).at q=if q=r then (M.at q).map fun _=>t else M.at q:=lookup_map_set M.things r t q
theorem WM.set_at_ne (M:WM) {r:Int} (t:Th) {q:Int} (h:q≠r):(M.set r t).at q=M.at q:=by rw [WM.set_at,if_neg h]
theorem WM.set_at_self {M:WM} {r:Int} {u:Th} (t:Th) (h:M.at r=some u):(M.set r t).at r=some t:=by rw [WM.set_at,if_pos rfl,h];rfl
theorem WM.set_at_some {M:WM} {r:Int} {t:Th} {q:Int} {v:Th} (h:(M.set r t).at q=some v):(q=r/\v=t/\∃ u,M.at q=some u)\/(q≠r/\M.at q=some v):=by
 rw [WM.set_at]at h;split at h
 ·rename_i e
  rw [Option.map_eq_some_iff]at h;obtain⟨u,hu,rfl⟩:=h;exact .inl ⟨e,rfl,u,hu⟩
 ·rename_i e
  exact .inr ⟨e,h⟩
theorem WM.set_len (M:WM) (r:Int) (t:Th):(M.set r t).things.length=M.things.length:=by simp [WM.set]
structure SetOk (M:WM) (r:Int) (u t:Th):Prop where
 was:M.at r=some u
 kind:t.kind=u.kind
 home:t.home=u.home
 tgt:t.kind≠13->t.tgt=u.tgt
 tgtw:(Lit.int .i64 t.tgt).wf=true
 bi:t.bi=u.bi
 set:t.set=u.set
theorem find_map_set (r:Int) (t:Th) (P:Int × Th->Bool):∀ (l:List (Int × Th)),(∀ x ∈ l,x.1=r->P (x.1,t)=P x)->((l.map fun x=>if x.1=r then (x.1,t)else x).find? P).map (·.1)=(l.find? P).map (·.1)
 | [],_=>rfl
 | x :: l,h=>by
   have ih:=find_map_set r t P l fun y hy=>h y (by simp [hy]);have hx:=h x (by simp);rw [List.map_cons,List.find?_cons,List.find?_cons]
   by_cases e:x.1=r
   ·rw [if_pos e,hx e]
    cases P x with
    | true=>rfl
    | false=>exact ih
   ·rw [if_neg e]
    cases P x with
    | true=>rfl
    | false=>exact ih
theorem WM.set_find {M:WM} {r:Int} {u t:Th} (hM:M.ok) (h:SetOk M r u t) (a b:Int):(M.set r t).find a b=M.find a b:=by
 refine find_map_set r t _ M.things fun x hx hr=>?_;have hu:M.at x.1=some x.2:=hM.at_of_mem hx;rw [hr,h.was]at hu
 cases hu
 show (t.kind==14 && t.tgt==a && t.set==b)=(x.2.kind==14 && x.2.tgt==a && x.2.set==b);rw [h.kind,h.set]
 by_cases h14:x.2.kind=14
 ·rw [h.tgt (by rw [h.kind,h14];decide)]
 ·rw [show (x.2.kind==14)=false by simpa using h14];rfl
theorem WM.set_ok {M:WM} {r:Int} {u t:Th} (hM:M.ok) (h:SetOk M r u t):(M.set r t).ok where
 sides:=hM.sides
 cuts:=hM.cuts
 made:=hM.made
 tree:=hM.tree
 keys:=by
  show (M.things.map _).Pairwise _;rw [List.pairwise_map];refine hM.keys.imp ?_;intro x y hxy;have e:∀ z:Int × Th,(if z.1=r then (z.1,t)else z).1=z.1:=fun z=>by split <;> rfl
  rw [e,e];exact hxy
 range x hx:=by
  obtain⟨y,hy,rfl⟩:=List.mem_map.1 hx;have:=hM.range y hy;split <;> exact this
 last:=hM.last
 mades:=hM.mades
 wf q v hv:=by
  rcases WM.set_at_some hv with ⟨rfl,rfl,-⟩ | ⟨-,hv⟩
  ·have:=hM.wf _ _ h.was;exact⟨by rw [h.kind];exact this.kind,h.tgtw,by rw [h.bi];exact this.bi,by rw [h.set];exact this.set⟩
  ·exact hM.wf q v hv
 homes q v hv hk:=by
  rcases WM.set_at_some hv with ⟨rfl,rfl,-⟩ | ⟨-,hv⟩
  ·have:=hM.homes _ _ h.was (by rw [<- h.kind];exact hk);rw [<- h.home]at this;exact this
  ·exact hM.homes q v hv hk
 wrap:=by
  obtain⟨rk,h1,h2⟩:=hM.wrap;refine⟨rk,h1,fun q v hv hw=>?_⟩
  have key:∃ x,M.at v.tgt=some x/\rk v.tgt<rk q:=by
   rcases WM.set_at_some hv with ⟨rfl,rfl,-⟩ | ⟨-,hv⟩
   ·have hk:wrapsB u.kind=true:=by rw [<- h.kind];exact hw
    have h13:v.kind≠13:=by rintro e;rw [e]at hw;cases hw
    obtain⟨⟨x,hx⟩,h4⟩:=h2 _ _ h.was hk;rw [<- h.tgt h13]at hx h4;exact⟨x,hx,h4⟩
   ·obtain⟨⟨x,hx⟩,h4⟩:=h2 _ _ hv hw;exact⟨x,hx,h4⟩
  obtain⟨x,hx,h4⟩:=key;refine⟨?_,h4⟩;rw [WM.set_at,hx];split <;> exact⟨_,rfl⟩
 gate q v hv hk:=by
  have key:∃ x,M.at v.bi=some x/\x.kind=13:=by
   rcases WM.set_at_some hv with ⟨rfl,rfl,-⟩ | ⟨-,hv⟩
   ·obtain⟨x,hx,h4⟩:=hM.gate _ _ h.was (by rw [<- h.kind];exact hk);rw [<- h.bi]at hx;exact⟨x,hx,h4⟩
   ·exact hM.gate _ _ hv hk
  obtain⟨x,hx,h4⟩:=key;rw [WM.set_at,hx];split
  ·rename_i e
   refine⟨t,rfl,?_⟩;rw [e,h.was]at hx
   cases hx
   rw [h.kind,h4]
  ·exact⟨x,rfl,h4⟩
 purse q v hv hk:=by
  have key:∃ x,M.at v.tgt=some x/\x.kind=8:=by
   rcases WM.set_at_some hv with ⟨rfl,rfl,-⟩ | ⟨-,hv⟩
   ·obtain⟨x,hx,h4⟩:=hM.purse _ _ h.was (by rw [<- h.kind];exact hk);rw [<- h.tgt (by rw [hk];decide)]at hx;exact⟨x,hx,h4⟩
   ·exact hM.purse _ _ hv hk
  obtain⟨x,hx,h4⟩:=key;rw [WM.set_at,hx];split
  ·rename_i e
   refine⟨t,rfl,?_⟩;rw [e,h.was]at hx
   cases hx
   rw [h.kind,h4]
  ·exact⟨x,rfl,h4⟩
 facet q v q' v' hv hv' k k' e1 e2:=by
  have key:∀ {q v},(M.set r t).at q=some v->v.kind=14->∃ x,M.at q=some x/\x.kind=14/\x.tgt=v.tgt/\x.set=v.set:=by
   intro q v hv hk
   rcases WM.set_at_some hv with ⟨rfl,rfl,-⟩ | ⟨-,hv⟩
   ·exact⟨u,h.was,by rw [<- h.kind];exact hk,(h.tgt (by rw [hk];decide)).symm,h.set.symm⟩
   ·exact⟨v,hv,hk,rfl,rfl⟩
  obtain⟨x,hx,a1,a2,a3⟩:=key hv k;obtain⟨y,hy,b1,b2,b3⟩:=key hv' k';exact hM.facet q x q' y hx hy a1 b1 (by rw [a2,b2,e1]) (by rw [a3,b3,e2])
def WM.del (M:WM) (r:Int):WM:={ M with things:=M.things.filter fun x=>decide (x.1≠r) }
theorem lookup_filter_ne (l:List (Int × Th)) (r q:Int):(l.filter fun x=>decide (x.1≠r)).lookup q=if q=r then none else l.lookup q:=by
 induction l with
 | nil=>simp
 | cons x l ih =>
   obtain⟨a,b⟩:=x;rw [List.filter_cons]
   by_cases ha:a=r
   ·subst ha;simp only [ne_eq,not_true_eq_false,decide_false,Bool.false_eq_true,↓reduceIte,ih,List.lookup_cons]
    by_cases e:q=a
    ·simp [e]
    ·simp [e,show (q==a)=false by simpa using e]
   ·simp only [ne_eq,ha,not_false_eq_true,decide_true,↓reduceIte,List.lookup_cons,ih]
    by_cases e:q=a
    ·subst e;simp [ha]
    ·simp [show (q==a)=false by simpa using e]
theorem WM.del_at (M:WM) (r q:Int):(M.del r).at q=if q=r then none else M.at q:=lookup_filter_ne M.things r q
end
end Go.Proofs.YthaliljaglldjaaGreat
