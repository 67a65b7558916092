/- Part of the proof. -/
import Derived.Test.YthaliljaglldjaaGreatmBR
namespace Go.Proofs.YthaliljaglldjaaGreat
set_option maxHeartbeats 16000000
set_option maxRecDepth 20000
open Go.RowKit Go.ChangeMaps Go.MapKept
section
variable {w:World} {q:Nat} {M:WM} {G:Nat->Prop}
structure TQ (M:WM):Prop where
 ok:M.ok
 light:LtW M
 last:M.last≤100000
theorem TQ.good (h:TQ M):RGood M where
 ok:=⟨by have:=h.ok.len_le;have:=h.last;omega,fun x hx=>by
  obtain⟨k,hh,n,l,tg,bi,s,fu,e⟩:=h.light x hx;have hk:=(h.ok.wf x.1 x.2 (h.ok.at_of_mem hx)).kind;refine⟨?_,hk.1,by omega⟩;rw [e,thc_lt]
  simp [go_sem]⟩
 last:=h.ok.last
 mades:=h.ok.mades
theorem rLayT (hR:IsR w q M G) (hQ:TQ M) {r k h n l tg bi s n':Int} (hat:M.at r=some (lt k h 0 0 n l tg bi s false))
 (hform:∀ w',Bl w w'->Calls Tryz.prog 81 #[.agg (thc (lt k h 0 0 n' l tg bi s false)),.int .i64 M.made.length] w' fun e w''=>e=.returned (.bool true)/\Bl w' w'') :
 Calls Tryz.prog 108 #[.pointer (some ⟨q,0,none⟩),.int .i64 r,.agg (thc (lt k h 0 0 n' l tg bi s false))] w (LaidR w q M G r (lt k h 0 0 n' l tg bi s false)) :=
 (lay7_W (F:=fun _=>False) hR hQ.good.ok hQ.ok.keys hat (x:=lt k h 0 0 n' l tg bi s false) ⟨rfl,rfl,rfl,rfl,rfl,fun e=>e⟩ (SlAt.nil _ _ _ _) (SlAt.nil _ _ _ _) rfl rfl (depV_may (by rfl)) (fun x hx=>by cases hx) (Nat.zero_le _) hform [] (Nat.zero_le _)
  (fun w' _=>refs7_lt w' k h n' l tg bi s false) fun x hx=>by cases hx).mono fun e w' ⟨h1,vl,vals,G',h2,h3,h4,h5,h6⟩=>by
  have e1:=h5 rfl;have e2:=h6 rfl;subst e1 e2;exact⟨h1,G',h2,h3,h4⟩
theorem TQ.set (h:TQ M) {r n':Int} {k hh n l tg bi s:Int} {fu:Bool} (ht:M.at r=some (lt k hh 0 0 n l tg bi s fu)):TQ (M.set r (lt k hh 0 0 n' l tg bi s fu)) where
 ok:=WM.set_ok h.ok ⟨ht,rfl,rfl,fun _=>rfl,(h.ok.wf r _ ht).tgt,rfl,rfl⟩
 light:=fun x hx=>by
  obtain⟨y,hy,e⟩:=List.mem_map.1 (show x ∈ M.things.map _ from hx);rw [<- e];split
  ·exact⟨_,_,_,_,_,_,_,_,rfl⟩
  ·exact h.light y hy
 last:=h.last
theorem TQ.cnt (h:TQ M) (hT:TW M) {x:Int} {u:Th} (hx:M.at x=some u):TQ (M.cnt x):=by
 by_cases hk:u.kind=16
 ·obtain⟨hh,tg,n,h',c,rfl,hn,-,hc⟩:=hT x u hx hk;rw [cnt_tap hx hn];exact h.set hn
 ·rw [cnt_not hx hk];exact h
theorem pass_tq:∀ (l:List Int) {M:WM},TQ M->TW M->(∀ x ∈ l,∃ t,M.at x=some t)->TQ (M.pass l)
 | [],_,h,_,_=>h
 | x :: l,M,h,hT,hl=>by
   obtain⟨u,hu⟩:=hl x (List.mem_cons_self ..);refine pass_tq l (h.cnt hT hu) (hT.cnt hu) fun y hy=>?_;obtain⟨t,ht⟩:=hl y (List.mem_cons_of_mem _ hy);obtain⟨t',h1,-⟩:=cnt_at hT hu ht;exact⟨t',h1⟩
theorem pass13_W (hR:IsR w q M G) (hQ:TQ M) (hT:TW M) {r:Int} {l:List Int} (hl:WayIs M r l) (hl0:l ≠ []) (hGl:∀ b,G b->b<w.heap.size):Calls Tryz.prog 123 #[.pointer (some ⟨q,0,none⟩),.int .i64 r] w fun e w' =>
 e=.returned (.int .i64 0)/\∃ G',IsR w' q (M.pass (M.tapsL l)) G'/\Grew G w G' w':=by
 have HTp:=(show Hid _ from taps13_W hR hQ.good.ok hQ.ok hl hl0);obtain⟨xs,hxs⟩:∃ xs,xs=M.tapsL l:=⟨_,rfl⟩;rw [<- hxs]at HTp ⊢
 have hx16:∀ x ∈ xs,∃ t,M.at x=some t/\t.kind=16:=fun x hx=>by
  rw [hxs]at hx;obtain⟨h1,h2⟩:=List.mem_filter.1 hx;obtain⟨t,ht⟩:=way_mem l r hl x h1;have:M.kindOf x=16:=by simpa using h2
  refine⟨t,ht,?_⟩;unfold WM.kindOf at this;rw [ht]at this;exact this
 have HLn:Hid (xs.length≤100000):=by
  have h1:(M.tapsL l).length≤l.length:=List.length_filter_le _ _;have h2:=way_len hQ.ok hl;have h3:=hQ.good.ok.len;show xs.length≤_;rw [hxs];omega
 have HRd:Hid (∀ (i:Nat) (x:Int),xs[i]? = some x->TQ (M.pass (xs.take i))/\M.pass (xs.take (i+1))=(M.pass (xs.take i)).cnt x/\∃ h tg n h' c,(M.pass (xs.take i)).at x=some (tapT h tg n)/\(M.pass (xs.take i)).at n=some (tallyT h' c)/\(0≤h'/\h'<(M.pass (xs.take i)).made.length)/\0≤c/\c≤9007199254740992):=fun i x hx=>by
  have hsub:∀ y ∈ xs.take i,∃ t,M.at y=some t:=fun y hy=>by
   obtain⟨t,ht,-⟩:=hx16 y (List.mem_of_mem_take hy);exact⟨t,ht⟩
  obtain⟨h1,h2⟩:=pass_keeps (xs.take i) hT hsub;obtain⟨t,ht,hk⟩:=hx16 x (List.mem_of_getElem? hx);obtain⟨t',e1,e2,e3⟩:=h2 x t ht;obtain⟨h,tg,n,h',c,e4,e5,e6,e7⟩:=h1 x t' e1 (e2.trans hk);refine⟨pass_tq _ hQ hT hsub,?_,h,tg,n,h',c,by rw [e1,e4],e5,e6,e7⟩;rw [List.take_add_one,hx];exact WM.pass_snoc M (xs.take i) x
 have HR:=(show Hid (IsR w q M G/\∀ b,G b->b<w.heap.size)from⟨hR,hGl⟩);obtain⟨n,hn⟩:∃ n,n=xs.length:=⟨_,rfl⟩;have HN:=(show Hid (n=xs.length)from hn);clear hR hQ hT hl hl0 hxs hx16 hn hGl
 go_enter Tryz.func123,Tryz.ntmps123
 go_wp2_with fail
 refine Calls.mono HTp.out ?_;rintro e w1 ⟨v,rfl,hrow,hb1⟩
 obtain⟨pv,cv,rfl⟩:∃ p c,v=.slice p n c:=by
  rw [HN.out];obtain⟨h1,⟨rfl,h0⟩ | ⟨g,cap,cur,rfl,-⟩⟩:=hrow
  ·exact⟨none,0,by rw [h0]⟩
  ·exact⟨_,_,rfl⟩
 have H1:Hid (Bl w w1/\w1.ownsRow w.heap.size 25 1 (.slice pv n cv) xs.length (xs.map (Value.int .i64))/\IsR w1 q M G):=⟨hb1,hrow,HR.out.1.below hb1⟩;clear hb1 hrow HTp
 go_wp2_with fail
 go_loopw [7] (fun vi wr=>∃ (i:Nat),vi=.int .i64 i/\i≤n/\Hid (∃ Gi,IsR wr q (M.pass (xs.take i)) Gi/\Grew G w1 Gi wr)) (fun vi _=>n - (intOf vi).toNat)
 case atStart=>exact⟨0,rfl,Nat.zero_le _,G,H1.out.2.2,Keeps.refl _ _,fun b h=>.inl h⟩
 case round =>
  obtain⟨i,rfl,hi,HB⟩:=hrel
  by_cases hin:i<n
  ·have hiz:(i:Int)<(n:Int):=by omega
   have hi0:(0:Int)≤(i:Int):=by omega
   obtain⟨x,hx⟩:∃ x,xs[i]? = some x:=⟨_,List.getElem?_eq_getElem (by have:=HN.out;omega)⟩;obtain⟨Gi,hRi,hGi⟩:=HB.out;have hHB:=HR.out.2;obtain⟨g,c',hs,hcx,-,hgl⟩:=ownsRow_int H1.out.2.1 hx;have hp:pv=some ⟨g,0,none⟩:=by injection hs
   subst hp
   have hgG:¬ G g:=fun h=>by
    have h1:=hHB g h;have h2:=H1.out.2.1;obtain⟨-,⟨h3,-⟩ | ⟨g',cap,cur,h3,hg',-⟩⟩:=h2
    ·cases h3
    ·injection h3 with h3
     injection h3 with h3
     injection h3 with h3
     subst h3;omega
   have hcr:wr.cell? ⟨g,i,none⟩=some (.int .i64 x):=(World.cell?_of_block (a:=⟨g,i,none⟩) (hGi.1.block g hgl hgG)).trans hcx;obtain⟨hQi,hsn,h,tg,nn,h',c,hax,han,hh',hc0,hc1⟩:=HRd.out i x hx
   have hwi:wrap64 ((i:Int)+1)=(i:Int)+1:=by have h1:=HLn.out;have h2:=HN.out;have h3:n≤100000:=(by omega);unfold wrap64;omega
   generalize hMi:M.pass (xs.take i)=Mi at *;have ex:at7 Mi x=tapT h tg nn:=by unfold at7;rw [hax];rfl
   have en:at7 Mi nn=tallyT h' c:=by unfold at7;rw [han];rfl
   have HAx:Hid (∀ w1,Bl wr w1->Calls Tryz.prog 47 #[.pointer (some ⟨q,0,none⟩),.int .i64 x] w1 fun e w'=>e=.returned (.tuple #[.agg (thc (tapT h tg nn)),.bool true])/\Bl w1 w'):=fun w1 hb=>by
    have:=at7_W (hRi.below hb) hQi.good.ok.len x (fun y hy=>(hQi.good.ok.kd y hy).1);rw [ex,hax]at this;exact this
   have HAn:Hid (∀ w1,Bl wr w1->Calls Tryz.prog 47 #[.pointer (some ⟨q,0,none⟩),.int .i64 nn] w1 fun e w'=>e=.returned (.tuple #[.agg (thc (tallyT h' c)),.bool true])/\Bl w1 w'):=fun w1 hb=>by
    have:=at7_W (hRi.below hb) hQi.good.ok.len nn (fun y hy=>(hQi.good.ok.kd y hy).1);rw [en,han]at this;exact this
   have HLy:Hid (∀ w1,Bl wr w1->Calls Tryz.prog 108 #[.pointer (some ⟨q,0,none⟩),.int .i64 nn,.agg (thc (tallyT h' (up c)))] w1 (LaidR w1 q Mi Gi nn (tallyT h' (up c)))):=fun w1 hb =>
    rLayT (hRi.below hb) hQi (k:=3) (h:=h') (n:=c) (l:=0) (tg:=0) (bi:=0) (s:=0) han fun w2 hb2=>form7_3 w2 Mi.made.length h' hh' (up c) (up_range ⟨hc0,hc1⟩)
   have HS:Hid (M.pass (xs.take (i+1))=Mi.set nn (tallyT h' (up c))/\Grew G w1 Gi wr):=⟨hsn.trans (cnt_tap hax han),hGi⟩;have hw1c:wrap64 (c+1)=c+1:=by unfold wrap64;omega
   clear hs hx hcx hgl hRi hGi hHB hgG hQi hsn hax han hh' ex en hMi HB
   go_wp2_with fail
   refine Calls.mono (HAx.out wr (Below.refl _ _)) ?_;rintro e w3 ⟨rfl,hb3⟩;obtain⟨w4,hst,hb4,hg4,-⟩:=boxed_what' w3 (thc (tapT h tg nn)) rfl (by rw [thc_lt];simp [go_sem]);have k11:w4.cell? ⟨w3.heap.size,11,none⟩=some (.int .i64 nn):=by rw [cell_blk hg4];rfl
   have H4:Hid (Bl wr w4/\w4.heap[w3.heap.size]? = some (.cells (thc (tapT h tg nn)) 46 (0,0))):=⟨hb3.trans (hb4.mono hb3.size),hg4⟩;clear hb3 hb4 hg4 hcr HAx
   go_wp2_with fail
   clear hst;refine Calls.mono (HAn.out w4 H4.out.1) ?_;rintro e w5 ⟨rfl,hb5⟩;obtain⟨w6,hst,hb6,hg6,-⟩:=boxed_what' w5 (thc (tallyT h' c)) rfl (by rw [thc_lt];simp [go_sem]);have k8:w6.cell? ⟨w5.heap.size,8,none⟩=some (.int .i64 c):=by rw [cell_blk hg6];rfl
   have f8:w6.frozen? ⟨w5.heap.size,8,none⟩=false:=frozen_blk hg6 8;have hb46:Bl w4 w6:=hb5.trans (hb6.mono hb5.size);have hlt35:w3.heap.size<w5.heap.size:=Nat.lt_of_lt_of_le (blk_lt H4.out.2) hb5.size;have hge:wr.heap.size≤w5.heap.size:=Nat.le_trans H4.out.1.size hb5.size
   have HSt:Hid ((w6.setCell ⟨w5.heap.size,8,none⟩ (.int .i64 (min (c+1) 9007199254740992))).heap[w3.heap.size]? = some (.cells (thc (tapT h tg nn)) 46 (0,0))/\(w6.setCell ⟨w5.heap.size,8,none⟩ (.int .i64 (min (c+1) 9007199254740992))).heap[w5.heap.size]? = some (.cells (thc (tallyT h' (up c))) 46 (0,0))/\Bl wr (w6.setCell ⟨w5.heap.size,8,none⟩ (.int .i64 (min (c+1) 9007199254740992)))) :=
    ⟨blk_other (below_blk hb46 H4.out.2) ⟨w5.heap.size,8,none⟩ _ (by show w3.heap.size≠w5.heap.size;omega),blk_setCell hg6 8 _,(H4.out.1.trans (hb46.mono H4.out.1.size)).setCell (p:=⟨w5.heap.size,8,none⟩) hge _⟩
   clear hb5 hb6 hg6 hb46 hlt35 hge H4 HAn k11
   go_upto_region 10 with fail
   clear hst k8 f8;revert HSt;generalize w6.setCell _ _=w7;intro HSt;have k11:w7.cell? ⟨w3.heap.size,11,none⟩=some (.int .i64 nn):=by rw [cell_blk HSt.out.1];rfl
   have hld:=loadWhat_blk HSt.out.2.1 rfl
   go_wp2_with fail
   refine Calls.mono (HLy.out w7 HSt.out.2.2) ?_;rintro e w8 ⟨rfl,G8,hR8,hG8⟩;have H8:Hid (∃ Gi,IsR w8 q (M.pass (xs.take (i+1))) Gi/\Grew G w1 Gi w8):=⟨G8,by rw [HS.out.1];exact hR8,(show Grew G w1 Gi w7 from⟨HS.out.2.1.then_below HSt.out.2.2,HS.out.2.2⟩).both hG8⟩;clear hR8 hG8 HS HSt hld k11 HLy
   go_wp2_with fail
   go_roundw
   case rel=>exact⟨i+1,by go_num,by omega,H8.out⟩
   case measure=>rw [hwi];clear hwi;simp [intOf];omega
  ·have hiz:¬ (i:Int)<(n:Int):=by omega
   obtain rfl:i=n:=by omega
   have hkk:¬ (i:Int)<(i:Int):=by omega
   have HE:Hid (xs.take i=xs):=by show _=_;rw [HN.out,List.take_length]
   have H5:Hid (∃ G',IsR wr q (M.pass xs) G'/\Grew G w G' wr):=by
    obtain⟨Gi,h1,h2⟩:=HB.out;rw [HE.out]at h1;exact⟨Gi,h1,Below.keeps H1.out.1 h2.1,fun b hb=>(h2.2 b hb).imp id fun h=>Nat.le_trans H1.out.1.size h⟩
   clear HB H1
   go_wp2_with fail
   go_ret
   exact⟨rfl,H5.out⟩
end
section
variable {w:World} {p:Nat} {M:WM} {F:Nat->Prop}
theorem there_no1 (hW:IsW w p M F) {bw bx:Nat} {q k:Int} (hq:(Lit.int .i64 q).wf=true) (hk:M.kindOf q≠k)
 (cw:w.cell? ⟨bw,0,none⟩=some (.pointer (some ⟨p,0,none⟩))) :
 Calls Tryz.prog 168 #[.int .i64 q,.int .u8 k,.pointer (some ⟨bw,0,none⟩),.pointer (some ⟨bx,0,none⟩)] w fun e w'=>e=.returned (.bool false)/\∃ n,w'=w.drewN n:=by
 have hK:∀ m,Calls Tryz.prog 50 #[.pointer (some ⟨p,0,none⟩),.int .i64 q] (w.drewN m) fun e w'=>e=.returned (.int .u8 (M.kindOf q))/\w'=w.drewN m:=fun m =>
  (Kind_W (hW.drewN m) hq).mono (by rintro e w' ⟨rfl,rfl⟩;exact⟨rfl,rfl⟩)
 have HK:=(show Hid _ from hK);have e1:(M.kindOf q==k)=false:=by simpa using hk
 clear hW hq hk hK
 go_enter Tryz.func168,Tryz.ntmps168
 go_wp2_with fail
 go_quiet ((go_at_call 50;exact Calls.quiet_of_same (HK.out _)))
 go_wp2_with fail
 go_ret
 exact⟨rfl,_,rfl⟩
theorem there_no2 (hW:IsW w p M F) {bw bx:Nat} {q k h:Int} {t:Th} (hq:(Lit.int .i64 q).wf=true) (ht:M.at q=some t) (hk:t.kind=k) (hh:t.home≠h)
 (cw:w.cell? ⟨bw,0,none⟩=some (.pointer (some ⟨p,0,none⟩))) (cx:w.cell? ⟨bx,1,none⟩=some (.int .i64 h)) :
 Calls Tryz.prog 168 #[.int .i64 q,.int .u8 k,.pointer (some ⟨bw,0,none⟩),.pointer (some ⟨bx,0,none⟩)] w fun e w'=>e=.returned (.bool false)/\∃ n,w'=w.drewN n:=by
 subst hk
 have hK:∀ m,Calls Tryz.prog 50 #[.pointer (some ⟨p,0,none⟩),.int .i64 q] (w.drewN m) fun e w'=>e=.returned (.int .u8 t.kind)/\w'=w.drewN m:=fun m =>
  (Kind_W (hW.drewN m) hq).mono (by rintro e w' ⟨rfl,rfl⟩;exact⟨by simp [WM.kindOf,ht],rfl⟩)
 have HK:=(show Hid _ from hK);obtain⟨pa,pc,cg,cc,mg,mc,tb,fb,fn,bl,hVW⟩:=hW;have c2:=hVW.c2;have hlk:=hVW.look_drewN hq ht;obtain⟨-,k1,-,-,-,-,-,-⟩:=thc_cell (hVW.blk q t ht).1;have e1:(t.kind==t.kind)=true:=by simp
 have e2:(t.home==h)=false:=by simpa using hh
 clear hVW ht hq hK hh
 go_enter Tryz.func168,Tryz.ntmps168
 go_wp2_with fail
 go_quiet ((go_at_call 50;exact Calls.quiet_of_same (HK.out _)))
 go_wp2_with fail
 go_ret
 exact⟨rfl,_,rfl⟩
theorem fits_15_no (hW:IsW w p M F) {h tg bi:Int} {u:Th} (hq:(Lit.int .i64 tg).wf=true) (hq2:(Lit.int .i64 bi).wf=true) (hno:M.kindOf bi≠13\/∃ t,M.at bi=some t/\t.kind=13/\t.home≠h) (hu:M.at tg=some u) :
 Calls Tryz.prog 78 #[.pointer (some ⟨p,0,none⟩),.int .i64 0,.agg (YthaliljaglldjaaGreat.wr 15 h 0 0 0 0 tg bi 0 false)] w fun e w'=>e=.returned (.bool false)/\Bl w w':=by
 have HW:Hid (IsW w p M F):=hW;have HNo:Hid (M.kindOf bi≠13\/∃ t,M.at bi=some t/\t.kind=13/\t.home≠h):=hno;have HU:Hid ((M.at tg).isSome=true):=by show _=_;rw [hu];rfl
 clear hW hno hu
 go_enter Tryz.func78,Tryz.ntmps78
 go_wp2_with fail
 have hb:=((Below.refl w.heap.size w).alloc (Nat.le_refl _) (.cells #[.pointer (some ⟨p,0,none⟩)] 31)).alloc (by simp) (.cells (YthaliljaglldjaaGreat.wr 15 h 0 0 0 0 tg bi 0 false) 46);have HB:=(show Hid _ from hb);have hBW:=blk2_old w (.cells #[.pointer (some ⟨p,0,none⟩)] 31) (.cells (YthaliljaglldjaaGreat.wr 15 h 0 0 0 0 tg bi 0 false) 46);have hBX:=blk2_new w (.cells #[.pointer (some ⟨p,0,none⟩)] 31) (.cells (YthaliljaglldjaaGreat.wr 15 h 0 0 0 0 tg bi 0 false) 46);have hWB:=HW.out.below hb;revert HB hWB hBW hBX;clear hb;generalize (w.alloc (.cells #[.pointer (some ⟨p,0,none⟩)] 31)).alloc (.cells (YthaliljaglldjaaGreat.wr 15 h 0 0 0 0 tg bi 0 false) 46)=w1;intro HB hBW hBX hWB;have cw:w1.cell? ⟨w.heap.size,0,none⟩=some (.pointer (some ⟨p,0,none⟩)):=by rw [cell_blk hBW];rfl
 have x1:w1.cell? ⟨w.heap.size+1,1,none⟩=some (.int .i64 h):=by rw [cell_blk hBX];rfl
 have x10:w1.cell? ⟨w.heap.size+1,10,none⟩=some (.int .i64 tg):=by rw [cell_blk hBX];rfl
 have x11:w1.cell? ⟨w.heap.size+1,11,none⟩=some (.int .i64 bi):=by rw [cell_blk hBX];rfl
 have HTh:=(show Hid (∀ m,Calls Tryz.prog 168 #[.int .i64 bi,.int .u8 13,.pointer (some ⟨w.heap.size,0,none⟩),.pointer (some ⟨w.heap.size+1,0,none⟩)] (w1.drewN m) fun e w'=>e=.returned (.bool false)/\∃ n,w'=(w1.drewN m).drewN n)from
  fun m=>by
   rcases HNo.out with h1 | ⟨t,h1,h2,h3⟩
   ·exact there_no1 (hWB.drewN m) hq2 h1 cw
   ·exact there_no2 (hWB.drewN m) hq2 h1 h2 h3 cw x1)
 have HIs:=(show Hid (∀ m,Calls Tryz.prog 49 #[.pointer (some ⟨p,0,none⟩),.int .i64 tg] (w1.drewN m) fun e w'=>e=.returned (.bool true)/\w'=w1.drewN m)from
  fun m=>(Is_W (hWB.drewN m) hq).mono (by rw [HU.out];rintro e w' ⟨rfl,rfl⟩;exact⟨rfl,rfl⟩))
 clear hWB hBW hBX
 go_quiet ((first | (go_at_call 168;exact Calls.quiet_of (HTh.out _)) | (go_at_call 49;exact Calls.quiet_of_same (HIs.out _))))
 go_wp2_with fail
 go_ret
 exact⟨rfl,Below.trans HB.out ⟨rfl,rfl,rfl,Nat.le_refl _,fun _ _=>rfl⟩⟩
theorem fits_15_of (hW:IsW w p M F) {h tg bi:Int} {t u:Th} (hq:(Lit.int .i64 tg).wf=true) (hq2:(Lit.int .i64 bi).wf=true) (ht:M.at bi=some t) (hk:t.kind=13) (hh:t.home=h) (h0:t.tgt≠0) (hu:M.at tg=some u) :
 Calls Tryz.prog 78 #[.pointer (some ⟨p,0,none⟩),.int .i64 0,.agg (YthaliljaglldjaaGreat.wr 15 h 0 0 0 0 tg bi 0 false)] w fun e w'=>e=.returned (.bool false)/\Bl w w':=by
 have HW:Hid (IsW w p M F):=hW;have HT:Hid (M.at bi=some t/\t.kind=13/\t.home=h):=⟨ht,hk,hh⟩;have HT0:Hid (t.tgt≠0):=h0;have HU:Hid ((M.at tg).isSome=true):=by show _=_;rw [hu];rfl
 clear hW ht hk hh hu h0
 go_enter Tryz.func78,Tryz.ntmps78
 go_wp2_with fail
 have hb:=((Below.refl w.heap.size w).alloc (Nat.le_refl _) (.cells #[.pointer (some ⟨p,0,none⟩)] 31)).alloc (by simp) (.cells (YthaliljaglldjaaGreat.wr 15 h 0 0 0 0 tg bi 0 false) 46);have HB:=(show Hid _ from hb);have hBW:=blk2_old w (.cells #[.pointer (some ⟨p,0,none⟩)] 31) (.cells (YthaliljaglldjaaGreat.wr 15 h 0 0 0 0 tg bi 0 false) 46);have hBX:=blk2_new w (.cells #[.pointer (some ⟨p,0,none⟩)] 31) (.cells (YthaliljaglldjaaGreat.wr 15 h 0 0 0 0 tg bi 0 false) 46);have hWB:=HW.out.below hb;revert HB hWB hBW hBX;clear hb;generalize (w.alloc (.cells #[.pointer (some ⟨p,0,none⟩)] 31)).alloc (.cells (YthaliljaglldjaaGreat.wr 15 h 0 0 0 0 tg bi 0 false) 46)=w1;intro HB hBW hBX hWB;have cw:w1.cell? ⟨w.heap.size,0,none⟩=some (.pointer (some ⟨p,0,none⟩)):=by rw [cell_blk hBW];rfl
 have x1:w1.cell? ⟨w.heap.size+1,1,none⟩=some (.int .i64 h):=by rw [cell_blk hBX];rfl
 have x10:w1.cell? ⟨w.heap.size+1,10,none⟩=some (.int .i64 tg):=by rw [cell_blk hBX];rfl
 have x11:w1.cell? ⟨w.heap.size+1,11,none⟩=some (.int .i64 bi):=by rw [cell_blk hBX];rfl
 have HTh:=(show Hid (∀ m,Calls Tryz.prog 168 #[.int .i64 bi,.int .u8 13,.pointer (some ⟨w.heap.size,0,none⟩),.pointer (some ⟨w.heap.size+1,0,none⟩)] (w1.drewN m) fun e w'=>e=.returned (.bool true)/\∃ n,w'=(w1.drewN m).drewN n)from
  fun m=>there_yes (hWB.drewN m) hq2 HT.out.1 HT.out.2.1 HT.out.2.2 cw x1)
 have HIs:=(show Hid (∀ m,Calls Tryz.prog 49 #[.pointer (some ⟨p,0,none⟩),.int .i64 tg] (w1.drewN m) fun e w'=>e=.returned (.bool true)/\w'=w1.drewN m)from
  fun m=>(Is_W (hWB.drewN m) hq).mono (by rw [HU.out];rintro e w' ⟨rfl,rfl⟩;exact⟨rfl,rfl⟩))
 obtain⟨pa,pc,cg,cc,mg,mc,tb,fb,fn,bl,hV⟩:=hWB;have c2:=hV.c2;have hlk:=hV.look_drewN hq2 HT.out.1;obtain⟨-,-,-,-,k6,-,-,-⟩:=thc_cell (hV.blk bi t HT.out.1).1;have kt:(t.tgt==0)=false:=by simpa using HT0.out
 clear hV hBW hBX
 go_quiet ((first | (go_at_call 168;exact Calls.quiet_of (HTh.out _)) | (go_at_call 49;exact Calls.quiet_of_same (HIs.out _))))
 go_wp2_with fail
 go_ret
 exact⟨rfl,Below.trans HB.out ⟨rfl,rfl,rfl,Nat.le_refl _,fun _ _=>rfl⟩⟩
end
section
theorem eflat_setTgt {l:List (Int × Th)} {i:Nat} {r:Int} {y:Th} (hx:l[i]? = some (r,y)) (v:Int):eflat (l.set i (r,{ y with tgt:=v }))=(eflat l).set (i * 17+11) (.int .i64 v):=by
 have e0:l.set i (r,y)=l:=by
  obtain⟨h1,h2⟩:=List.getElem?_eq_some_iff.1 hx;rw [<- h2];exact List.set_getElem_self h1
 have e1:=eflat_set (y:=(r,y)) hx;rw [e0]at e1
 have hl:((eflat l).take (i * 17)).length=i * 17:=by
  have:=(List.getElem?_eq_some_iff.1 hx).1;rw [List.length_take,eflat_len];omega
 rw [eflat_set hx]
 conv=>rhs;rw [e1]
 rw [List.set_append,if_pos (by rw [List.length_append,hl,entc_len];omega),List.set_append,if_neg (by rw [hl];omega),hl,show i * 17+11 - i * 17=11 by omega];rfl
theorem RVw.setTgt {w:World} {q g n c i:Nat} {M:WM} {G:Nat->Prop} {sP sC sT sM:Value} (h:RVw w q M G sP sC sT sM) (hs:sT=.slice (some ⟨g,0,none⟩) n c) {r:Int} {y:Th} (hx:M.things[i]? = some (r,y)) (hkeys:M.things.Pairwise fun a b=>a.1<b.1) (v:Int) :
 RVw (w.setCell ⟨g,i * 17+11,none⟩ (.int .i64 v)) q (M.set r { y with tgt:=v }) G sP sC sT sM/\Keeps (fun b=>b=g) w (w.setCell ⟨g,i * 17+11,none⟩ (.int .i64 v)):=by
 have hk:Keeps (fun b=>b=g) w (w.setCell ⟨g,i * 17+11,none⟩ (.int .i64 v)):=Keeps.setCell (S:=fun b=>b=g) w ⟨g,i * 17+11,none⟩ _ rfl;have hown:sT.ownBlock=some g:=by rw [hs];rfl
 have hqg:q≠g:=fun e=>h.apq.2.2.1 (by rw [hown,e]);have hms:(M.set r { y with tgt:=v }).things=M.things.set i (r,{ y with tgt:=v }):=set_keys hx hkeys
 have hil:=(List.getElem?_eq_some_iff.1 hx).1
 refine⟨{
  blk:=hk.none h.blk hqg
  rp:=ownsRow_keeps h.rp hk fun b hb e=>(h.app b hb).2.1 (by rw [hown,e])
  rc:=ownsRow_keeps h.rc hk fun b hb e=>(h.apc b hb).1 (by rw [hown,e])
  rt:=?_
  rm:=ownsRow_keeps h.rm hk fun b hb e=>h.apt g hown (by rw [<- e];exact hb)
  own:=h.own
  lt:=fun b hb=>Nat.lt_of_lt_of_le (h.lt b hb) hk.size
  deep:=fun r' t' ht=>?_
  apq:=h.apq
  app:=h.app
  apc:=h.apc
  apt:=h.apt },hk⟩
 ·rw [hms,List.length_set];obtain⟨h1,⟨h2,-⟩ | ⟨g',cap,cur,h2,hg,hb,hc,hm,hcs,ht⟩⟩:=h.rt
  ·rw [hs]at h2
   cases h2
  ·have hgg:g'=g:=by rw [hs]at h2;injection h2 with h2;injection h2 with h2;injection h2 with h2;exact h2.symm
   subst hgg
   have hle:M.things.length * 17≤cur.size:=by
    have:=congrArg List.length ht;rw [List.length_take,eflat_len]at this;simp at this;omega
   refine⟨by rw [eflat_len,List.length_set],.inr ⟨g',cap,cur.setIfInBounds (i * 17+11) (.int .i64 v),h2,hg,blk_setCell hb _ _,hc,hm,by simpa using hcs,?_⟩⟩;rw [eflat_setTgt hx,← ht];have e1:(cur.setIfInBounds (i * 17+11) (Value.int .i64 v)).toList=cur.toList.set (i * 17+11) (.int .i64 v):=by simp
   rw [e1,List.take_set]
 ·rw [hms]at ht;obtain⟨j,hj⟩:=List.mem_iff_getElem?.1 ht;rw [List.getElem?_set]at hj;split at hj
  ·cases hj
   have hd:=h.deep r y (List.mem_of_getElem? hx);have key:∀ (w':World) (G':Nat->Prop),DeepR w' G' y->DeepR w' G' { y with tgt:=v }:=fun _ _ h=>⟨h.v,h.vs,h.code,h.names⟩
   exact key _ _ ((hd.keeps hk fun b hb _ e=>hb.2.2.2.2.1 (by have e':b=g:=e;rw [hown,e'])).mono fun b hb=>⟨hb.1.1,hb.1.2⟩)
  ·have hd:=h.deep r' t' (List.mem_of_getElem? hj);exact(hd.keeps hk fun b hb _ e=>hb.2.2.2.2.1 (by have e':b=g:=e;rw [hown,e'])).mono fun b hb=>⟨hb.1.1,hb.1.2⟩
end
section
def MakeR15 (w:World) (q:Nat) (N:WM) (G:Nat->Prop) (t u:Th) (aE:Int) (e:Ending) (w':World):Prop :=
 (aE≠0/\e=.returned (.tuple #[.int .i64 0,.int .i64 aE])/\Bl w w') \/
 (aE=0/\¬ N.made.getD t.home.toNat 0<512/\e=.returned (.tuple #[.int .i64 0,.int .i64 8])/\Bl w w') \/
 (aE=0/\N.made.getD t.home.toNat 0<512/\e=.returned (.tuple #[.int .i64 (N.last+1),.int .i64 0])/\∃ vl' vals' G',IsR w' q ((N.add { t with vl:=vl',vals:=vals' }).set t.bi { u with tgt:=N.last+1 }) G'/\Keeps G w w'/\(∀ b,G' b->G b\/w.heap.size≤b)/\(t.v.l = []->vl'=.slice none 0 0)/\(t.vs = []->vals'=.slice none 0 0))
def Mid15 (w9:World) (q:Nat) (M1:WM) (G':Nat->Prop) (sP sC sT sM:Value) (g idx:Nat) (bi:Int) (u':Th) (i:Nat) (wr:World):Prop :=
 RVw wr q (if i≤idx then M1 else M1.set bi u') G' sP sC sT sM/\Keeps (fun b=>b=g) w9 wr
theorem make7_15 {w:World} {q:Nat} {N:WM} {G F:Nat->Prop} (hR:IsR w q N G) (hl:N.things.length≤100000) (hla:0≤N.last/\N.last≤1099511627776) (hmade:∀ (i:Nat) (x:Int),N.made[i]? = some x->0≤x/\x≤512)
 (t:Th) (h1:SlAt w F t.vl t.v.l) (h2:SlAt w F t.vals t.vs) (hc:t.code=.slice none 0 0) (hn:t.names=.slice none 0 0) (hd:depV 16 t.v) (hds:∀ x ∈ t.vs,depV 16 x) (hvl:t.vs.length≤1000) (hF:∀ b,F b->¬ G b)
 (hhome:0≤t.home/\t.home<N.made.length) (hk15:t.kind=15) (hkeys:N.things.Pairwise fun a b=>a.1<b.1) (hrange:∀ x ∈ N.things,x.1≤N.last) {u:Th} (hby:N.at t.bi=some u) (aE:Int)
 (hform:∀ w',Bl w w'->Calls Tryz.prog 81 #[.agg (thc t),.int .i64 N.made.length] w' fun e w''=>e=.returned (.bool true)/\Bl w' w'')
 (hask:∀ w',Bl w w'->Calls Tryz.prog 82 #[.pointer (some ⟨q,0,none⟩),.int .i64 0,.agg (thc t)] w' fun e w''=>e=.returned (.int .i64 aE)/\Bl w' w'') :
 Calls Tryz.prog 15 #[.pointer (some ⟨q,0,none⟩),.agg (thc t)] w (MakeR15 w q N G t u aE):=by
 have hwk:IntKind.i64.wrap t.kind=t.kind:=by simp [IntKind.wrap,IntKind.signed,IntKind.bits];omega
 have hk14:t.kind≠14:=by omega
 have hk13:t.kind≠13:=by omega
 have k13:(t.kind==13)=false:=by simpa using hk13
 have k14:(t.kind==14)=false:=by simpa using hk14
 have k15:(t.kind==15)=true:=by rw [hk15];rfl
 obtain⟨pv,cv,hv⟩:=h1.form;obtain⟨ps,cs,hvals⟩:=h2.form;obtain⟨j,hj⟩:∃ j:Nat,t.home=j:=⟨t.home.toNat,by omega⟩;have hjn:j<N.made.length:=by omega
 obtain⟨m,hm⟩:∃ m,N.made[j]? = some m:=⟨_,List.getElem?_eq_getElem hjn⟩;have hm512:=hmade j m hm;have hgd:N.made.getD t.home.toNat 0=m:=by rw [hj];simp [List.getD_eq_getElem?_getD,hm]
 have HADD:Hid (∀ (w':World),Keeps G w w'->IsR w' q { N with made:=N.made.set j (m+1) } G->Calls Tryz.prog 83 #[.pointer (some ⟨q,0,none⟩),.agg (thc t)] w' (AddR w' q { N with made:=N.made.set j (m+1) } G t)):=fun w' hk' hR' =>
  add7_W hR' hl hla t (h1.lt.keeps hk' fun b e h=>hF b h.1 e) (h2.lt.keeps hk' fun b e h=>hF b h.1 e) hc hn hd hds hvl (fun b h=>hF b h.1)
 obtain⟨sP,sC,sT,sM,hV⟩:=hR;obtain⟨g,cM,hsM,hcm,hfm,hgl⟩:=ownsRow_int hV.rm hm
 have hone:(thc t).all (·.oneCell')=true:=by
  simp only [thc,hc,hn,hv,hvals];simp [go_sem]
 obtain⟨ln,hln⟩:∃ ln,ln=N.made.length:=⟨_,rfl⟩;rw [<- hln]at hsM;have HV:=(show Hid (RVw w q N G sP sC sT sM)from hV);have HFM:=(show Hid _ from hform);have HAK:=(show Hid _ from hask);have HI:Hid (N.made.getD t.home.toNat 0=m/\t.home=j/\0≤m/\m≤512/\j<ln/\ln=N.made.length):=⟨hgd,hj,hm512.1,hm512.2,by omega,hln⟩;have hwm:wrap64 (m+1)=m+1:=by unfold wrap64;omega
 have DS:Hid (∀ w',Bl w w'->w'.heap[w.heap.size]? = some (.cells (thc t) 46 (0,0))->w'.cell? ⟨q,4,none⟩=some sM/\w'.cell? ⟨w.heap.size,0,none⟩=some (.int .u8 t.kind)/\w'.cell? ⟨w.heap.size,1,none⟩=some (.int .i64 j) /\
  (ldW (.pointer (some ⟨w.heap.size,0,none⟩))).run Tryz.prog w'=.ok (.value (.agg (thc t))) w'/\w'.cell? ⟨g,j,none⟩=some (.int .i64 m)/\w'.frozen? ⟨g,j,none⟩=false):=fun w' hb hx=>by
  have hq:=below_blk hb hV.blk;have hb':w'.heap[g]? = w.heap[g]?:=hb.block g hgl;refine⟨by rw [cell_blk hq];rfl,by rw [cell_blk hx];rfl,by rw [cell_blk hx,← hj];rfl,loadWhat_blk hx rfl,?_,?_⟩
  ·exact(World.cell?_of_block (a:=⟨g,j,none⟩) hb').trans hcm
  ·exact(World.frozen?_of_block (a:=⟨g,j,none⟩) hb').trans hfm
 have HKY:Hid ((∀ x ∈ N.things,x.1≤N.last)/\N.things.Pairwise fun a b=>a.1<b.1):=⟨hrange,hkeys⟩;have HBY:Hid (∃ i:Nat,N.things[i]? = some (t.bi,u)):=List.mem_iff_getElem?.1 (at_mem hby);have HGL:Hid (∀ b,G b->b<w.heap.size):=hV.lt;have HNL:Hid (N.things.length≤100000):=hl;clear hrange hkeys hby hk15;clear hV hform hask hgd hj hm512 hln h1 h2 hc hn hd hds hvl hF hl hla hmade hhome hm hjn hcm hfm hgl hv hvals hone
 go_enter Tryz.func15,Tryz.ntmps15
 go_upto_region 1 with fail
 have H0:Hid (Bl w (w.alloc (.cells (thc t) 46))/\(w.alloc (.cells (thc t) 46)).heap[w.heap.size]? = some (.cells (thc t) 46 (0,0))):=⟨(Below.refl _ w).alloc (Nat.le_refl _) _,blk_new _ _⟩;revert H0;generalize w.alloc _=w0;intro H0
 have ds:Hid (∀ w',Bl w0 w'->w'.cell? ⟨q,4,none⟩=some (.slice (some ⟨g,0,none⟩) ln cM)/\w'.cell? ⟨w.heap.size,0,none⟩=some (.int .u8 t.kind)/\(ldW (.pointer (some ⟨w.heap.size,0,none⟩))).run Tryz.prog w'=.ok (.value (.agg (thc t))) w'/\Bl w w'):=fun w' hb=>by
  have hb':=H0.out.1.trans (hb.mono H0.out.1.size);obtain⟨q1,q2,q3,q4,-⟩:=DS.out w' hb' (below_blk hb H0.out.2);rw [hsM]at q1;exact⟨q1,q2,q4,hb'⟩
 have Hf:Hid (∀ w',Bl w w'->Calls Tryz.prog 81 #[.agg (thc t),.int .i64 ln] w' fun e w''=>e=.returned (.bool true)/\Bl w' w''):=by rw [HI.out.2.2.2.2.2];exact HFM.out
 have k0:=(ds.out w0 (Below.refl _ _)).2.1
 go_upto_region 2 with fail
 clear k0;refine region_class (C:=fun w'=>Bl w0 w') (by kernel_rfl) (by kernel_rfl) below_drew ?_
 repeat (first
  | go_big_quiet_step (fail)
  | quiet_step (fail)
  | (refine wpQuiet_step (fun K hK=>?_);go_simp;first
   | (refine hK _ ?_;clear hK K)
   | (apply Exists.intro
      refine⟨fun w' hC=>?_,hK _ ?_⟩
      ·obtain⟨q1,q2,q3,q4⟩:=ds.out w' hC
       first
        | exact rfl
        | (go_simp;exact rfl)
        | (go_simp;exact⟨rfl,rfl⟩)
        | exact(Hf.out w' q4).mono fun e w'' ⟨he,hb⟩=>⟨he,hC.trans (hb.mono hC.size)⟩
      clear hK K)))
 refine wpQuiet_nil ?_;intro w5 hC5;have H5:Hid (Bl w w5/\w5.heap[w.heap.size]? = some (.cells (thc t) 46 (0,0))):=⟨(ds.out w5 hC5).2.2.2,below_blk hC5 H0.out.2⟩;have l5:=(ds.out w5 hC5).2.2.1;clear hC5 ds Hf H0
 go_wp2_with fail
 refine Calls.mono (HAK.out w5 H5.out.1) ?_;rintro e w6 ⟨rfl,hb6⟩;have H6:Hid (Bl w w6/\w6.heap[w.heap.size]? = some (.cells (thc t) 46 (0,0))):=⟨H5.out.1.trans (hb6.mono H5.out.1.size),below_blk hb6 H5.out.2⟩;clear hb6 H5 l5 HAK HFM
 by_cases ha:aE=0
 rotate_left
 ·have HR:Hid (MakeR15 w q N G t u aE (.returned (.tuple #[.int .i64 0,.int .i64 aE])) w6):=.inl ⟨ha,rfl,H6.out.1⟩;have hab:(aE==0)=false:=by simpa using ha
  go_wp2_with fail
  go_returns
  exact HR.out
 subst ha;obtain⟨c4,-,c1,l6,cm,fm⟩:=DS.out w6 H6.out.1 H6.out.2;rw [hsM]at c4;have hj0:(0:Int)≤(j:Int):=by omega
 have hjl:(j:Int)<(ln:Int):=by have:=HI.out.2.2.2.2.1;omega
 have hjl':j<ln:=HI.out.2.2.2.2.1
 by_cases hm5:m ≥ 512
 ·have HR:Hid (∀ wx,wx=w6.drew\/wx=w6->MakeR15 w q N G t u 0 (.returned (.tuple #[.int .i64 0,.int .i64 8])) wx):=fun wx e=>.inr (.inl ⟨rfl,by rw [HI.out.1];omega,rfl,by
   rcases e with rfl | rfl
   ·exact H6.out.1.trans (below_drew.mono H6.out.1.size)
   ·exact H6.out.1⟩)
  go_upto_region 7 with fail
  go_region
  all_goals
   go_wp2_with fail
   go_returns
   exact HR.out _ (.inl rfl)
 have HM5:Hid (m<512):=by show _<_;omega
 have hm5':¬ m ≥ 512:=hm5
 have HC:Hid (∀ wx,wx=(w6.drew.setCell ⟨g,j,none⟩ (.int .i64 (m+1))).drew ->
  wx.heap[w.heap.size]? = some (.cells (thc t) 46 (0,0))/\Keeps G w wx/\IsR wx q { N with made:=N.made.set j (m+1) } G/\w.heap.size≤wx.heap.size):=fun wx e=>by
  have hv6:=(HV.out.below H6.out.1).below below_drew;have hs:=hsM;rw [HI.out.2.2.2.2.2]at hs;obtain⟨h1,h2⟩:=hv6.count hs j (m+1);have hgw:g<w.heap.size:=HV.out.lt g (HV.out.own g (.inr (.inr (.inr (.inr (by rw [hsM];rfl))))));have hx:(w6.drew.setCell ⟨g,j,none⟩ (.int .i64 (m+1))).heap[w.heap.size]? = some (.cells (thc t) 46 (0,0)):=blk_other (w:=w6.drew) H6.out.2 _ _ (by show w.heap.size≠g;omega);have hk:=(Keeps.of_below (S:=G) H6.out.1).drew.trans h2 (fun _ _ h=>h) (fun _ _ h=>h);have hi:IsR (w6.drew.setCell ⟨g,j,none⟩ (.int .i64 (m+1))) q { N with made:=N.made.set j (m+1) } G:=⟨sP,sC,sT,sM,h1⟩
  subst e;exact⟨hx,hk.drew,hi.below below_drew,hk.size⟩
 have d4:w6.drew.cell? ⟨q,4,none⟩=_:=c4;have d1:w6.drew.cell? ⟨w.heap.size,1,none⟩=_:=c1;have dm:w6.drew.cell? ⟨g,j,none⟩=_:=cm;have dfm:w6.drew.frozen? ⟨g,j,none⟩=_:=fm;clear hm5
 go_upto_region 7 with fail
 go_region
 all_goals (go_upto_region 9 with fail)
 clear d4 d1 dm dfm c4 c1 cm fm l6
 have c4:w6.drew.cell? ⟨q,4,none⟩=some (.slice (some ⟨g,0,none⟩) ln cM):=by
  have:=(DS.out w6 H6.out.1 H6.out.2).1;rw [hsM]at this;exact this
 have c1:w6.drew.cell? ⟨w.heap.size,1,none⟩=some (.int .i64 j):=(DS.out w6 H6.out.1 H6.out.2).2.2.1;have cm:w6.drew.cell? ⟨g,j,none⟩=some (.int .i64 m):=(DS.out w6 H6.out.1 H6.out.2).2.2.2.2.1;have fm:w6.drew.frozen? ⟨g,j,none⟩=false:=(DS.out w6 H6.out.1 H6.out.2).2.2.2.2.2;generalize hwd:w6.drew=wd at *
 go_region
 all_goals (go_upto_region 10 with fail)
 obtain⟨wx,hwx⟩:∃ wx,wx=(wd.setCell ⟨g,j,none⟩ (.int .i64 (m+1))).drew:=⟨_,rfl⟩;have HX:Hid (wx.heap[w.heap.size]? = some (.cells (thc t) 46 (0,0))/\Keeps G w wx/\IsR wx q { N with made:=N.made.set j (m+1) } G/\w.heap.size≤wx.heap.size):=HC.out wx hwx
 rw [<- hwx];have l9:=loadWhat_blk HX.out.1 rfl;clear hwx hwd c4 c1 cm fm HC DS
 go_wp2_with fail
 refine Calls.mono (HADD.out wx HX.out.2.1 HX.out.2.2.1) ?_;rintro e w9 ⟨vl',vals',G',rfl,hr9,hk9,hg9,n1,n2⟩;obtain⟨M1,hM1⟩:∃ M1:WM,M1 = { N with made:=N.made.set j (m+1),things:=N.things ++ [(N.last+1,{ t with vl:=vl',vals:=vals' })],last:=N.last+1 }:=⟨_,rfl⟩
 have HM1:Hid (N.add { t with vl:=vl',vals:=vals' } = M1):=by
  show _=_;rw [hM1];unfold WM.add;rw [if_neg hk14];show WM.mk _ _ _ _ (N.made.set t.home.toNat (N.made.getD t.home.toNat 0+1))=_;rw [HI.out.1,HI.out.2.1];rfl
 have hthings:M1.things=N.things ++ [(N.last+1,{ t with vl:=vl',vals:=vals' })]:=by rw [hM1]
 have hkeys1:M1.things.Pairwise fun a b=>a.1<b.1:=by
  rw [hthings];refine List.pairwise_append.2 ⟨HKY.out.2,by simp,fun a ha b hb=>?_⟩;rw [List.mem_singleton.1 hb];have:=HKY.out.1 a ha;show a.1<N.last+1;omega
 have hr9':IsR w9 q M1 G':=by rw [hM1];exact hr9
 obtain⟨idx,hidx⟩:=HBY.out;have hidx1:M1.things[idx]? = some (t.bi,u):=by rw [hthings,List.getElem?_append_left (List.getElem?_eq_some_iff.1 hidx).1];exact hidx
 obtain⟨n,hn⟩:∃ n,n=M1.things.length:=⟨_,rfl⟩;have hn100:n≤100001:=by rw [hn,hthings,List.length_append];have:=HNL.out;simp;omega
 obtain⟨sP',sC',sT',sM',hV9⟩:=hr9';obtain⟨g9,c9,hsT,-,-⟩:=hV9.ent hidx1;rw [<- hn]at hsT;subst hsT
 have hgx:g9≠w.heap.size:=fun e=>by
  have hg:=hV9.own g9 (.inr (.inr (.inr (.inl rfl))))
  rcases hg9 g9 hg with h | h
  ·have:=HGL.out g9 h;omega
  ·have:=blk_lt HX.out.1;omega
 have hx9:w9.heap[w.heap.size]? = some (.cells (thc t) 46 (0,0)):=hk9.none HX.out.1 fun h=>by have:=HGL.out _ h;omega
 obtain⟨L,hL⟩:∃ L,L=N.last+1:=⟨_,rfl⟩;have hL':{ N with made:=N.made.set j (m+1) }.last+1=L:=hL.symm
 have HST:Hid (∀ (i:Nat) (wr:World),Mid15 w9 q M1 G' sP' sC' (.slice (some ⟨g9,0,none⟩) n c9) sM' g9 idx t.bi { u with tgt:=L } i wr->i<n->wr.cell? ⟨q,2,none⟩=some (.slice (some ⟨g9,0,none⟩) n c9)/\wr.cell? ⟨w.heap.size,11,none⟩=some (.int .i64 t.bi) /\
  (∃ k,wr.cell? ⟨g9,i * 17,none⟩=some (.int .i64 k)/\(k=t.bi ↔ i=idx))/\wr.frozen? ⟨g9,i * 17+11,none⟩=false/\(∃ v,wr.cell? ⟨g9,i * 17+11,none⟩=some v)):=fun i wr h hi=>by
  obtain⟨y1,hy1⟩:∃ y,M1.things[i]? = some y:=⟨_,List.getElem?_eq_getElem (by omega)⟩
  obtain⟨y,hy,hyk⟩:∃ y,(if i≤idx then M1 else M1.set t.bi { u with tgt:=L }).things[i]? = some y/\y.1=y1.1:=by
   by_cases e:i≤idx
   ·rw [if_pos e];exact⟨y1,hy1,rfl⟩
   ·rw [if_neg e];show ∃ y,(M1.things.map _)[i]? = some y/\_;rw [List.getElem?_map,hy1];refine⟨_,rfl,?_⟩;show (if y1.1=t.bi then (y1.1,_)else y1).1=y1.1
    split <;> rfl
  obtain⟨g',c',hs',hg',hc'⟩:=h.1.ent hy;have eg:g'=g9:=by injection hs' with h1;injection h1 with h1;injection h1 with h1;exact h1.symm
  subst eg;have hxw:wr.heap[w.heap.size]? = some (.cells (thc t) 46 (0,0)):=h.2.none hx9 fun e=>hgx e.symm;refine⟨by rw [cell_blk h.1.blk];rfl,by rw [cell_blk hxw];rfl,⟨y.1,hc' 0 _ rfl,?_⟩,?_,⟨_,hc' 11 _ rfl⟩⟩
  ·rw [hyk];constructor
   ·intro e
    by_cases hne:i=idx
    ·exact hne
    ·have hil:=(List.getElem?_eq_some_iff.1 hy1).1;have hjl:=(List.getElem?_eq_some_iff.1 hidx1).1;have e1:=(List.getElem?_eq_some_iff.1 hy1).2;have e2:=(List.getElem?_eq_some_iff.1 hidx1).2
     rcases Nat.lt_or_gt_of_ne hne with hlt | hlt
     ·have:=List.pairwise_iff_getElem.1 hkeys1 i idx hil hjl hlt;rw [e1,e2]at this;simp only at this;omega
     ·have:=List.pairwise_iff_getElem.1 hkeys1 idx i hjl hil hlt;rw [e1,e2]at this;simp only at this;omega
   ·intro e;subst e;rw [hidx1]at hy1
    cases hy1
    rfl
  ·obtain⟨h1,⟨h2,-⟩ | ⟨g2,cap,cur,h2,hg,hb,-⟩⟩:=h.1.rt
   ·cases h2
   ·have e2:g2=g':=by injection h2 with h2;injection h2 with h2;injection h2 with h2;exact h2.symm
    subst e2;exact frozen_blk hb _
 have HSQ:Hid (∀ (i:Nat) (wr:World),Mid15 w9 q M1 G' sP' sC' (.slice (some ⟨g9,0,none⟩) n c9) sM' g9 idx t.bi { u with tgt:=L } i wr->wr.cell? ⟨q,2,none⟩=some (.slice (some ⟨g9,0,none⟩) n c9)):=fun i wr h=>by
  rw [cell_blk h.1.blk];rfl
 have HM0:Hid (Mid15 w9 q M1 G' sP' sC' (.slice (some ⟨g9,0,none⟩) n c9) sM' g9 idx t.bi { u with tgt:=L } 0 w9):=⟨by rw [if_pos (Nat.zero_le _)];exact hV9,Keeps.refl _ _⟩
 have HNX:Hid (∀ (i:Nat) (wr:World),Mid15 w9 q M1 G' sP' sC' (.slice (some ⟨g9,0,none⟩) n c9) sM' g9 idx t.bi { u with tgt:=L } i wr->i≠idx->Hid (Mid15 w9 q M1 G' sP' sC' (.slice (some ⟨g9,0,none⟩) n c9) sM' g9 idx t.bi { u with tgt:=L } (i+1) wr.drew)):=fun i wr h hi=>by
  refine⟨?_,h.2.drew⟩;have h1:=h.1.below below_drew
  by_cases e:i≤idx
  ·rw [if_pos e]at h1;rw [if_pos (by omega)];exact h1
  ·rw [if_neg e]at h1;rw [if_neg (by omega)];exact h1
 have HTN:Hid (∀ (wr:World),Mid15 w9 q M1 G' sP' sC' (.slice (some ⟨g9,0,none⟩) n c9) sM' g9 idx t.bi { u with tgt:=L } idx wr->Hid (Mid15 w9 q M1 G' sP' sC' (.slice (some ⟨g9,0,none⟩) n c9) sM' g9 idx t.bi { u with tgt:=L } (idx+1) (wr.drew.setCell ⟨g9,idx * 17+11,none⟩ (.int .i64 L)))):=fun wr h=>by
  have h1:=h.1.below below_drew;rw [if_pos (Nat.le_refl _)]at h1;obtain⟨h2,h3⟩:=h1.setTgt rfl hidx1 hkeys1 L;refine⟨?_,h.2.drew.trans h3 (fun _ _ h=>h) (fun _ _ h=>h)⟩;rw [if_neg (by omega)];exact h2
 have HEND:Hid (∀ (wr:World),Mid15 w9 q M1 G' sP' sC' (.slice (some ⟨g9,0,none⟩) n c9) sM' g9 idx t.bi { u with tgt:=L } n wr->Hid (MakeR15 w q N G t u 0 (.returned (.tuple #[.int .i64 L,.int .i64 0])) wr)):=fun wr h=>by
  have h1:=h.1;rw [if_neg (by have:=(List.getElem?_eq_some_iff.1 hidx1).1;omega)]at h1;have hg:=hV9.own g9 (.inr (.inr (.inr (.inl rfl))));refine .inr (.inr ⟨rfl,by rw [HI.out.1];exact HM5.out,by rw [hL],vl',vals',G',?_,?_,fun b hb=>(hg9 b hb).imp id fun h=>Nat.le_trans HX.out.2.2.2 h,n1,n2⟩)
  ·rw [HM1.out,← hL];exact⟨_,_,_,_,h1⟩
  ·refine(HX.out.2.1.trans hk9 (fun _ _ h=>h) (fun _ _ h=>h)).trans h.2 (fun _ _ h=>h) fun x hx e=>?_;have e':x=g9:=e;subst e'
   rcases hg9 x hg with h | h
   ·exact h
   ·have:=HX.out.2.2.2;omega
 have HN9:Hid (idx<n/\n≤100001):=⟨by rw [hn];exact(List.getElem?_eq_some_iff.1 hidx1).1,hn100⟩;rw [hL'];clear hr9 hk9 hg9 n1 n2 HX HADD l9 hM1 HM1 hthings hkeys1 hidx hidx1 hn hn100 hV9 hgx hx9 hL hL'
 go_wp2_with fail
 go_loopw [9] (fun vi wr=>∃ i:Nat,vi=.int .i64 i/\i≤n/\Hid (Mid15 w9 q M1 G' sP' sC' (.slice (some ⟨g9,0,none⟩) n c9) sM' g9 idx t.bi { u with tgt:=L } i wr)) (fun vi _=>n - (intOf vi).toNat)
 case atStart=>exact⟨0,rfl,Nat.zero_le _,HM0.out⟩
 case round =>
  obtain⟨i,rfl,hi,HB⟩:=hrel
  by_cases hin:i<n
  ·have hiz:(i:Int)<(n:Int):=by omega
   have hi0:(0:Int)≤(i:Int):=by omega
   obtain⟨d2,d11,⟨k,dk,hk⟩,df,v,dv⟩:=HST.out i wr HB.out hin;have hwi:wrap64 ((i:Int)+1)=(i:Int)+1:=by have:=HN9.out;unfold wrap64;omega
   have e2:wr.drew.cell? ⟨q,2,none⟩=_:=d2;have e11:wr.drew.cell? ⟨w.heap.size,11,none⟩=_:=d11;have ek:wr.drew.cell? ⟨g9,i * 17,none⟩=_:=dk;have ef:wr.drew.frozen? ⟨g9,i * 17+11,none⟩=_:=df;have ev:wr.drew.cell? ⟨g9,i * 17+11,none⟩=_:=dv
   by_cases he:i=idx
   ·have hkb:(k==t.bi)=true:=by simpa using hk.2 he
    subst he;have HT:=HTN.out wr HB.out;clear hk
    go_upto_region 15 with fail
    clear HST HSQ HM0 HNX HTN HEND HB d11 dk df dv
    go_region
    all_goals (go_upto_region 16 with fail)
    generalize hwd:wr.drew=wd at *
    go_wp2_with fail
    refine⟨⟨i+1,by go_num,by omega,HT.out⟩,?_⟩;rw [hwi];clear hwi;simp [intOf];omega
   ·have hkb:(k==t.bi)=false:=by simpa using fun e=>he (hk.1 e)
    have HT:=HNX.out i wr HB.out he;clear hk he
    go_upto_region 15 with fail
    clear HST HSQ HM0 HNX HTN HEND HB d11 dk df dv
    go_region
    all_goals go_wp2_with fail
    all_goals
     refine⟨⟨i+1,by go_num,by omega,HT.out⟩,?_⟩;rw [hwi];clear hwi;simp [intOf];omega
  ·have hiz:¬ (i:Int)<(n:Int):=by omega
   obtain rfl:i=n:=by omega
   have hkk:¬ (i:Int)<(i:Int):=by omega
   have d2:=HSQ.out i wr HB.out;have HE:=HEND.out wr HB.out
   go_wp2_with fail
   go_returns
   exact HE.out
end
section
variable {w:World} {q:Nat} {M:WM} {G:Nat->Prop}
theorem form7_homeT (w:World) (sides k h tg bi:Int) (hk:1≤k/\k≤16) (h14:k≠14) (hb:h<0\/h ≥ sides) :
 Calls Tryz.prog 81 #[.agg (YthaliljaglldjaaGreat.wr k h 0 0 0 0 tg bi 0 false),.int .i64 sides] w fun e w'=>e=.returned (.bool false)/\Bl w w':=by
 have hwk:IntKind.i64.wrap k=k:=by simp [IntKind.wrap,IntKind.signed,IntKind.bits];omega
 have h1:¬ k<1:=by omega
 have h2:¬ k > 16:=by omega
 have hb14:(k != 14)=true:=by simpa using h14
 have H5:=(show Hid _ from two_what w (YthaliljaglldjaaGreat.wr k h 0 0 0 0 tg bi 0 false) (YthaliljaglldjaaGreat.wr k h 0 0 0 0 0 0 0 false));clear hk h14
 rcases hb with hb | hb
 ·go_enter Tryz.func81,Tryz.ntmps81
  go_wp2_with fail
  go_ret
  exact⟨rfl,(H5.out _ (.inl rfl)).1⟩
 ·by_cases hb0:h<0
  ·go_enter Tryz.func81,Tryz.ntmps81
   go_wp2_with fail
   go_ret
   exact⟨rfl,(H5.out _ (.inl rfl)).1⟩
  ·go_enter Tryz.func81,Tryz.ntmps81
   go_wp2_with fail
   go_ret
   exact⟨rfl,(H5.out _ (.inl rfl)).1⟩
abbrev gateT (h r n:Int):Th:=lt 15 h 0 0 0 0 r n 0 false
def gateE (M:WM) (h r n:Int):Int :=
 if sideB M h=true then if (M.at r).isSome=true then if (M.at n).isSome=true then if (at7 M n).kind=13/\(at7 M n).home=h/\byB M 15 n=false then 0 else 70 else 5 else 5 else 70
theorem TQ.ids (h:TQ M):∀ x ∈ M.things,x.1≠0:=fun x hx=>by have:=h.ok.range x hx;omega
theorem rGate_no (hR:IsR w q M G) (hQ:TQ M) {h r n:Int} (he:gateE M h r n≠0) :
 Calls Tryz.prog 15 #[.pointer (some ⟨q,0,none⟩),.agg (thc (gateT h r n))] w fun e w'=>e=.returned (.tuple #[.int .i64 0,.int .i64 (gateE M h r n)])/\Bl w w':=by
 have hN:=hQ.good
 by_cases hs:sideB M h=true
 rotate_left
 ·have hE:gateE M h r n=70:=by unfold gateE;rw [if_neg hs]
  rw [hE];have hh:h<0\/h ≥ M.made.length:=by have:=mt sideB_iff.2 hs;omega
  exact make7_no hR _ ⟨by show (0:Int)≤15;decide,by show (15:Int)≤255;decide⟩ fun w2 _=>form7_homeT w2 M.made.length 15 h r n (by decide) (by decide) hh
 have hh:=sideB_iff.1 hs
 have fin:∀ aE:Int,aE≠0->(∀ w',Bl w w'->Calls Tryz.prog 82 #[.pointer (some ⟨q,0,none⟩),.int .i64 0,.agg (thc (gateT h r n))] w' fun e w''=>e=.returned (.int .i64 aE)/\Bl w' w'') ->
  Calls Tryz.prog 15 #[.pointer (some ⟨q,0,none⟩),.agg (thc (gateT h r n))] w fun e w'=>e=.returned (.tuple #[.int .i64 0,.int .i64 aE])/\Bl w w':=fun aE ha hask =>
  make7_ref hR _ ⟨by show (0:Int)≤15;decide,by show (15:Int)≤255;decide⟩ ⟨by show (15:Int)≠13;decide,by show (15:Int)≠14;decide⟩ ha hask fun w2 _=>form7_15 w2 M.made.length h hh r n
 by_cases hr:(M.at r).isSome=true
 rotate_left
 ·have hE:gateE M h r n=5:=by unfold gateE;rw [if_pos hs,if_neg hr]
  rw [hE];exact fin 5 (by decide) fun w2 hb=>askedq_ref (hR.below hb) hN.ok (gateT h r n) 0 (.inr (.inr (.inr (.inr (.inl rfl))))) (by show M.at r=none;simpa using hr) [] (Nat.zero_le _) (fun w3 _=>refs7_lt w3 15 h 0 0 r n 0 false) fun x hx=>by cases hx
 cases hn:M.at n with
 | none =>
   have hE:gateE M h r n=5:=by unfold gateE;rw [if_pos hs,if_pos hr,if_neg (by rw [hn];decide)]
   rw [hE];exact fin 5 (by decide) fun w2 hb=>askedq_15ref (hR.below hb) hN.ok (gateT h r n) 0 rfl hr hn [] (Nat.zero_le _) (fun w3 _=>refs7_lt w3 15 h 0 0 r n 0 false) fun x hx=>by cases hx
 | some u =>
   have eu:at7 M n=u:=by unfold at7;rw [hn];rfl
   have hE0:gateE M h r n=if u.kind=13/\u.home=h/\byB M 15 n=false then 0 else 70:=by unfold gateE;rw [if_pos hs,if_pos hr,if_pos (by rw [hn];rfl),eu]
   by_cases hu:u.kind=13/\u.home=h
   ·cases hb:byB M 15 n with
    | false=>exact absurd (by rw [hE0,if_pos ⟨hu.1,hu.2,hb⟩]) he
    | true =>
      have hE:gateE M h r n=70:=by rw [hE0,if_neg (fun e=>by rw [hb]at e;cases e.2.2)]
      rw [hE];exact fin 70 (by decide) fun w2 hb2=>askedq_15ot (hR.below hb2) hN.ok (gateT h r n) 0 rfl hr hn hu rfl hQ.ids hb [] (Nat.zero_le _) (fun w3 _=>refs7_lt w3 15 h 0 0 r n 0 false) fun x hx=>by cases hx
   ·have hE:gateE M h r n=70:=by rw [hE0,if_neg (fun e=>hu ⟨e.1,e.2.1⟩)]
    rw [hE];exact fin 70 (by decide) fun w2 hb=>askedq_15no (hR.below hb) hN.ok (gateT h r n) 0 rfl hr hn hu rfl [] (Nat.zero_le _) (fun w3 _=>refs7_lt w3 15 h 0 0 r n 0 false) fun x hx=>by cases hx
def GateR (w:World) (q:Nat) (M:WM) (G:Nat->Prop) (h:Int) (t:Th) (n:Int) (u:Th) (e:Ending) (w':World):Prop :=
 (M.made.getD h.toNat 0<512/\e=.returned (.tuple #[.int .i64 (M.last+1),.int .i64 0])/\∃ G',IsR w' q ((M.add t).set n { u with tgt:=M.last+1 }) G'/\Grew G w G' w') \/
 (¬ M.made.getD h.toNat 0<512/\e=.returned (.tuple #[.int .i64 0,.int .i64 8])/\Bl w w')
theorem rGate_W (hR:IsR w q M G) (hQ:TQ M) {h r n:Int} {u:Th} (he:gateE M h r n=0) (hn:M.at n=some u) :
 Calls Tryz.prog 15 #[.pointer (some ⟨q,0,none⟩),.agg (thc (gateT h r n))] w (GateR w q M G h (gateT h r n) n u):=by
 have hN:=hQ.good
 have hs:sideB M h=true:=by
  by_cases e:sideB M h=true
  ·exact e
  ·unfold gateE at he;rw [if_neg e]at he;cases he
 have hh:=sideB_iff.1 hs
 have hr:(M.at r).isSome=true:=by
  by_cases e:(M.at r).isSome=true
  ·exact e
  ·unfold gateE at he;rw [if_pos hs,if_neg e]at he;cases he
 have eu:at7 M n=u:=by unfold at7;rw [hn];rfl
 have hu:u.kind=13/\u.home=h/\byB M 15 n=false:=by
  by_cases e:u.kind=13/\u.home=h/\byB M 15 n=false
  ·exact e
  ·unfold gateE at he;rw [if_pos hs,if_pos hr,if_pos (by rw [hn];rfl),eu,if_neg e]at he;cases he
 refine(make7_15 (F:=fun _=>False) hR hN.ok.len hN.last hN.mades (gateT h r n) (SlAt.nil _ _ _ _) (SlAt.nil _ _ _ _) rfl rfl (depV_may (by rfl)) (fun x hx=>by cases hx) (Nat.zero_le _) (fun b h=>h.elim) hh rfl hQ.ok.keys (fun x hx=>(hQ.ok.range x hx).2) hn 0
  (fun w' _=>form7_15 w' M.made.length h hh r n) fun w' hb =>
  askedq_15 (hR.below hb) hN.ok (gateT h r n) 0 rfl hr hn ⟨hu.1,hu.2.1⟩ rfl hQ.ids hu.2.2 [] (Nat.zero_le _) (fun w2 _=>refs7_lt w2 15 h 0 0 r n 0 false) fun x hx=>by cases hx).mono fun e w' hm=>?_
 rcases hm with ⟨h0,-⟩ | ⟨-,h1,h2,h3⟩ | ⟨-,h1,h2,vl,vals,G',h3,h4,h5,h6,h7⟩
 ·exact absurd rfl h0
 ·exact .inr ⟨h1,h2,h3⟩
 ·have e1:=h6 rfl;have e2:=h7 rfl;subst e1 e2;exact .inl ⟨h1,h2,G',h3,h4,h5⟩
end
end Go.Proofs.YthaliljaglldjaaGreat
