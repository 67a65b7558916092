/- Part of the proof. -/
import Derived.Test.YthaliljaglldjaaGreatmBU
namespace Go.Proofs.YthaliljaglldjaaGreat
set_option maxHeartbeats 16000000
set_option maxRecDepth 20000
open Go.RowKit Go.ChangeMaps Go.MapKept
section
theorem form7_14_out (w:World) (sides:Int) (n:Int) (hn:n<0\/9007199254740992<n) (tg:Int) (se:Int) :
 Calls Tryz.prog 81 #[.agg (YthaliljaglldjaaGreat.wr 14 0 0 0 n 0 tg 0 se false),.int .i64 sides] w fun e w'=>e=.returned (.bool false)/\Bl w w':=by
 have Hn:=(show Hid _ from hn);clear hn;have H5:=(show Hid _ from two_what w (YthaliljaglldjaaGreat.wr 14 0 0 0 n 0 tg 0 se false) (YthaliljaglldjaaGreat.wr 14 0 0 0 0 0 tg 0 se false))
 go_enter Tryz.func81,Tryz.ntmps81
 go_upto_block 0 with fail
 go_cut [7,8,9] (fun a7 a8 a9 wx=>a7=.bool false/\a8=.bool false/\a9=.bool false/\Hid (Bl w wx/\wx.heap[w.heap.size]? = some (.cells (YthaliljaglldjaaGreat.wr 14 0 0 0 n 0 tg 0 se false) 46 (0,0))/\wx.heap[w.heap.size+1]? = some (.cells (YthaliljaglldjaaGreat.wr 14 0 0 0 0 0 tg 0 se false) 46 (0,0))))
 case first =>
  go_upto_region 47 with fail
  go_region
  all_goals
   go_wp2_with fail
   go_meet
   case rel=>first | exact⟨rfl,rfl,rfl,H5.out _ (.inr rfl)⟩ | exact⟨rfl,rfl,rfl,H5.out _ (.inl rfl)⟩
 clear H5;obtain⟨rfl,rfl,rfl,H5⟩:=hcut;generalize wc=w5 at *;have aa:=cells16 H5.out.2.1;have bb:=cells16 H5.out.2.2
 rcases Hn.out with hn | hn
 ·go_wp2_with fail
  go_ret
  exact⟨rfl,H5.out.1⟩
 ·have hn1:¬ n<0:=by omega
  have hn2:n > 9007199254740992:=hn
  go_wp2_with fail
  go_ret
  exact⟨rfl,H5.out.1⟩
end
section
theorem form7_15_ne (w:World) (sides:Int) (h:Int) (hh:0≤h/\h<sides) (n:Int) (hn:0≤n/\n≤9007199254740992) (hn0:n≠0) (tg:Int) (bi:Int) :
 Calls Tryz.prog 81 #[.agg (YthaliljaglldjaaGreat.wr 15 h 0 0 n 0 tg bi 0 false),.int .i64 sides] w fun e w'=>e=.returned (.bool false)/\Bl w w':=by
 have hh1:¬ h<0:=by omega
 have hh2:¬ h ≥ sides:=by omega
 clear hh;have hn1:¬ n<0:=by omega
 have hn2:¬ n > 9007199254740992:=by omega
 have hnb:(n==0)=false:=by simpa using hn0
 clear hn0;clear hn;have H5:=(show Hid _ from two_what w (YthaliljaglldjaaGreat.wr 15 h 0 0 n 0 tg bi 0 false) (YthaliljaglldjaaGreat.wr 15 h 0 0 0 0 tg bi 0 false))
 go_enter Tryz.func81,Tryz.ntmps81
 go_upto_block 0 with fail
 go_cut [7,8,9] (fun a7 a8 a9 wx=>a7=.bool false/\a8=.bool false/\a9=.bool false/\Hid (Bl w wx/\wx.heap[w.heap.size]? = some (.cells (YthaliljaglldjaaGreat.wr 15 h 0 0 n 0 tg bi 0 false) 46 (0,0))/\wx.heap[w.heap.size+1]? = some (.cells (YthaliljaglldjaaGreat.wr 15 h 0 0 0 0 tg bi 0 false) 46 (0,0))))
 case first =>
  go_upto_region 50 with fail
  go_region
  all_goals
   go_wp2_with fail
   go_meet
   case rel=>first | exact⟨rfl,rfl,rfl,H5.out _ (.inr rfl)⟩ | exact⟨rfl,rfl,rfl,H5.out _ (.inl rfl)⟩
 clear H5;obtain⟨rfl,rfl,rfl,H5⟩:=hcut;generalize wc=w5 at *;have aa:=cells16 H5.out.2.1;have bb:=cells16 H5.out.2.2
 go_wp2_with fail
 refine(may4_nil w5).mono ?_;rintro e w6 ⟨rfl,hb6⟩;have H6:=(show Hid (Bl w w6/\_/\_)from⟨H5.out.1.trans (hb6.mono H5.out.1.size),below_blk hb6 H5.out.2.1,below_blk hb6 H5.out.2.2⟩);clear hb6 H5;clear aa bb;have aa:=cells16 H6.out.2.1;have bb:=cells16 H6.out.2.2
 go_wp2_with fail
 refine(same4_nil w6).mono ?_;rintro e w7 ⟨rfl,hb7⟩;have H7:=(show Hid (Bl w w7/\_/\_)from⟨H6.out.1.trans (hb7.mono H6.out.1.size),below_blk hb7 H6.out.2.1,below_blk hb7 H6.out.2.2⟩);clear hb7 H6;clear aa bb;have aa:=cells16 H7.out.2.1;have bb:=cells16 H7.out.2.2
 go_wp2_with fail
 all_goals
  go_ret
  exact⟨rfl,H7.out.1⟩
end
section
theorem form7_15_out (w:World) (sides:Int) (h:Int) (hh:0≤h/\h<sides) (n:Int) (hn:n<0\/9007199254740992<n) (tg:Int) (bi:Int) :
 Calls Tryz.prog 81 #[.agg (YthaliljaglldjaaGreat.wr 15 h 0 0 n 0 tg bi 0 false),.int .i64 sides] w fun e w'=>e=.returned (.bool false)/\Bl w w':=by
 have hh1:¬ h<0:=by omega
 have hh2:¬ h ≥ sides:=by omega
 clear hh;have Hn:=(show Hid _ from hn);clear hn;have H5:=(show Hid _ from two_what w (YthaliljaglldjaaGreat.wr 15 h 0 0 n 0 tg bi 0 false) (YthaliljaglldjaaGreat.wr 15 h 0 0 0 0 tg bi 0 false))
 go_enter Tryz.func81,Tryz.ntmps81
 go_upto_block 0 with fail
 go_cut [7,8,9] (fun a7 a8 a9 wx=>a7=.bool false/\a8=.bool false/\a9=.bool false/\Hid (Bl w wx/\wx.heap[w.heap.size]? = some (.cells (YthaliljaglldjaaGreat.wr 15 h 0 0 n 0 tg bi 0 false) 46 (0,0))/\wx.heap[w.heap.size+1]? = some (.cells (YthaliljaglldjaaGreat.wr 15 h 0 0 0 0 tg bi 0 false) 46 (0,0))))
 case first =>
  go_upto_region 50 with fail
  go_region
  all_goals
   go_wp2_with fail
   go_meet
   case rel=>first | exact⟨rfl,rfl,rfl,H5.out _ (.inr rfl)⟩ | exact⟨rfl,rfl,rfl,H5.out _ (.inl rfl)⟩
 clear H5;obtain⟨rfl,rfl,rfl,H5⟩:=hcut;generalize wc=w5 at *;have aa:=cells16 H5.out.2.1;have bb:=cells16 H5.out.2.2
 rcases Hn.out with hn | hn
 ·go_wp2_with fail
  go_ret
  exact⟨rfl,H5.out.1⟩
 ·have hn1:¬ n<0:=by omega
  have hn2:n > 9007199254740992:=hn
  go_wp2_with fail
  go_ret
  exact⟨rfl,H5.out.1⟩
end
section
theorem form7_16_ne (w:World) (sides:Int) (h:Int) (hh:0≤h/\h<sides) (n:Int) (hn:0≤n/\n≤9007199254740992) (hn0:n≠0) (tg:Int) (bi:Int) :
 Calls Tryz.prog 81 #[.agg (YthaliljaglldjaaGreat.wr 16 h 0 0 n 0 tg bi 0 false),.int .i64 sides] w fun e w'=>e=.returned (.bool false)/\Bl w w':=by
 have hh1:¬ h<0:=by omega
 have hh2:¬ h ≥ sides:=by omega
 clear hh;have hn1:¬ n<0:=by omega
 have hn2:¬ n > 9007199254740992:=by omega
 have hnb:(n==0)=false:=by simpa using hn0
 clear hn0;clear hn;have H5:=(show Hid _ from two_what w (YthaliljaglldjaaGreat.wr 16 h 0 0 n 0 tg bi 0 false) (YthaliljaglldjaaGreat.wr 16 h 0 0 0 0 tg bi 0 false))
 go_enter Tryz.func81,Tryz.ntmps81
 go_upto_block 0 with fail
 go_cut [7,8,9] (fun a7 a8 a9 wx=>a7=.bool false/\a8=.bool false/\a9=.bool false/\Hid (Bl w wx/\wx.heap[w.heap.size]? = some (.cells (YthaliljaglldjaaGreat.wr 16 h 0 0 n 0 tg bi 0 false) 46 (0,0))/\wx.heap[w.heap.size+1]? = some (.cells (YthaliljaglldjaaGreat.wr 16 h 0 0 0 0 tg bi 0 false) 46 (0,0))))
 case first =>
  go_upto_region 50 with fail
  go_region
  all_goals
   go_wp2_with fail
   go_meet
   case rel=>first | exact⟨rfl,rfl,rfl,H5.out _ (.inr rfl)⟩ | exact⟨rfl,rfl,rfl,H5.out _ (.inl rfl)⟩
 clear H5;obtain⟨rfl,rfl,rfl,H5⟩:=hcut;generalize wc=w5 at *;have aa:=cells16 H5.out.2.1;have bb:=cells16 H5.out.2.2
 go_wp2_with fail
 refine(may4_nil w5).mono ?_;rintro e w6 ⟨rfl,hb6⟩;have H6:=(show Hid (Bl w w6/\_/\_)from⟨H5.out.1.trans (hb6.mono H5.out.1.size),below_blk hb6 H5.out.2.1,below_blk hb6 H5.out.2.2⟩);clear hb6 H5;clear aa bb;have aa:=cells16 H6.out.2.1;have bb:=cells16 H6.out.2.2
 go_wp2_with fail
 refine(same4_nil w6).mono ?_;rintro e w7 ⟨rfl,hb7⟩;have H7:=(show Hid (Bl w w7/\_/\_)from⟨H6.out.1.trans (hb7.mono H6.out.1.size),below_blk hb7 H6.out.2.1,below_blk hb7 H6.out.2.2⟩);clear hb7 H6;clear aa bb;have aa:=cells16 H7.out.2.1;have bb:=cells16 H7.out.2.2
 go_wp2_with fail
 all_goals
  go_ret
  exact⟨rfl,H7.out.1⟩
end
section
theorem form7_16_out (w:World) (sides:Int) (h:Int) (hh:0≤h/\h<sides) (n:Int) (hn:n<0\/9007199254740992<n) (tg:Int) (bi:Int) :
 Calls Tryz.prog 81 #[.agg (YthaliljaglldjaaGreat.wr 16 h 0 0 n 0 tg bi 0 false),.int .i64 sides] w fun e w'=>e=.returned (.bool false)/\Bl w w':=by
 have hh1:¬ h<0:=by omega
 have hh2:¬ h ≥ sides:=by omega
 clear hh;have Hn:=(show Hid _ from hn);clear hn;have H5:=(show Hid _ from two_what w (YthaliljaglldjaaGreat.wr 16 h 0 0 n 0 tg bi 0 false) (YthaliljaglldjaaGreat.wr 16 h 0 0 0 0 tg bi 0 false))
 go_enter Tryz.func81,Tryz.ntmps81
 go_upto_block 0 with fail
 go_cut [7,8,9] (fun a7 a8 a9 wx=>a7=.bool false/\a8=.bool false/\a9=.bool false/\Hid (Bl w wx/\wx.heap[w.heap.size]? = some (.cells (YthaliljaglldjaaGreat.wr 16 h 0 0 n 0 tg bi 0 false) 46 (0,0))/\wx.heap[w.heap.size+1]? = some (.cells (YthaliljaglldjaaGreat.wr 16 h 0 0 0 0 tg bi 0 false) 46 (0,0))))
 case first =>
  go_upto_region 50 with fail
  go_region
  all_goals
   go_wp2_with fail
   go_meet
   case rel=>first | exact⟨rfl,rfl,rfl,H5.out _ (.inr rfl)⟩ | exact⟨rfl,rfl,rfl,H5.out _ (.inl rfl)⟩
 clear H5;obtain⟨rfl,rfl,rfl,H5⟩:=hcut;generalize wc=w5 at *;have aa:=cells16 H5.out.2.1;have bb:=cells16 H5.out.2.2
 rcases Hn.out with hn | hn
 ·go_wp2_with fail
  go_ret
  exact⟨rfl,H5.out.1⟩
 ·have hn1:¬ n<0:=by omega
  have hn2:n > 9007199254740992:=hn
  go_wp2_with fail
  go_ret
  exact⟨rfl,H5.out.1⟩
end
section
variable {w:World} {p q:Nat} {M:WM} {F G:Nat->Prop}
theorem Tw1.laid (S:TS w p q M F G) (hl:M.last+2≤100000) {r k h n tg bi s n':Int} (hr:(Lit.int .i64 r).wf=true) (ht:M.at r=some (lt k h 0 0 n 0 tg bi s false))
 (h1:∀ w',IsW w' p M F->Calls Tryz.prog 74 #[.pointer (some ⟨p,0,none⟩),.agg (YthaliljaglldjaaGreat.wr k h 0 0 n' 0 tg bi s false)] w' fun e w''=>e=.returned (.bool true)/\Bl w' w'')
 (h2:∀ w',Calls Tryz.prog 81 #[.agg (thc (lt k h 0 0 n' 0 tg bi s false)),.int .i64 M.made.length] w' fun e w''=>e=.returned (.bool true)/\Bl w' w'')
 (hP:TThing M r (lt k h 0 0 n' 0 tg bi s false)) :
 Tw1 0 w p q M F G 107 #[.pointer (some ⟨p,0,none⟩),.int .i64 r,.agg (YthaliljaglldjaaGreat.wr k h 0 0 n' 0 tg bi s false)] 108 #[.pointer (some ⟨q,0,none⟩),.int .i64 r,.agg (thc (lt k h 0 0 n' 0 tg bi s false))]:=by
 refine(Lay_lt S.W hr ht plain0 h1).mono ?_;rintro e w5 ⟨rfl,hW,hk⟩;have hg:Grew F w F w5:=⟨hk,fun b h=>.inl h⟩;refine⟨rfl,hk.mono fun _ _ h=>.inl h,fun w5' hb'=>(rLayT (S.R5 (hg.on hb')) (S.tp.q (by omega)) ht fun w' _=>h2 w').mono ?_⟩;rintro e w6 ⟨rfl,G',hR,hg6⟩;exact⟨rfl,S.two (hW.below hb') (hg.on hb') hR hg6 (S.tp.setN ⟨ht,rfl,rfl,fun _=>rfl,(S.tp.ok.wf r _ ht).tgt,rfl,rfl⟩ (but_set ht rfl rfl rfl rfl rfl) hP) (by show M.last≤M.last+2;omega),hg6.1⟩
theorem Tw1.nolay (S:TS w p q M F G) (hl:M.last+2≤100000) {r k h n tg bi s n':Int} (hr:(Lit.int .i64 r).wf=true) (ht:M.at r=some (lt k h 0 0 n 0 tg bi s false))
 (h1:∀ w',IsW w' p M F->Calls Tryz.prog 74 #[.pointer (some ⟨p,0,none⟩),.agg (YthaliljaglldjaaGreat.wr k h 0 0 n' 0 tg bi s false)] w' fun e w''=>e=.returned (.bool false)/\Bl w' w'')
 (h2:∀ w',Calls Tryz.prog 81 #[.agg (thc (lt k h 0 0 n' 0 tg bi s false)),.int .i64 M.made.length] w' fun e w''=>e=.returned (.bool false)/\Bl w' w'') :
 Tw1 70 w p q M F G 107 #[.pointer (some ⟨p,0,none⟩),.int .i64 r,.agg (YthaliljaglldjaaGreat.wr k h 0 0 n' 0 tg bi s false)] 108 #[.pointer (some ⟨q,0,none⟩),.int .i64 r,.agg (thc (lt k h 0 0 n' 0 tg bi s false))] :=
 Tw1.below S (Lay_no S.W hr ht h1) fun _ hb=>lay7_no (S.R.below hb) (S.tp.q (by omega)).good.ok ht fun w2 _=>h2 w2
def layT (k n:Int):Int:=if k=3\/k=8 then (if n<0\/9007199254740992<n then 70 else 0)else if n=0 then 0 else 70
theorem layT_0 {k:Int} (h:k≠3/\k≠8):layT k 0=0:=by unfold layT;rw [if_neg (by omega),if_pos rfl]
theorem layT_ne {k n:Int} (h:k≠3/\k≠8) (hn:n≠0):layT k n=70:=by unfold layT;rw [if_neg (by omega),if_neg hn]
theorem layT_out {k n:Int} (h:k=3\/k=8) (hn:n<0\/9007199254740992<n):layT k n=70:=by unfold layT;rw [if_pos h,if_pos hn]
theorem layT_in {k n:Int} (h:k=3\/k=8) (hn:0≤n/\n≤9007199254740992):layT k n=0:=by unfold layT;rw [if_pos h,if_neg (by omega)]
theorem form7_13x (w:World) (sides h n tg:Int) (hh:0≤h/\h<sides) (hn0:n≠0):Calls Tryz.prog 81 #[.agg (YthaliljaglldjaaGreat.wr 13 h 0 0 n 0 tg 0 0 false),.int .i64 sides] w fun e w'=>e=.returned (.bool false)/\Bl w w':=by
 by_cases hn:0≤n/\n≤9007199254740992
 ·exact form7_13_ne w sides h hh n hn hn0 tg false
 ·exact form7_13_out w sides h hh n (by omega) tg false
theorem form7_14x (w:World) (sides n tg s:Int) (hn0:n≠0):Calls Tryz.prog 81 #[.agg (YthaliljaglldjaaGreat.wr 14 0 0 0 n 0 tg 0 s false),.int .i64 sides] w fun e w'=>e=.returned (.bool false)/\Bl w w':=by
 by_cases hn:0≤n/\n≤9007199254740992
 ·exact form7_14_ne w sides n hn hn0 tg s
 ·exact form7_14_out w sides n (by omega) tg s
theorem form7_15x (w:World) (sides h n tg bi:Int) (hh:0≤h/\h<sides) (hn0:n≠0):Calls Tryz.prog 81 #[.agg (YthaliljaglldjaaGreat.wr 15 h 0 0 n 0 tg bi 0 false),.int .i64 sides] w fun e w'=>e=.returned (.bool false)/\Bl w w':=by
 by_cases hn:0≤n/\n≤9007199254740992
 ·exact form7_15_ne w sides h hh n hn hn0 tg bi
 ·exact form7_15_out w sides h hh n (by omega) tg bi
theorem form7_16x (w:World) (sides h n tg bi:Int) (hh:0≤h/\h<sides) (hn0:n≠0):Calls Tryz.prog 81 #[.agg (YthaliljaglldjaaGreat.wr 16 h 0 0 n 0 tg bi 0 false),.int .i64 sides] w fun e w'=>e=.returned (.bool false)/\Bl w w':=by
 by_cases hn:0≤n/\n≤9007199254740992
 ·exact form7_16_ne w sides h hh n hn hn0 tg bi
 ·exact form7_16_out w sides h hh n (by omega) tg bi
theorem layT2 (S:TS w p q M F G) (hl:M.last+2≤100000) {r k h n tg bi s:Int} (n':Int) (hr:(Lit.int .i64 r).wf=true) (ht:M.at r=some (lt k h 0 0 n 0 tg bi s false)) :
 Tw1 (layT k n') w p q M F G 107 #[.pointer (some ⟨p,0,none⟩),.int .i64 r,.agg (YthaliljaglldjaaGreat.wr k h 0 0 n' 0 tg bi s false)] 108 #[.pointer (some ⟨q,0,none⟩),.int .i64 r,.agg (thc (lt k h 0 0 n' 0 tg bi s false))]:=by
 have hP:=S.tp.at ht;have hhs:k≠14->0≤h/\h<M.made.length:=fun e=>S.tp.ok.homes r _ ht e
 rcases hP with ⟨k',h',e,hk⟩ | ⟨h',n1,e,hn⟩ | ⟨h',n1,e,hn⟩ | ⟨h',g,e,hg⟩ | ⟨x,d,e,hx⟩ | ⟨h',x,m,e,hx⟩ | ⟨h',x,m,e,hx⟩ <;> cases e
 ·have hh:=hhs (by omega);have hs:=sideB_iff.2 hh
  by_cases hn0:n'=0
  ·subst hn0;rw [layT_0 (by omega)];exact Tw1.laid S hl hr ht (fun w' hW=>form_zero hW k h hs (by omega)) (fun w'=>form7_zero w' M.made.length k h hh (by omega)) (.inl ⟨k,h,rfl,hk⟩)
  ·rw [layT_ne (by omega) hn0];exact Tw1.nolay S hl hr ht (fun w' hW=>form_ne k h n' hn0 (by omega)) (fun w'=>form7_ne w' M.made.length k h n' hh hn0 (by omega))
 ·have hh:=hhs (by decide);have hs:=sideB_iff.2 hh
  by_cases hn1:n'<0\/9007199254740992<n'
  ·rw [layT_out (.inl rfl) hn1];exact Tw1.nolay S hl hr ht (fun w' hW=>formno_3 hW h n' hs hn1) (fun w'=>form7_3_out w' M.made.length h hh n' hn1)
  ·rw [layT_in (.inl rfl) (by omega)];exact Tw1.laid S hl hr ht (fun w' hW=>form_3 hW h n' hs (by omega)) (fun w'=>form7_3 w' M.made.length h hh n' (by omega)) (.inr (.inl ⟨h,n',rfl,by omega,by omega⟩))
 ·have hh:=hhs (by decide);have hs:=sideB_iff.2 hh
  by_cases hn1:n'<0\/9007199254740992<n'
  ·rw [layT_out (.inr rfl) hn1];refine Tw1.nolay S hl hr ht (fun w' hW=>formno_8 hW h n' 0 hs (by omega) (by omega)) (fun w'=>?_)
   by_cases hn2:n'<0
   ·exact form7_8_lost w' M.made.length h hh n' 0 (by omega)
   ·exact form7_8_out w' M.made.length h hh n' hn1 0 (by omega)
  ·rw [layT_in (.inr rfl) (by omega)];exact Tw1.laid S hl hr ht (fun w' hW=>form_8 hW h n' 0 hs (by omega) (by omega)) (fun w'=>form7_8 w' M.made.length h hh n' (by omega) 0 (by omega)) (.inr (.inr (.inl ⟨h,n',rfl,by omega,by omega⟩)))
 ·have hh:=hhs (by decide);have hs:=sideB_iff.2 hh
  by_cases hn0:n'=0
  ·subst hn0;rw [layT_0 (by decide)];exact Tw1.laid S hl hr ht (fun w' hW=>form_13 hW h tg false hs) (fun w'=>form7_13 w' M.made.length h hh tg false) (S.tp.at ht)
  ·rw [layT_ne (by decide) hn0];exact Tw1.nolay S hl hr ht (fun w' hW=>formno_13ne h n' tg false hn0) (fun w'=>form7_13x w' M.made.length h n' tg hh hn0)
 ·by_cases hn0:n'=0
  ·subst hn0;rw [layT_0 (by decide)];exact Tw1.laid S hl hr ht (fun w' hW=>form_14 tg) (fun w'=>form7_14 w' M.made.length tg 1) (S.tp.at ht)
  ·rw [layT_ne (by decide) hn0];exact Tw1.nolay S hl hr ht (fun w' hW=>formno_14ne n' tg 1 hn0) (fun w'=>form7_14x w' M.made.length n' tg 1 hn0)
 ·have hh:=hhs (by decide);have hs:=sideB_iff.2 hh
  by_cases hn0:n'=0
  ·subst hn0;rw [layT_0 (by decide)];exact Tw1.laid S hl hr ht (fun w' hW=>form_15 hW h tg bi hs) (fun w'=>form7_15 w' M.made.length h hh tg bi) (S.tp.at ht)
  ·rw [layT_ne (by decide) hn0];exact Tw1.nolay S hl hr ht (fun w' hW=>formno_15ne h n' tg bi hn0) (fun w'=>form7_15x w' M.made.length h n' tg bi hh hn0)
 ·have hh:=hhs (by decide);have hs:=sideB_iff.2 hh
  by_cases hn0:n'=0
  ·subst hn0;rw [layT_0 (by decide)];exact Tw1.laid S hl hr ht (fun w' hW=>form_16 hW h tg bi hs) (fun w'=>form7_16 w' M.made.length h hh tg bi) (S.tp.at ht)
  ·rw [layT_ne (by decide) hn0];exact Tw1.nolay S hl hr ht (fun w' hW=>formno_16ne h n' tg bi hn0) (fun w'=>form7_16x w' M.made.length h n' tg bi hh hn0)
end
section
variable {w wr:World} {p:Nat} {M N:WM} {F:Nat->Prop} {pa:Option Addr} {pc cg cc mg mc tb fb fn:Nat} {bl:Int->Nat}
theorem delL_set_find {r:Int} {u t:Th} (hM:M.ok) (h:SetOk M r u t) (l:List Int) (a b:Int):((M.set r t).delL l).find a b=(M.delL l).find a b:=by
 unfold WM.find
 have e:((M.set r t).delL l).things=((M.delL l).things).map fun x=>if x.1=r then (x.1,t)else x:=by
  show (M.things.map _).filter _=(M.things.filter _).map _;rw [List.filter_map]
  congr 1
  refine List.filter_congr fun x _=>?_;simp only [Function.comp];split <;> rfl
 rw [e];refine find_map_set r t _ _ fun x hx hr=>?_;have hu:M.at x.1=some x.2:=hM.at_of_mem (List.mem_filter.1 hx).1;rw [hr,h.was]at hu
 cases hu
 show (t.kind==14 && t.tgt==a && t.set==b)=(x.2.kind==14 && x.2.tgt==a && x.2.set==b);rw [h.kind,h.set]
 by_cases h14:x.2.kind=14
 ·rw [h.tgt (by rw [h.kind,h14];decide)]
 ·rw [show (x.2.kind==14)=false by simpa using h14];rfl
theorem delL_find_other {r:Int} {u:Th} (hM:M.ok) (hu:M.at r=some u) (ds:List Int) {a b:Int} (hne:¬ (u.kind=14/\u.tgt=a/\u.set=b)):(M.delL (ds ++ [r])).find a b=(M.delL ds).find a b:=by
 rw [WM.delL_snoc];unfold WM.find;show (((M.delL ds).things.filter fun x=>decide (x.1≠r)).find? _).map _=_
 have:=find_filter_key (fun q=>decide (q≠r)) (fun x=>x.2.kind==14 && x.2.tgt==a && x.2.set==b) (M.delL ds).things (fun x hx hr=>by
  have hxr:x.1=r:=by simpa using hr
  have h1:=hM.at_of_mem (List.mem_filter.1 hx).1;rw [hxr,hu]at h1
  cases h1
  refine Bool.eq_false_iff.2 fun e=>hne ?_;obtain⟨e1,e3⟩:=(Bool.and_eq_true_iff).1 e;obtain⟨e1,e2⟩:=(Bool.and_eq_true_iff).1 e1
  exact⟨by simpa using e1,by simpa using e2,by simpa using e3⟩)
 rw [this]
theorem delL_find_self {r:Int} {u:Th} (hM:M.ok) (hu:M.at r=some u) (ds:List Int) (hk:u.kind=14):(M.delL (ds ++ [r])).find u.tgt u.set=none:=by
 unfold WM.find
 have:(M.delL (ds ++ [r])).things.find? (fun x=>x.2.kind==14 && x.2.tgt==u.tgt && x.2.set==u.set)=none:=List.find?_eq_none.2 fun x hx e=>by
  obtain⟨h1,h2⟩:=List.mem_filter.1 hx;have hx1:=hM.at_of_mem h1;obtain⟨e1,e3⟩:=(Bool.and_eq_true_iff).1 e;obtain⟨e1,e2⟩:=(Bool.and_eq_true_iff).1 e1;have:=hM.facet x.1 x.2 r u hx1 hu (by simpa using e1) hk (by simpa using e2) (by simpa using e3);rw [this]at h2;simp at h2
 rw [this];rfl
theorem faf_out {r:Int} {u:Th} (hM:M.ok) (hu:M.at r=some u) (ds:List Int) (hk:u.kind=14):faf (M.delL (ds ++ [r])) (.agg #[.int .i64 u.tgt,.int .u8 u.set])=none/\∀ key,key≠.agg #[.int .i64 u.tgt,.int .u8 u.set]->faf (M.delL (ds ++ [r])) key=faf (M.delL ds) key:=by
 refine⟨?_,fun key hne=>?_⟩
 ·show ((M.delL (ds ++ [r])).find u.tgt u.set).map _=none;rw [delL_find_self hM hu ds hk];rfl
 ·unfold faf;split
  ·rename_i cs
   split
   ·rename_i t s hcs
    rw [delL_find_other hM hu ds];rintro ⟨-,rfl,rfl⟩;refine hne ?_;have:cs=#[.int .i64 u.tgt,.int .u8 u.set]:=by rw [<- Array.toArray_toList (xs:=cs),hcs]
    rw [this]
   ·rfl
  ·rfl
theorem faf_stay {r:Int} {u:Th} (hM:M.ok) (hu:M.at r=some u) (ds:List Int) (hk:u.kind≠14) (key:Value):faf (M.delL (ds ++ [r])) key=faf (M.delL ds) key:=by
 unfold faf;split
 ·split
  ·rw [delL_find_other hM hu ds fun e=>hk e.1]
  ·rfl
 ·rfl
theorem faf_delset {r:Int} {u t:Th} (hM:M.ok) (h:SetOk M r u t) (l:List Int) (key:Value):faf ((M.set r t).delL l) key=faf (M.delL l) key:=by
 unfold faf;split
 ·split
  ·rw [delL_set_find hM h]
  ·rfl
 ·rfl
structure WVo (wr:World) (p:Nat) (N:WM) (F:Nat->Prop) (pa:Option Addr) (pc cg cc mg mc tb fb fn:Nat) (bl:Int->Nat) (ds:List Int):Prop where
 wo:∃ w0,WV w0 p N F pa pc cg cc mg mc tb fb fn bl/\w0.heap.size≤wr.heap.size/\∀ b,F b->b≠fb->wr.heap[b]? = w0.heap[b]?
 fac:∃ n,n≤fn/\HasMap Tryz.prog 211 wr fb (faf (N.delL ds)) n
section
variable {ds:List Int}
theorem WV.start (h:WV wr p N F pa pc cg cc mg mc tb fb fn bl):WVo wr p N F pa pc cg cc mg mc tb fb fn bl [] :=
 ⟨⟨wr,h,Nat.le_refl _,fun _ _ _=>rfl⟩,fn,Nat.le_refl _,by rw [WM.delL_nil];exact h.facets⟩
theorem WVo.lt (h:WVo wr p N F pa pc cg cc mg mc tb fb fn bl ds):∀ b,F b->b<wr.heap.size:=fun b hb=>by
 obtain⟨⟨w0,h1,h2,-⟩,-⟩:=h;exact Nat.lt_of_lt_of_le (h1.lt b hb) h2
theorem WVo.ok (h:WVo wr p N F pa pc cg cc mg mc tb fb fn bl ds):N.ok:=by
 obtain⟨⟨w0,h1,-⟩,-⟩:=h;exact h1.ok
theorem WVo.own (h:WVo wr p N F pa pc cg cc mg mc tb fb fn bl ds):F p/\F cg/\F mg/\F tb/\F fb:=by
 obtain⟨⟨w0,h1,-⟩,-⟩:=h;exact h1.own
theorem WVo.of_blocks {w':World} (h:WVo wr p N F pa pc cg cc mg mc tb fb fn bl ds) (hsz:wr.heap.size≤w'.heap.size) (hb:∀ b,F b->w'.heap[b]? = wr.heap[b]?):WVo w' p N F pa pc cg cc mg mc tb fb fn bl ds:=by
 have hf:=h.own.2.2.2.2;obtain⟨⟨w0,h1,h2,h3⟩,n,h4,h5⟩:=h;exact⟨⟨w0,h1,Nat.le_trans h2 hsz,fun b hF hne=>(hb b hF).trans (h3 b hF hne)⟩,n,h4,h5.of_block (hb _ hf)⟩
theorem WVo.below {w':World} (h:WVo wr p N F pa pc cg cc mg mc tb fb fn bl ds) (hb:Bl wr w'):WVo w' p N F pa pc cg cc mg mc tb fb fn bl ds :=
 h.of_blocks hb.size fun b hF=>hb.block b (h.lt b hF)
theorem WVo.keeps {w':World} {S:Nat->Prop} (h:WVo wr p N F pa pc cg cc mg mc tb fb fn bl ds) (k:Keeps S wr w') (hS:∀ b,F b->¬ S b):WVo w' p N F pa pc cg cc mg mc tb fb fn bl ds :=
 h.of_blocks k.size fun b hF=>k.block b (h.lt b hF) (hS b hF)
theorem WVo.drew (h:WVo wr p N F pa pc cg cc mg mc tb fb fn bl ds):WVo wr.drew p N F pa pc cg cc mg mc tb fb fn bl ds:=h.of_blocks (Nat.le_refl _) fun _ _=>rfl
theorem WVo.hp (h:WVo wr p N F pa pc cg cc mg mc tb fb fn bl ds):wr.heap[p]? = some (.cells #[.slice pa N.parents.length pc,.slice (some ⟨cg,0,none⟩) N.cuts.length cc,.map (some tb),.map (some fb),.int .i64 N.last,.slice (some ⟨mg,0,none⟩) N.made.length mc] 140 (0,0)):=by
 obtain⟨⟨w0,h1,h2,h3⟩,-⟩:=h;obtain⟨fes,fcl,hf⟩:=h1.facets.is;exact(h3 p h1.own.1 (h1.ne_of_obj h1.hp hf (by simp))).trans h1.hp
theorem WVo.things (h:WVo wr p N F pa pc cg cc mg mc tb fb fn bl ds):HasMap Tryz.prog 25 wr tb (thf N bl) N.things.length:=by
 obtain⟨⟨w0,h1,h2,h3⟩,-⟩:=h;exact h1.things.of_block (h3 tb h1.own.2.2.2.1 h1.tf)
theorem WVo.blk (h:WVo wr p N F pa pc cg cc mg mc tb fb fn bl ds) (r:Int) (t:Th) (ht:N.at r=some t):wr.heap[bl r]? = some (.cells (thc t) 46 (0,0))/\F (bl r):=by
 obtain⟨⟨w0,h1,h2,h3⟩,-⟩:=h;obtain⟨fes,fcl,hf⟩:=h1.facets.is;obtain⟨h4,h5,-⟩:=h1.blk r t ht;exact⟨(h3 _ h5 (h1.ne_of_obj h4 hf (by simp))).trans h4,h5⟩
theorem WVo.c2 (h:WVo wr p N F pa pc cg cc mg mc tb fb fn bl ds):wr.cell? ⟨p,2,none⟩=some (.map (some tb)):=by rw [cell_blk h.hp];rfl
theorem WVo.c3 (h:WVo wr p N F pa pc cg cc mg mc tb fb fn bl ds):wr.cell? ⟨p,3,none⟩=some (.map (some fb)):=by rw [cell_blk h.hp];rfl
theorem WVo.look (h:WVo wr p N F pa pc cg cc mg mc tb fb fn bl ds) {r:Int} (hr:(Lit.int .i64 r).wf=true) :
 (Instr.lookup 137 (.map (some tb)) (.int .i64 r) false).run Tryz.prog wr=.ok (.pointer ((N.at r).map fun _=>⟨bl r,0,none⟩)) wr:=by
 have:=h.things.look keyedRef Tryz.underlying137 (zeroPWhat wr) (key_ref hr);rw [this]
 cases ha:N.at r <;> simp [thf,ha]
theorem WVo.look_drewN (h:WVo wr p N F pa pc cg cc mg mc tb fb fn bl ds) {r:Int} (hr:(Lit.int .i64 r).wf=true) {t:Th} (ht:N.at r=some t) (m:Nat) :
 (Instr.lookup 137 (.map (some tb)) (.int .i64 r) false).run Tryz.prog (wr.drewN m)=.ok (.pointer (some ⟨bl r,0,none⟩)) (wr.drewN m):=by
 have:=(h.below (w':=wr.drewN m) ⟨rfl,rfl,rfl,Nat.le_refl _,fun _ _=>rfl⟩).look hr;rw [ht]at this;exact this
theorem WVo.cellSet (h:WVo wr p N F pa pc cg cc mg mc tb fb fn bl ds) {r:Int} {u t:Th} (hs:SetOk N r u t) {i:Nat} {v:Value} (ht:(thc u).setIfInBounds i v=thc t)
 (hl:t.v=u.v/\t.vl=u.vl/\t.vs=u.vs/\t.vals=u.vals/\t.code=u.code/\t.names=u.names):WVo (wr.setCell ⟨bl r,i,none⟩ v) p (N.set r t) F pa pc cg cc mg mc tb fb fn bl ds:=by
 have hB:=(h.blk r u hs.was).1;obtain⟨⟨w0,h1,h2,h3⟩,n,h4,h5⟩:=h;obtain⟨fes,fcl,hf⟩:=h5.is;have hB0:=(h1.blk r u hs.was).1;refine⟨⟨w0.setCell ⟨bl r,i,none⟩ v,h1.cellSet hs ht hl,by simpa [World.setCell]using h2,fun b hF hne=>?_⟩,n,h4,?_⟩
 ·by_cases e:b=bl r
  ·subst e;rw [blk_setCell hB i v,blk_setCell hB0 i v]
  ·rw [Below.heap_setCell wr ⟨bl r,i,none⟩ v b e,Below.heap_setCell w0 ⟨bl r,i,none⟩ v b e];exact h3 b hF hne
 ·have hne:fb≠bl r:=fun e=>by
   rw [e,hB]at hf
   cases hf
  exact(h5.of_block (Below.heap_setCell wr ⟨bl r,i,none⟩ v fb hne)).congr fun key _ _=>faf_delset h1.ok hs ds key
theorem WVo.out (h:WVo wr p N F pa pc cg cc mg mc tb fb fn bl ds) {r:Int} {u:Th} (hu:N.at r=some u) (hk:u.kind=14) (ty:TypeId) :
 ∃ w',(Builtin.delete_ #[138,211] ty #[.map (some fb),.agg #[.int .i64 u.tgt,.int .u8 u.set]]).run Tryz.prog wr=.ok (.tuple #[]) w'/\WVo w' p N F pa pc cg cc mg mc tb fb fn bl (ds ++ [r])/\Keeps (fun b=>b=fb) wr w':=by
 have hok:=h.ok;have hwf:=hok.wf r u hu;obtain⟨⟨w0,h1,h2,h3⟩,n,h4,h5⟩:=h;obtain⟨kl,hkl⟩:=key_f hwf.tgt (show (Lit.int .u8 u.set).wf=true by have:=hwf.set;simp [Lit.wf,IntKind.min,IntKind.max,IntKind.signed,IntKind.bits];omega);obtain⟨w',hrun,hm,ht⟩:=h5.drop keyedFKey Tryz.underlying138 hkl ty (faf_out hok hu ds hk).1 (faf_out hok hu ds hk).2;have hT:=Turned.of ht;refine⟨w',hrun,⟨⟨w0,h1,by have:=hT.1;omega,fun b hF hne=>(hT.block hne).trans (h3 b hF hne)⟩,_,?_,hm⟩,hT.2⟩;split <;> omega
theorem WVo.skip (h:WVo wr p N F pa pc cg cc mg mc tb fb fn bl ds) {r:Int} {u:Th} (hu:N.at r=some u) (hk:u.kind≠14):WVo wr p N F pa pc cg cc mg mc tb fb fn bl (ds ++ [r]):=by
 have hok:=h.ok;obtain⟨h1,n,h4,h5⟩:=h;exact⟨h1,n,h4,h5.congr fun key _ _=>faf_stay hok hu ds hk key⟩
end
theorem WVo.gone {ds l:List Int} (h:WVo wr p N F pa pc cg cc mg mc tb fb fn bl ds) (hds:∀ x,x ∈ ds ↔ x ∈ l) (hl:¬ Lean' N l) {w':World} (hsz:wr.heap.size≤w'.heap.size)
 (hoth:∀ b,F b->b≠tb->w'.heap[b]? = wr.heap[b]?) (htb:HasMap Tryz.prog 25 w' tb (thf (N.delL l) bl) (N.delL l).things.length):IsW w' p (N.delL l) F:=by
 obtain⟨⟨w0,h,hsz0,hoth0⟩,n,hn,hfb⟩:=h;rw [N.delL_congr hds]at hfb;obtain⟨mcur,hm⟩:=h.mad.is;obtain⟨ccur,hc⟩:=h.cut.is;obtain⟨tes,tcl,ht⟩:=h.things.is;obtain⟨fes,fcl,hf⟩:=h.facets.is;have key:∀ b,F b->b≠tb->b≠fb->w'.heap[b]? = w0.heap[b]?:=fun b hF h1 h2=>(hoth b hF h1).trans (hoth0 b hF h2);have keyc:∀ b o,F b->w0.heap[b]? = some o->(∀ es cl,o≠Obj.map es cl)->w'.heap[b]? = w0.heap[b]?:=fun b o hF hb ho=>key b hF (h.ne_of_obj hb ht (ho _ _)) (h.ne_of_obj hb hf (ho _ _));refine⟨pa,pc,cg,cc,mg,mc,tb,fb,n,bl,?_⟩
 exact {
  hp:=(keyc p _ h.own.1 h.hp (by simp)).trans h.hp
  pars:=fun j x hx=>by
   obtain⟨b,o,h1,h2,⟨cs,fr,h3⟩,h4⟩:=h.pars j x hx;have k:=keyc b _ h2 h3 (by simp);exact⟨b,o,h1,h2,⟨cs,fr,k.trans h3⟩,(World.cell?_of_block (a:=⟨b,o+j,none⟩) k).trans h4⟩
  cut:=h.cut.of_block (keyc cg _ h.own.2.1 hc (by simp))
  mad:=h.mad.of_block (keyc mg _ h.own.2.2.1 hm (by simp))
  things:=htb
  facets:=hfb.of_block (hoth fb h.own.2.2.2.2 (Ne.symm h.tf))
  fnle:=by have:=h.fnle;show (n:Int)≤N.last;omega
  blk:=fun q v hv=>by
   obtain⟨h1,h2,h3⟩:=h.blk q v (WM.delL_at_some hv).2;exact⟨(keyc _ _ h2 h1 (by simp)).trans h1,h2,h3.of_blocks (fun b cs e fr hFb hb he=>keyc b _ hFb hb (by simp)) fun _ h=>h⟩
  inj:=fun q q' v v' hv hv' e=>h.inj q q' v v' (WM.delL_at_some hv).2 (WM.delL_at_some hv').2 e
  own:=h.own
  tf:=h.tf
  lt:=fun b hb=>by have:=h.lt b hb;omega
  ok:=WM.delL_ok h.ok hl }
structure DA4 (w:World) (p:Nat) (M:WM) (F:Nat->Prop) (pa:Option Addr) (pc cg cc mg mc tb fb fn:Nat) (bl:Int->Nat) (l:List Int) (r:Nat) (L:Int->Bool) (cnt:Nat) (ds:List Int) (wr:World):Prop where
 rg:Rg wr w.heap.size r (gof l) L cnt
 k:Keeps F w wr
 cell:wr.heap[w.heap.size+1]? = some (.cells #[.map (some w.heap.size)] 256 (0,0))
 map:∃ n,HasMap Tryz.prog 25 wr w.heap.size (gof l) n
 wv:WVo wr p (ds.foldl (WM.gone1 l) M) F pa pc cg cc mg mc tb fb fn bl ds
 flt:∀ b,F b->b<w.heap.size
 rlt:w.heap.size+1<r
section
variable {l:List Int} {r:Nat} {L:Int->Bool} {cnt:Nat} {ds:List Int}
theorem DA4.look (h:DA4 w p M F pa pc cg cc mg mc tb fb fn bl l r L cnt ds wr) {x:Int} (hx:(Lit.int .i64 x).wf=true):(Instr.lookup 256 (.map (some w.heap.size)) (.int .i64 x) false).run Tryz.prog wr=.ok (.int .i64 (if x ∈ l then 1 else 0)) wr:=by
 obtain⟨n,h2⟩:=h.map;rw [h2.look keyedRef Tryz.underlying256 (zeroInt wr) (key_ref hx)];simp only [gof];split <;> rfl
theorem DA4.turned (h:DA4 w p M F pa pc cg cc mg mc tb fb fn bl l r L cnt ds wr) {w':World} (hk:Keeps F wr w') {ds':List Int} (hwv:WVo w' p (ds'.foldl (WM.gone1 l) M) F pa pc cg cc mg mc tb fb fn bl ds'):DA4 w p M F pa pc cg cc mg mc tb fb fn bl l r L cnt ds' w' where
 rg:=h.rg.of_blocks (hk.block _ h.rg.ltb (fun e=>by have:=h.flt _ e;omega)) (hk.block _ h.rg.lt (fun e=>by have:=h.flt _ e;have:=h.rlt;omega))
 k:=h.k.trans hk (fun _ _ h=>h) (fun _ _ h=>h)
 cell:=(hk.block _ (blk_lt h.cell) (fun e=>by have:=h.flt _ e;omega)).trans h.cell
 map:=by
  obtain⟨n,h2⟩:=h.map;exact⟨n,h2.of_block (hk.block _ h2.lt (fun e=>by have:=h.flt _ e;omega))⟩
 wv:=hwv
 flt:=h.flt
 rlt:=h.rlt
theorem DA4.next (h:DA4 w p M F pa pc cg cc mg mc tb fb fn bl l r L cnt ds wr) {w':World} {L':Int->Bool} {cnt':Nat} (hrg:Rg w' w.heap.size r (gof l) L' cnt') (hk:Keeps (fun y=>y=r) wr w') :
 DA4 w p M F pa pc cg cc mg mc tb fb fn bl l r L' cnt' ds w' where
 rg:=hrg
 k:=⟨hk.os.trans h.k.os,hk.tape.trans h.k.tape,hk.output.trans h.k.output,Nat.le_trans h.k.size hk.size,fun b hb hF=>(hk.block b (Nat.lt_of_lt_of_le hb h.k.size) (by have:=h.rlt;omega)).trans (h.k.block b hb hF)⟩
 cell:=(hk.block _ (blk_lt h.cell) (by have:=h.rlt;omega)).trans h.cell
 map:=by
  obtain⟨n,h2⟩:=h.map;exact⟨n,h2.of_block (hk.block _ h2.lt (by have:=h.rlt;omega))⟩
 wv:=h.wv.keeps hk (fun b hb e=>by have:=h.flt b hb;have:=h.rlt;omega)
 flt:=h.flt
 rlt:=h.rlt
theorem DA4.below (h:DA4 w p M F pa pc cg cc mg mc tb fb fn bl l r L cnt ds wr) {w':World} (hb:Bl wr w'):DA4 w p M F pa pc cg cc mg mc tb fb fn bl l r L cnt ds w' where
 rg:=h.rg.below hb
 k:=h.k.then_below hb
 cell:=below_blk hb h.cell
 map:=by
  obtain⟨n,h2⟩:=h.map;exact⟨n,h2.of_block (hb.block _ h2.lt)⟩
 wv:=h.wv.below hb
 flt:=h.flt
 rlt:=h.rlt
end
structure FI (M:WM) (l:List Int) (L:Int->Bool) (fs:List Int):Prop where
 nd:fs.Nodup
 mem:∀ x ∈ fs,L x=false/\∃ t,M.at x=some t/\t.kind=14/\t.tgt ∈ l
 all:∀ x t,M.at x=some t->L x=false->t.kind=14->(t.tgt ∈ l->x ∈ fs)/\¬ (x ∈ l/\t.tgt ∉ l)
section
variable {l fs:List Int} {L:Int->Bool}
theorem FI.start (hM:M.ok) (hL:∀ x,(Lit.int .i64 x).wf=true->L x=(thf M bl (.int .i64 x)).isSome):FI M l L [] where
 nd:=List.nodup_nil
 mem:=fun x hx=>by cases hx
 all:=fun x t ht hx=>by
  rw [hL x (hM.at_wf ht),thf,ht]at hx
  cases hx
theorem FI.len (h:FI M l L fs):fs.length≤((M.things.filter (facOf l)).map (·.1)).length:=len_sub fs _ h.nd fun x hx=>by
 obtain⟨-,t,h1,h2,h3⟩:=h.mem x hx;exact List.mem_map.2 ⟨(x,t),List.mem_filter.2 ⟨at_mem h1,by simp [facOf,h2,h3]⟩,rfl⟩
theorem FI.pass (h:FI M l L fs) {x:Int} {t:Th} (ht:M.at x=some t) (hk:t.kind=14->t.tgt ∉ l/\x ∉ l):FI M l (fun z=>L z && !decide (z=x)) fs where
 nd:=h.nd
 mem:=fun y hy=>⟨by rw [(h.mem y hy).1];rfl,(h.mem y hy).2⟩
 all:=fun y u hu hLy h14=>by
  by_cases e:y=x
  ·subst e;rw [ht]at hu
   cases hu
   exact⟨fun e=>absurd e (hk h14).1,fun e=>(hk h14).2 e.1⟩
  ·exact h.all y u hu (by simpa [e]using hLy) h14
theorem FI.add (h:FI M l L fs) {x:Int} {t:Th} (ht:M.at x=some t) (hL:L x=true) (hk:t.kind=14) (htl:t.tgt ∈ l):FI M l (fun z=>L z && !decide (z=x)) (fs ++ [x]) where
 nd:=by
  rw [List.nodup_append];refine⟨h.nd,by simp,fun a ha b hb=>?_⟩;simp at hb;subst hb;intro e;subst e;rw [(h.mem a ha).1]at hL
  cases hL
 mem:=fun y hy=>by
  rcases List.mem_append.1 hy with hy | hy
  ·exact⟨by rw [(h.mem y hy).1];rfl,(h.mem y hy).2⟩
  ·rw [List.mem_singleton.1 hy];exact⟨by simp,t,ht,hk,htl⟩
 all:=fun y u hu hLy h14=>by
  by_cases e:y=x
  ·subst e;rw [ht]at hu
   cases hu
   exact⟨fun _=>by simp,fun e=>e.2 htl⟩
  ·obtain⟨h1,h2⟩:=h.all y u hu (by simpa [e]using hLy) h14;exact⟨fun e=>List.mem_append_left _ (h1 e),h2⟩
theorem FI.done (h:FI M l L fs) (hM:M.ok) (hL:∀ x,(Lit.int .i64 x).wf=true->L x=false):(∀ x,x ∈ l ++ fs ↔ x ∈ goneQ M l)/\∀ x ∈ M.things,¬ heldX l x:=by
 refine⟨fun x=>?_,fun x hx hh=>?_⟩
 ·unfold goneQ;rw [List.mem_append,List.mem_append];refine or_congr_right ⟨fun hx=>?_,fun hx=>?_⟩
  ·obtain⟨-,t,h1,h2,h3⟩:=h.mem x hx;exact List.mem_map.2 ⟨(x,t),List.mem_filter.2 ⟨at_mem h1,by simp [facOf,h2,h3]⟩,rfl⟩
  ·obtain⟨y,hy,rfl⟩:=List.mem_map.1 hx;obtain⟨h1,h2⟩:=List.mem_filter.1 hy;obtain⟨h3,h4⟩:=(Bool.and_eq_true_iff).1 h2;have ha:=hM.at_of_mem h1;exact(h.all y.1 y.2 ha (hL _ (hM.at_wf ha)) (by simpa using h3)).1 (List.contains_iff_mem.1 h4)
 ·obtain⟨h1,h2,h3⟩:=hh;have ha:=hM.at_of_mem hx;refine(h.all x.1 x.2 ha (hL _ (hM.at_wf ha)) h1).2 ⟨List.contains_iff_mem.1 h3,fun e=>?_⟩;rw [List.contains_iff_mem.2 e]at h2
  cases h2
end
theorem gof_congr {l l':List Int} (h:∀ x,x ∈ l ↔ x ∈ l') (key:Value):gof l' key=gof l key:=by
 unfold gof;split
 ·simp only [h]
 ·rfl
theorem GI.swap {w wr:World} {gs gs':List Int} (h:GI w wr gs) (hm:∀ x,x ∈ gs ↔ x ∈ gs') (hl:gs.length≤gs'.length):GI w wr gs' where
 b:=h.b
 cell:=h.cell
 map:=by
  obtain⟨n,h1,h2⟩:=h.map;exact⟨n,Nat.le_trans h1 hl,h2.congr fun key _ _=>gof_congr hm key⟩
theorem GI.put2 {w wr:World} {gs:List Int} (h:GI w wr gs) (hl:gs.length<1099511627776) {r:Int} (hr:(Lit.int .i64 r).wf=true) :
 ∃ w',(Instr.mapUpdate 256 (.map (some w.heap.size)) (.int .i64 r) (.int .i64 1)).run Tryz.prog wr=.ok () w'/\GI w w' (gs ++ [r])/\Keeps (fun b=>b=w.heap.size) wr w':=by
 obtain⟨n,h1,h2⟩:=h.map;obtain⟨w',hrun,hm,ht⟩:=h2.store keyedRef Tryz.underlying256 (by unfold maxLen;omega) (key_ref hr) (.int .i64 1) (gof_snoc gs r).1 (gof_snoc gs r).2;have hT:=Turned.of ht;refine⟨w',hrun,⟨?_,(hT.block (by omega)).trans h.cell,_,?_,hm⟩,hT.2⟩
 ·exact h.b.trans (Keeps.below hT.2 h.b.size (fun x hx=>by omega))
 ·simp only [List.length_append,List.length_singleton];split <;> omega
theorem lean_X {gs:List Int} (hok:M.ok):Lean' M gs ↔ ∃ x ∈ M.things,leanX gs x:=by
 constructor
 ·rintro ⟨q,t,h1,h2,h3⟩;refine⟨(q,t),at_mem h1,?_,h3.imp (fun h=>⟨h.1,List.contains_iff_mem.2 h.2⟩) fun h=>List.contains_iff_mem.2 h⟩
  cases e:gs.contains q with
  | false=>rfl
  | true=>exact absurd (List.contains_iff_mem.1 e) h2
 ·rintro ⟨x,hx,h1,h2⟩;refine⟨x.1,x.2,hok.at_of_mem hx,fun e=>?_,h2.imp (fun h=>⟨h.1,List.contains_iff_mem.1 h.2⟩) fun h=>List.contains_iff_mem.1 h⟩;rw [List.contains_iff_mem.2 e]at h1
  cases h1
def DropFPost (w:World) (p:Nat) (M:WM) (F:Nat->Prop) (l:List Int) (e:Ending) (w':World):Prop :=
 (e=.returned (.int .i64 5)/\Bl w w'/\∃ r ∈ l,M.at r=none) \/
 ((∀ r ∈ l,M.at r≠none)/\e=.returned (.int .i64 72)/\Bl w w'/\∃ x ∈ M.things,heldX l x\/leanX (goneQ M l) x) \/
 ((∀ r ∈ l,M.at r≠none)/\e=.returned (.int .i64 0)/\(∀ x ∈ M.things,¬ heldX l x/\¬ leanX (goneQ M l) x)/\∃ ds:List Int,(∀ x,x ∈ ds ↔ x ∈ goneQ M l)/\IsW w' p ((ds.foldl (WM.gone1 (goneQ M l)) M).delL (goneQ M l)) F/\Keeps F w w')
theorem goneQ_at {l:List Int} (hok:M.ok) (h:∀ r ∈ l,M.at r≠none):∀ r ∈ goneQ M l,M.at r≠none:=fun r hr=>by
 rcases List.mem_append.1 hr with hr | hr
 ·exact h r hr
 ·obtain⟨x,hx,rfl⟩:=List.mem_map.1 hr;rw [hok.at_of_mem (List.mem_filter.1 hx).1];simp
end
end Go.Proofs.YthaliljaglldjaaGreat
