/- Part of the proof. -/
import Derived.Test.YthaliljaglldjaaGreatmBH
import Derived.Test.YthaliljaglldjaaGreatmBI
import Derived.Test.YthaliljaglldjaaGreatmBJ
import Derived.Test.YthaliljaglldjaaGreatmBK
import Derived.Test.YthaliljaglldjaaGreatmBK2
namespace Go.Proofs.YthaliljaglldjaaGreat
set_option maxHeartbeats 16000000
set_option maxRecDepth 20000
open Go.RowKit Go.ChangeMaps Go.MapKept
section
theorem form7_10_out (w:World) (sides:Int) (h:Int) (hh:0≤h/\h<sides) (n:Int) (hn:n<0\/9007199254740992<n) :
 Calls Tryz.prog 81 #[.agg (wr 10 h 0 0 n 0 0 0 0 false),.int .i64 sides] w fun e w'=>e=.returned (.bool false)/\Bl w w':=by
 have hh1:¬ h<0:=by omega
 have hh2:¬ h ≥ sides:=by omega
 clear hh;have Hn:=(show Hid _ from hn);clear hn;have H5:=(show Hid _ from two_what w (wr 10 h 0 0 n 0 0 0 0 false) (wr 10 h 0 0 0 0 0 0 0 false))
 go_enter Tryz.func81,Tryz.ntmps81
 go_upto_region 32 with fail
 go_cut [] (fun wx=>Hid (Bl w wx/\wx.heap[w.heap.size]? = some (.cells (wr 10 h 0 0 n 0 0 0 0 false) 46 (0,0))/\wx.heap[w.heap.size+1]? = some (.cells (wr 10 h 0 0 0 0 0 0 0 false) 46 (0,0))))
 case first =>
  go_region
  all_goals
   go_wp2_with fail
   go_meet
   case rel=>first | exact H5.out _ (.inr rfl) | exact H5.out _ (.inl rfl)
 have H5:=hcut;clear hcut;generalize wc=w5 at *;have aa:=cells16 H5.out.2.1;have bb:=cells16 H5.out.2.2
 go_upto_region 51 with fail
 clear aa bb;have aa:=cells16 H5.out.2.1;have bb:=cells16 H5.out.2.2
 rcases Hn.out with hn | hn
 ·go_wp2_with fail
  go_ret
  exact⟨rfl,H5.out.1⟩
 ·have hn1:¬ n<0:=by omega
  have hn2:n > 9007199254740992:=hn
  go_wp2_with fail
  go_ret
  exact⟨rfl,H5.out.1⟩
end
section
theorem form7_12_ne (w:World) (sides:Int) (h:Int) (hh:0≤h/\h<sides) (n:Int) (hn:0≤n/\n≤9007199254740992) (hn0:n≠0) :
 Calls Tryz.prog 81 #[.agg (wr 12 h 0 0 n 0 0 0 0 false),.int .i64 sides] w fun e w'=>e=.returned (.bool false)/\Bl w w':=by
 have hh1:¬ h<0:=by omega
 have hh2:¬ h ≥ sides:=by omega
 clear hh;have hn1:¬ n<0:=by omega
 have hn2:¬ n > 9007199254740992:=by omega
 have hnb:(n==0)=false:=by simpa using hn0
 clear hn0;clear hn;have H5:=(show Hid _ from two_what w (wr 12 h 0 0 n 0 0 0 0 false) (wr 12 h 0 0 0 0 0 0 0 false))
 go_enter Tryz.func81,Tryz.ntmps81
 go_upto_region 37 with fail
 have H5:=(show Hid (_/\_/\_)from H5.out _ (.inl rfl));revert H5;generalize World.alloc (World.alloc w _) _=w5;intro H5;have aa:=cells16 H5.out.2.1
 go_wp2_with fail
 refine(size7_nil w5).mono ?_;rintro e _ ⟨rfl,rfl⟩
 go_wp2_with fail
 refine(cfits7_nil w5).mono ?_;rintro e _ ⟨rfl,rfl⟩
 go_wp2_with fail
 go_loopw [10] (fun vi wr=>vi=.int .i64 0/\w5=wr) (fun _ _=>0)
 case atStart=>exact⟨rfl,rfl⟩
 case round =>
  obtain⟨rfl,rfl⟩:=hrel
  go_upto_region 51 with fail
  clear aa;have aa:=cells16 H5.out.2.1;have bb:=cells16 H5.out.2.2
  go_wp2_with fail
  refine(may4_nil w5).mono ?_;rintro e w6 ⟨rfl,hb6⟩;have H6:=(show Hid (Bl w w6/\_/\_)from⟨H5.out.1.trans (hb6.mono H5.out.1.size),below_blk hb6 H5.out.2.1,below_blk hb6 H5.out.2.2⟩);clear hb6 H5;clear aa bb;have aa:=cells16 H6.out.2.1;have bb:=cells16 H6.out.2.2
  go_wp2_with fail
  refine(same4_nil w6).mono ?_;rintro e w7 ⟨rfl,hb7⟩;have H7:=(show Hid (Bl w w7/\_/\_)from⟨H6.out.1.trans (hb7.mono H6.out.1.size),below_blk hb7 H6.out.2.1,below_blk hb7 H6.out.2.2⟩);clear hb7 H6;clear aa bb;have aa:=cells16 H7.out.2.1;have bb:=cells16 H7.out.2.2
  go_wp2_with fail
  all_goals
   go_ret
   exact⟨rfl,H7.out.1⟩
end
section
theorem form7_12_out (w:World) (sides:Int) (h:Int) (hh:0≤h/\h<sides) (n:Int) (hn:n<0\/9007199254740992<n) :
 Calls Tryz.prog 81 #[.agg (wr 12 h 0 0 n 0 0 0 0 false),.int .i64 sides] w fun e w'=>e=.returned (.bool false)/\Bl w w':=by
 have hh1:¬ h<0:=by omega
 have hh2:¬ h ≥ sides:=by omega
 clear hh;have Hn:=(show Hid _ from hn);clear hn;have H5:=(show Hid _ from two_what w (wr 12 h 0 0 n 0 0 0 0 false) (wr 12 h 0 0 0 0 0 0 0 false))
 go_enter Tryz.func81,Tryz.ntmps81
 go_upto_region 37 with fail
 have H5:=(show Hid (_/\_/\_)from H5.out _ (.inl rfl));revert H5;generalize World.alloc (World.alloc w _) _=w5;intro H5;have aa:=cells16 H5.out.2.1
 go_wp2_with fail
 refine(size7_nil w5).mono ?_;rintro e _ ⟨rfl,rfl⟩
 go_wp2_with fail
 refine(cfits7_nil w5).mono ?_;rintro e _ ⟨rfl,rfl⟩
 go_wp2_with fail
 go_loopw [10] (fun vi wr=>vi=.int .i64 0/\w5=wr) (fun _ _=>0)
 case atStart=>exact⟨rfl,rfl⟩
 case round =>
  obtain⟨rfl,rfl⟩:=hrel
  go_upto_region 51 with fail
  clear aa;have aa:=cells16 H5.out.2.1;have bb:=cells16 H5.out.2.2
  rcases Hn.out with hn | hn
  ·go_wp2_with fail
   go_ret
   exact⟨rfl,H5.out.1⟩
  ·have hn1:¬ n<0:=by omega
   have hn2:n > 9007199254740992:=hn
   go_wp2_with fail
   go_ret
   exact⟨rfl,H5.out.1⟩
end
section
theorem form7_13_ne (w:World) (sides:Int) (h:Int) (hh:0≤h/\h<sides) (n:Int) (hn:0≤n/\n≤9007199254740992) (hn0:n≠0) (tg:Int) (fu:Bool) :
 Calls Tryz.prog 81 #[.agg (wr 13 h 0 0 n 0 tg 0 0 fu),.int .i64 sides] w fun e w'=>e=.returned (.bool false)/\Bl w w':=by
 have hh1:¬ h<0:=by omega
 have hh2:¬ h ≥ sides:=by omega
 clear hh;have hn1:¬ n<0:=by omega
 have hn2:¬ n > 9007199254740992:=by omega
 have hnb:(n==0)=false:=by simpa using hn0
 clear hn0;clear hn;have H5:=(show Hid _ from two_what w (wr 13 h 0 0 n 0 tg 0 0 fu) (wr 13 h 0 0 0 0 tg 0 0 fu))
 go_enter Tryz.func81,Tryz.ntmps81
 go_upto_block 0 with fail
 go_cut [7,8,9] (fun a7 a8 a9 wx=>a7=.bool false/\a8=.bool false/\a9=.bool false/\Hid (Bl w wx/\wx.heap[w.heap.size]? = some (.cells (wr 13 h 0 0 n 0 tg 0 0 fu) 46 (0,0))/\wx.heap[w.heap.size+1]? = some (.cells (wr 13 h 0 0 0 0 tg 0 0 fu) 46 (0,0))))
 case first =>
  go_upto_region 45 with fail
  go_region
  all_goals
   go_wp2_with fail
   go_meet
   case rel=>first | exact⟨rfl,rfl,rfl,H5.out _ (.inr rfl)⟩ | exact⟨rfl,rfl,rfl,H5.out _ (.inl rfl)⟩
 clear H5;obtain⟨rfl,rfl,rfl,H5⟩:=hcut;generalize wc=w5 at *;have aa:=cells16 H5.out.2.1;have bb:=cells16 H5.out.2.2
 go_wp2_with fail
 refine(may4_nil w5).mono ?_;rintro e w6 ⟨rfl,hb6⟩;have H6:=(show Hid (Bl w w6/\_/\_)from⟨H5.out.1.trans (hb6.mono H5.out.1.size),below_blk hb6 H5.out.2.1,below_blk hb6 H5.out.2.2⟩);clear hb6 H5;clear aa bb;have aa:=cells16 H6.out.2.1;have bb:=cells16 H6.out.2.2
 go_wp2_with fail
 refine(same4_nil w6).mono ?_;rintro e w7 ⟨rfl,hb7⟩;have H7:=(show Hid (Bl w w7/\_/\_)from⟨H6.out.1.trans (hb7.mono H6.out.1.size),below_blk hb7 H6.out.2.1,below_blk hb7 H6.out.2.2⟩);clear hb7 H6;clear aa bb;have aa:=cells16 H7.out.2.1;have bb:=cells16 H7.out.2.2
 go_wp2_with fail
 all_goals
  go_ret
  exact⟨rfl,H7.out.1⟩
end
section
theorem form7_13_out (w:World) (sides:Int) (h:Int) (hh:0≤h/\h<sides) (n:Int) (hn:n<0\/9007199254740992<n) (tg:Int) (fu:Bool) :
 Calls Tryz.prog 81 #[.agg (wr 13 h 0 0 n 0 tg 0 0 fu),.int .i64 sides] w fun e w'=>e=.returned (.bool false)/\Bl w w':=by
 have hh1:¬ h<0:=by omega
 have hh2:¬ h ≥ sides:=by omega
 clear hh;have Hn:=(show Hid _ from hn);clear hn;have H5:=(show Hid _ from two_what w (wr 13 h 0 0 n 0 tg 0 0 fu) (wr 13 h 0 0 0 0 tg 0 0 fu))
 go_enter Tryz.func81,Tryz.ntmps81
 go_upto_block 0 with fail
 go_cut [7,8,9] (fun a7 a8 a9 wx=>a7=.bool false/\a8=.bool false/\a9=.bool false/\Hid (Bl w wx/\wx.heap[w.heap.size]? = some (.cells (wr 13 h 0 0 n 0 tg 0 0 fu) 46 (0,0))/\wx.heap[w.heap.size+1]? = some (.cells (wr 13 h 0 0 0 0 tg 0 0 fu) 46 (0,0))))
 case first =>
  go_upto_region 45 with fail
  go_region
  all_goals
   go_wp2_with fail
   go_meet
   case rel=>first | exact⟨rfl,rfl,rfl,H5.out _ (.inr rfl)⟩ | exact⟨rfl,rfl,rfl,H5.out _ (.inl rfl)⟩
 clear H5;obtain⟨rfl,rfl,rfl,H5⟩:=hcut;generalize wc=w5 at *;have aa:=cells16 H5.out.2.1;have bb:=cells16 H5.out.2.2
 rcases Hn.out with hn | hn
 ·go_wp2_with fail
  go_ret
  exact⟨rfl,H5.out.1⟩
 ·have hn1:¬ n<0:=by omega
  have hn2:n > 9007199254740992:=hn
  go_wp2_with fail
  go_ret
  exact⟨rfl,H5.out.1⟩
end
section
theorem form7_3_out (w:World) (sides:Int) (h:Int) (hh:0≤h/\h<sides) (n:Int) (hn:n<0\/9007199254740992<n) :
 Calls Tryz.prog 81 #[.agg (wr 3 h 0 0 n 0 0 0 0 false),.int .i64 sides] w fun e w'=>e=.returned (.bool false)/\Bl w w':=by
 have hh1:¬ h<0:=by omega
 have hh2:¬ h ≥ sides:=by omega
 clear hh;have Hn:=(show Hid _ from hn);clear hn;have H5:=(show Hid _ from two_what w (wr 3 h 0 0 n 0 0 0 0 false) (wr 3 h 0 0 n 0 0 0 0 false))
 go_enter Tryz.func81,Tryz.ntmps81
 go_upto_region 51 with fail
 have H5:=(show Hid (_/\_/\_)from H5.out _ (.inl rfl));revert H5;generalize World.alloc (World.alloc w _) _=w5;intro H5;have aa:=cells16 H5.out.2.1;have bb:=cells16 H5.out.2.2
 rcases Hn.out with hn | hn
 ·go_wp2_with fail
  go_ret
  exact⟨rfl,H5.out.1⟩
 ·have hn1:¬ n<0:=by omega
  have hn2:n > 9007199254740992:=hn
  go_wp2_with fail
  go_ret
  exact⟨rfl,H5.out.1⟩
end
section
theorem form7_8_out (w:World) (sides:Int) (h:Int) (hh:0≤h/\h<sides) (n:Int) (hn:n<0\/9007199254740992<n) (lo:Int) (hlo:0≤lo/\lo≤n) :
 Calls Tryz.prog 81 #[.agg (wr 8 h 0 0 n lo 0 0 0 false),.int .i64 sides] w fun e w'=>e=.returned (.bool false)/\Bl w w':=by
 have hh1:¬ h<0:=by omega
 have hh2:¬ h ≥ sides:=by omega
 clear hh;have hl1:¬ lo<0:=by omega
 have hl2:¬ lo > n:=by omega
 clear hlo;have Hn:=(show Hid _ from hn);clear hn;have H5:=(show Hid _ from two_what w (wr 8 h 0 0 n lo 0 0 0 false) (wr 8 h 0 0 n lo 0 0 0 false))
 go_enter Tryz.func81,Tryz.ntmps81
 go_upto_region 26 with fail
 go_cut [] (fun wx=>Hid (Bl w wx/\wx.heap[w.heap.size]? = some (.cells (wr 8 h 0 0 n lo 0 0 0 false) 46 (0,0))/\wx.heap[w.heap.size+1]? = some (.cells (wr 8 h 0 0 n lo 0 0 0 false) 46 (0,0))))
 case first =>
  go_region
  all_goals
   go_wp2_with fail
   go_meet
   case rel=>first | exact H5.out _ (.inr rfl) | exact H5.out _ (.inl rfl)
 have H5:=hcut;clear hcut;generalize wc=w5 at *;have aa:=cells16 H5.out.2.1;have bb:=cells16 H5.out.2.2
 go_upto_region 51 with fail
 clear aa bb;have aa:=cells16 H5.out.2.1;have bb:=cells16 H5.out.2.2;obtain hn:9007199254740992<n:=Hn.out.resolve_left (by omega);have hn1:¬ n<0:=by omega
 have hn2:n > 9007199254740992:=hn
 go_wp2_with fail
 go_ret
 exact⟨rfl,H5.out.1⟩
end
section
theorem form7_8_lost (w:World) (sides:Int) (h:Int) (hh:0≤h/\h<sides) (n:Int) (lo:Int) (hlo:0≤lo/\lo > n) :
 Calls Tryz.prog 81 #[.agg (wr 8 h 0 0 n lo 0 0 0 false),.int .i64 sides] w fun e w'=>e=.returned (.bool false)/\Bl w w':=by
 have hh1:¬ h<0:=by omega
 have hh2:¬ h ≥ sides:=by omega
 clear hh;have hl1:¬ lo<0:=by omega
 have hl2:lo > n:=by omega
 clear hlo;have H5:=(show Hid _ from two_what w (wr 8 h 0 0 n lo 0 0 0 false) (wr 8 h 0 0 n lo 0 0 0 false))
 go_enter Tryz.func81,Tryz.ntmps81
 go_upto_region 26 with fail
 go_region
 all_goals
  go_wp2_with fail
  go_ret
  first | exact⟨rfl,(H5.out _ (.inr rfl)).1⟩ | exact⟨rfl,(H5.out _ (.inl rfl)).1⟩
end
section
variable {w:World} {p q:Nat} {M:WM} {F G:Nat->Prop}
theorem Grew.on {F F':Nat->Prop} {w w5 w':World} (h:Grew F w F' w5) (hb:Bl w5 w'):Grew F w F' w':=⟨h.1.then_below hb,h.2⟩
end
section
theorem make7_ref {w:World} {q:Nat} {N:WM} {G:Nat->Prop} (hR:IsR w q N G) (t:Th) (hk:0≤t.kind/\t.kind≤255) (hk13:t.kind≠13/\t.kind≠14) {aE:Int} (ha:aE≠0)
 (hask:∀ w',Bl w w'->Calls Tryz.prog 82 #[.pointer (some ⟨q,0,none⟩),.int .i64 0,.agg (thc t)] w' fun e w''=>e=.returned (.int .i64 aE)/\Bl w' w'')
 (hform:∀ w',Bl w w'->Calls Tryz.prog 81 #[.agg (thc t),.int .i64 N.made.length] w' fun e w''=>e=.returned (.bool true)/\Bl w' w'') :
 Calls Tryz.prog 15 #[.pointer (some ⟨q,0,none⟩),.agg (thc t)] w fun e w'=>e=.returned (.tuple #[.int .i64 0,.int .i64 aE])/\Bl w w':=by
 have hwk:IntKind.i64.wrap t.kind=t.kind:=by simp [IntKind.wrap,IntKind.signed,IntKind.bits];omega
 have k13:(t.kind==13)=false:=by simpa using hk13.1
 have k14:(t.kind==14)=false:=by simpa using hk13.2
 have hab:(aE==0)=false:=by simpa using ha
 have HAK:=(show Hid _ from hask);clear hk13 hk ha hask;obtain⟨sP,sC,sT,sM,hV⟩:=hR;obtain⟨ln,hln⟩:∃ ln,ln=N.made.length:=⟨_,rfl⟩
 obtain⟨pM,cM,hsM⟩:∃ p c,sM=.slice p ln c:=by
  obtain⟨h1,⟨rfl,h0⟩ | ⟨g,cap,cur,rfl,-⟩⟩:=hV.rm
  ·exact⟨none,0,by rw [hln,h0]⟩
  ·exact⟨_,_,by rw [hln]⟩
 have HFM:=(show Hid _ from hform);rw [<- hln]at HFM
 have DS:Hid (∀ w',Bl w w'->w'.heap[w.heap.size]? = some (.cells (thc t) 46 (0,0))->w'.cell? ⟨q,4,none⟩=some (.slice pM ln cM)/\w'.cell? ⟨w.heap.size,0,none⟩=some (.int .u8 t.kind) /\
  (ldW (.pointer (some ⟨w.heap.size,0,none⟩))).run Tryz.prog w'=.ok (.value (.agg (thc t))) w'):=fun w' hb hx=>by
  have hq:=below_blk hb hV.blk;exact⟨by rw [cell_blk hq,← hsM];rfl,by rw [cell_blk hx];rfl,loadWhat_blk hx rfl⟩
 clear hV hform hln hsM
 go_enter Tryz.func15,Tryz.ntmps15
 go_upto_region 1 with fail
 have H0:Hid (Bl w (w.alloc (.cells (thc t) 46))/\(w.alloc (.cells (thc t) 46)).heap[w.heap.size]? = some (.cells (thc t) 46 (0,0))):=⟨(Below.refl _ w).alloc (Nat.le_refl _) _,blk_new _ _⟩;revert H0;generalize w.alloc _=w0;intro H0
 have ds:Hid (∀ w',Bl w0 w'->w'.cell? ⟨q,4,none⟩=some (.slice pM ln cM)/\w'.cell? ⟨w.heap.size,0,none⟩=some (.int .u8 t.kind)/\(ldW (.pointer (some ⟨w.heap.size,0,none⟩))).run Tryz.prog w'=.ok (.value (.agg (thc t))) w'/\Bl w w'):=fun w' hb=>by
  have hb':=H0.out.1.trans (hb.mono H0.out.1.size);obtain⟨q1,q2,q3⟩:=DS.out w' hb' (below_blk hb H0.out.2);exact⟨q1,q2,q3,hb'⟩
 have Hf:=HFM;have k0:=(ds.out w0 (Below.refl _ _)).2.1
 go_upto_region 2 with fail
 clear k0;refine region_class (C:=fun w'=>Bl w0 w') (by kernel_rfl) (by kernel_rfl) below_drew ?_
 repeat (first
  | go_big_quiet_step (fail)
  | quiet_step (fail)
  | (refine wpQuiet_step (fun K hK=>?_);go_simp;first
   | (refine hK _ ?_;clear hK K)
   | (apply Exists.intro
      refine⟨fun w' hC=>?_,hK _ ?_⟩
      ·obtain⟨q1,q2,q3,q4⟩:=ds.out w' hC
       first
        | exact rfl
        | (go_simp;exact rfl)
        | (go_simp;exact⟨rfl,rfl⟩)
        | exact(Hf.out w' q4).mono fun e w'' ⟨he,hb⟩=>⟨he,hC.trans (hb.mono hC.size)⟩
      clear hK K)))
 refine wpQuiet_nil ?_;intro w5 hC5;have H5:Hid (Bl w w5):=(ds.out w5 hC5).2.2.2;have l5:=(ds.out w5 hC5).2.2.1;clear hC5 ds Hf H0
 go_wp2_with fail
 refine Calls.mono (HAK.out w5 H5.out) ?_;rintro e w6 ⟨rfl,hb6⟩;have H6:Hid (Bl w w6):=H5.out.trans (hb6.mono H5.out.size);clear hb6 H5 l5 HAK HFM
 go_wp2_with fail
 go_returns
 exact⟨rfl,H6.out⟩
end
end Go.Proofs.YthaliljaglldjaaGreat
namespace Go.Proofs.YthaliljaglldjaaGreat
set_option maxHeartbeats 16000000
set_option maxRecDepth 20000
section
theorem nilL_wf:(listV []).wf:=.inr rfl
theorem nilL_may:mayV (listV [])=true:=by rfl
end
end Go.Proofs.YthaliljaglldjaaGreat
