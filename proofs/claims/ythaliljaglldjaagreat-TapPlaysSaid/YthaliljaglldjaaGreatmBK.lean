/- Part of the proof. -/
import Derived.Test.YthaliljaglldjaaGreatmAN
namespace Go.Proofs.YthaliljaglldjaaGreat
set_option maxHeartbeats 16000000
set_option maxRecDepth 20000
open Go.RowKit Go.ChangeMaps Go.MapKept
section
theorem form7_12 (w:World) (sides:Int) (h:Int) (hh:0≤h/\h<sides) :
 Calls Tryz.prog 81 #[.agg (wr 12 h 0 0 0 0 0 0 0 false),.int .i64 sides] w fun e w'=>e=.returned (.bool true)/\Bl w w':=by
 have hh1:¬ h<0:=by omega
 have hh2:¬ h ≥ sides:=by omega
 clear hh;have H5:=(show Hid _ from two_what w (wr 12 h 0 0 0 0 0 0 0 false) (wr 12 h 0 0 0 0 0 0 0 false))
 go_enter Tryz.func81,Tryz.ntmps81
 go_upto_region 37 with fail
 have H5:=(show Hid (_/\_/\_)from H5.out _ (.inl rfl));revert H5;generalize World.alloc (World.alloc w _) _=w5;intro H5;have aa:=cells16 H5.out.2.1
 go_wp2_with fail
 refine(size7_nil w5).mono ?_;rintro e _ ⟨rfl,rfl⟩
 go_wp2_with fail
 refine(cfits7_nil w5).mono ?_;rintro e _ ⟨rfl,rfl⟩
 go_wp2_with fail
 go_loopw [10] (fun vi wr=>vi=.int .i64 0/\w5=wr) (fun _ _=>0)
 case atStart=>exact⟨rfl,rfl⟩
 case round =>
  obtain⟨rfl,rfl⟩:=hrel
  go_upto_region 51 with fail
  clear aa;have aa:=cells16 H5.out.2.1;have bb:=cells16 H5.out.2.2
  go_wp2_with fail
  refine(may4_nil w5).mono ?_;rintro e w6 ⟨rfl,hb6⟩;have H6:=(show Hid (Bl w w6/\_/\_)from⟨H5.out.1.trans (hb6.mono H5.out.1.size),below_blk hb6 H5.out.2.1,below_blk hb6 H5.out.2.2⟩);clear hb6 H5;clear aa bb;have aa:=cells16 H6.out.2.1;have bb:=cells16 H6.out.2.2
  go_wp2_with fail
  refine(same4_nil w6).mono ?_;rintro e w7 ⟨rfl,hb7⟩;have H7:=(show Hid (Bl w w7/\_/\_)from⟨H6.out.1.trans (hb7.mono H6.out.1.size),below_blk hb7 H6.out.2.1,below_blk hb7 H6.out.2.2⟩);clear hb7 H6;clear aa bb;have aa:=cells16 H7.out.2.1;have bb:=cells16 H7.out.2.2
  go_wp2_with fail
  go_ret
  exact⟨rfl,H7.out.1⟩
end
section
theorem form7_13 (w:World) (sides:Int) (h:Int) (hh:0≤h/\h<sides) (tg:Int) (fu:Bool) :
 Calls Tryz.prog 81 #[.agg (wr 13 h 0 0 0 0 tg 0 0 fu),.int .i64 sides] w fun e w'=>e=.returned (.bool true)/\Bl w w':=by
 have hh1:¬ h<0:=by omega
 have hh2:¬ h ≥ sides:=by omega
 clear hh;have H5:=(show Hid _ from two_what w (wr 13 h 0 0 0 0 tg 0 0 fu) (wr 13 h 0 0 0 0 tg 0 0 fu))
 go_enter Tryz.func81,Tryz.ntmps81
 go_upto_block 0 with fail
 go_cut [7,8,9] (fun a7 a8 a9 wx=>a7=.bool false/\a8=.bool false/\a9=.bool false/\Hid (Bl w wx/\wx.heap[w.heap.size]? = some (.cells (wr 13 h 0 0 0 0 tg 0 0 fu) 46 (0,0))/\wx.heap[w.heap.size+1]? = some (.cells (wr 13 h 0 0 0 0 tg 0 0 fu) 46 (0,0))))
 case first =>
  go_upto_region 45 with fail
  go_region
  all_goals
   go_wp2_with fail
   go_meet
   case rel=>first | exact⟨rfl,rfl,rfl,H5.out _ (.inr rfl)⟩ | exact⟨rfl,rfl,rfl,H5.out _ (.inl rfl)⟩
 clear H5;obtain⟨rfl,rfl,rfl,H5⟩:=hcut;generalize wc=w5 at *;have aa:=cells16 H5.out.2.1;have bb:=cells16 H5.out.2.2
 go_wp2_with fail
 refine(may4_nil w5).mono ?_;rintro e w6 ⟨rfl,hb6⟩;have H6:=(show Hid (Bl w w6/\_/\_)from⟨H5.out.1.trans (hb6.mono H5.out.1.size),below_blk hb6 H5.out.2.1,below_blk hb6 H5.out.2.2⟩);clear hb6 H5;clear aa bb;have aa:=cells16 H6.out.2.1;have bb:=cells16 H6.out.2.2
 go_wp2_with fail
 refine(same4_nil w6).mono ?_;rintro e w7 ⟨rfl,hb7⟩;have H7:=(show Hid (Bl w w7/\_/\_)from⟨H6.out.1.trans (hb7.mono H6.out.1.size),below_blk hb7 H6.out.2.1,below_blk hb7 H6.out.2.2⟩);clear hb7 H6;clear aa bb;have aa:=cells16 H7.out.2.1;have bb:=cells16 H7.out.2.2
 go_wp2_with fail
 go_ret
 exact⟨rfl,H7.out.1⟩
end
section
theorem form7_14 (w:World) (sides:Int) (tg:Int) (se:Int) :
 Calls Tryz.prog 81 #[.agg (wr 14 0 0 0 0 0 tg 0 se false),.int .i64 sides] w fun e w'=>e=.returned (.bool true)/\Bl w w':=by
 have H5:=(show Hid _ from two_what w (wr 14 0 0 0 0 0 tg 0 se false) (wr 14 0 0 0 0 0 tg 0 se false))
 go_enter Tryz.func81,Tryz.ntmps81
 go_upto_block 0 with fail
 go_cut [7,8,9] (fun a7 a8 a9 wx=>a7=.bool false/\a8=.bool false/\a9=.bool false/\Hid (Bl w wx/\wx.heap[w.heap.size]? = some (.cells (wr 14 0 0 0 0 0 tg 0 se false) 46 (0,0))/\wx.heap[w.heap.size+1]? = some (.cells (wr 14 0 0 0 0 0 tg 0 se false) 46 (0,0))))
 case first =>
  go_upto_region 47 with fail
  go_region
  all_goals
   go_wp2_with fail
   go_meet
   case rel=>first | exact⟨rfl,rfl,rfl,H5.out _ (.inr rfl)⟩ | exact⟨rfl,rfl,rfl,H5.out _ (.inl rfl)⟩
 clear H5;obtain⟨rfl,rfl,rfl,H5⟩:=hcut;generalize wc=w5 at *;have aa:=cells16 H5.out.2.1;have bb:=cells16 H5.out.2.2
 go_wp2_with fail
 refine(may4_nil w5).mono ?_;rintro e w6 ⟨rfl,hb6⟩;have H6:=(show Hid (Bl w w6/\_/\_)from⟨H5.out.1.trans (hb6.mono H5.out.1.size),below_blk hb6 H5.out.2.1,below_blk hb6 H5.out.2.2⟩);clear hb6 H5;clear aa bb;have aa:=cells16 H6.out.2.1;have bb:=cells16 H6.out.2.2
 go_wp2_with fail
 refine(same4_nil w6).mono ?_;rintro e w7 ⟨rfl,hb7⟩;have H7:=(show Hid (Bl w w7/\_/\_)from⟨H6.out.1.trans (hb7.mono H6.out.1.size),below_blk hb7 H6.out.2.1,below_blk hb7 H6.out.2.2⟩);clear hb7 H6;clear aa bb;have aa:=cells16 H7.out.2.1;have bb:=cells16 H7.out.2.2
 go_wp2_with fail
 go_ret
 exact⟨rfl,H7.out.1⟩
end
section
theorem form7_15 (w:World) (sides:Int) (h:Int) (hh:0≤h/\h<sides) (tg:Int) (bi:Int) :
 Calls Tryz.prog 81 #[.agg (wr 15 h 0 0 0 0 tg bi 0 false),.int .i64 sides] w fun e w'=>e=.returned (.bool true)/\Bl w w':=by
 have hh1:¬ h<0:=by omega
 have hh2:¬ h ≥ sides:=by omega
 clear hh;have H5:=(show Hid _ from two_what w (wr 15 h 0 0 0 0 tg bi 0 false) (wr 15 h 0 0 0 0 tg bi 0 false))
 go_enter Tryz.func81,Tryz.ntmps81
 go_upto_block 0 with fail
 go_cut [7,8,9] (fun a7 a8 a9 wx=>a7=.bool false/\a8=.bool false/\a9=.bool false/\Hid (Bl w wx/\wx.heap[w.heap.size]? = some (.cells (wr 15 h 0 0 0 0 tg bi 0 false) 46 (0,0))/\wx.heap[w.heap.size+1]? = some (.cells (wr 15 h 0 0 0 0 tg bi 0 false) 46 (0,0))))
 case first =>
  go_upto_region 50 with fail
  go_region
  all_goals
   go_wp2_with fail
   go_meet
   case rel=>first | exact⟨rfl,rfl,rfl,H5.out _ (.inr rfl)⟩ | exact⟨rfl,rfl,rfl,H5.out _ (.inl rfl)⟩
 clear H5;obtain⟨rfl,rfl,rfl,H5⟩:=hcut;generalize wc=w5 at *;have aa:=cells16 H5.out.2.1;have bb:=cells16 H5.out.2.2
 go_wp2_with fail
 refine(may4_nil w5).mono ?_;rintro e w6 ⟨rfl,hb6⟩;have H6:=(show Hid (Bl w w6/\_/\_)from⟨H5.out.1.trans (hb6.mono H5.out.1.size),below_blk hb6 H5.out.2.1,below_blk hb6 H5.out.2.2⟩);clear hb6 H5;clear aa bb;have aa:=cells16 H6.out.2.1;have bb:=cells16 H6.out.2.2
 go_wp2_with fail
 refine(same4_nil w6).mono ?_;rintro e w7 ⟨rfl,hb7⟩;have H7:=(show Hid (Bl w w7/\_/\_)from⟨H6.out.1.trans (hb7.mono H6.out.1.size),below_blk hb7 H6.out.2.1,below_blk hb7 H6.out.2.2⟩);clear hb7 H6;clear aa bb;have aa:=cells16 H7.out.2.1;have bb:=cells16 H7.out.2.2
 go_wp2_with fail
 go_ret
 exact⟨rfl,H7.out.1⟩
end
section
theorem form7_16 (w:World) (sides:Int) (h:Int) (hh:0≤h/\h<sides) (tg:Int) (bi:Int) :
 Calls Tryz.prog 81 #[.agg (wr 16 h 0 0 0 0 tg bi 0 false),.int .i64 sides] w fun e w'=>e=.returned (.bool true)/\Bl w w':=by
 have hh1:¬ h<0:=by omega
 have hh2:¬ h ≥ sides:=by omega
 clear hh;have H5:=(show Hid _ from two_what w (wr 16 h 0 0 0 0 tg bi 0 false) (wr 16 h 0 0 0 0 tg bi 0 false))
 go_enter Tryz.func81,Tryz.ntmps81
 go_upto_block 0 with fail
 go_cut [7,8,9] (fun a7 a8 a9 wx=>a7=.bool false/\a8=.bool false/\a9=.bool false/\Hid (Bl w wx/\wx.heap[w.heap.size]? = some (.cells (wr 16 h 0 0 0 0 tg bi 0 false) 46 (0,0))/\wx.heap[w.heap.size+1]? = some (.cells (wr 16 h 0 0 0 0 tg bi 0 false) 46 (0,0))))
 case first =>
  go_upto_region 50 with fail
  go_region
  all_goals
   go_wp2_with fail
   go_meet
   case rel=>first | exact⟨rfl,rfl,rfl,H5.out _ (.inr rfl)⟩ | exact⟨rfl,rfl,rfl,H5.out _ (.inl rfl)⟩
 clear H5;obtain⟨rfl,rfl,rfl,H5⟩:=hcut;generalize wc=w5 at *;have aa:=cells16 H5.out.2.1;have bb:=cells16 H5.out.2.2
 go_wp2_with fail
 refine(may4_nil w5).mono ?_;rintro e w6 ⟨rfl,hb6⟩;have H6:=(show Hid (Bl w w6/\_/\_)from⟨H5.out.1.trans (hb6.mono H5.out.1.size),below_blk hb6 H5.out.2.1,below_blk hb6 H5.out.2.2⟩);clear hb6 H5;clear aa bb;have aa:=cells16 H6.out.2.1;have bb:=cells16 H6.out.2.2
 go_wp2_with fail
 refine(same4_nil w6).mono ?_;rintro e w7 ⟨rfl,hb7⟩;have H7:=(show Hid (Bl w w7/\_/\_)from⟨H6.out.1.trans (hb7.mono H6.out.1.size),below_blk hb7 H6.out.2.1,below_blk hb7 H6.out.2.2⟩);clear hb7 H6;clear aa bb;have aa:=cells16 H7.out.2.1;have bb:=cells16 H7.out.2.2
 go_wp2_with fail
 go_ret
 exact⟨rfl,H7.out.1⟩
end
section
theorem form7_14_home (w:World) (sides:Int) (h:Int) (hh:h≠0) (tg:Int) (se:Int) :
 Calls Tryz.prog 81 #[.agg (wr 14 h 0 0 0 0 tg 0 se false),.int .i64 sides] w fun e w'=>e=.returned (.bool false)/\Bl w w':=by
 have hhb:(h==0)=false:=by simpa using hh
 clear hh;have H5:=(show Hid _ from two_what w (wr 14 h 0 0 0 0 tg 0 se false) (wr 14 0 0 0 0 0 tg 0 se false))
 go_enter Tryz.func81,Tryz.ntmps81
 go_upto_block 0 with fail
 go_cut [7,8,9] (fun a7 a8 a9 wx=>a7=.bool false/\a8=.bool false/\a9=.bool false/\Hid (Bl w wx/\wx.heap[w.heap.size]? = some (.cells (wr 14 h 0 0 0 0 tg 0 se false) 46 (0,0))/\wx.heap[w.heap.size+1]? = some (.cells (wr 14 0 0 0 0 0 tg 0 se false) 46 (0,0))))
 case first =>
  go_upto_region 47 with fail
  go_region
  all_goals
   go_wp2_with fail
   go_meet
   case rel=>first | exact⟨rfl,rfl,rfl,H5.out _ (.inr rfl)⟩ | exact⟨rfl,rfl,rfl,H5.out _ (.inl rfl)⟩
 clear H5;obtain⟨rfl,rfl,rfl,H5⟩:=hcut;generalize wc=w5 at *;have aa:=cells16 H5.out.2.1;have bb:=cells16 H5.out.2.2
 go_wp2_with fail
 refine(may4_nil w5).mono ?_;rintro e w6 ⟨rfl,hb6⟩;have H6:=(show Hid (Bl w w6/\_/\_)from⟨H5.out.1.trans (hb6.mono H5.out.1.size),below_blk hb6 H5.out.2.1,below_blk hb6 H5.out.2.2⟩);clear hb6 H5;clear aa bb;have aa:=cells16 H6.out.2.1;have bb:=cells16 H6.out.2.2
 go_wp2_with fail
 all_goals
  go_ret
  exact⟨rfl,H6.out.1⟩
end
section
end
end Go.Proofs.YthaliljaglldjaaGreat
