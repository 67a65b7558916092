/- Part of the proof. -/
import Derived.Test.YthaliljaglldjaaGreatmAN
namespace Go.Proofs.YthaliljaglldjaaGreat
set_option maxHeartbeats 16000000
set_option maxRecDepth 20000
open Go.RowKit Go.ChangeMaps Go.MapKept
section
theorem form7_1_ne (w:World) (sides:Int) (h:Int) (hh:0≤h/\h<sides) (n:Int) (hn:0≤n/\n≤9007199254740992) (hn0:n≠0) :
 Calls Tryz.prog 81 #[.agg (wr 1 h 0 0 n 0 0 0 0 false),.int .i64 sides] w fun e w'=>e=.returned (.bool false)/\Bl w w':=by
 have hh1:¬ h<0:=by omega
 have hh2:¬ h ≥ sides:=by omega
 clear hh;have hn1:¬ n<0:=by omega
 have hn2:¬ n > 9007199254740992:=by omega
 have hnb:(n==0)=false:=by simpa using hn0
 clear hn0;clear hn;have H5:=(show Hid _ from two_what w (wr 1 h 0 0 n 0 0 0 0 false) (wr 1 h 0 0 0 0 0 0 0 false))
 go_enter Tryz.func81,Tryz.ntmps81
 go_upto_region 51 with fail
 have H5:=(show Hid (_/\_/\_)from H5.out _ (.inl rfl));revert H5;generalize World.alloc (World.alloc w _) _=w5;intro H5;have aa:=cells16 H5.out.2.1;have bb:=cells16 H5.out.2.2
 go_wp2_with fail
 refine(may4_nil w5).mono ?_;rintro e w6 ⟨rfl,hb6⟩;have H6:=(show Hid (Bl w w6/\_/\_)from⟨H5.out.1.trans (hb6.mono H5.out.1.size),below_blk hb6 H5.out.2.1,below_blk hb6 H5.out.2.2⟩);clear hb6 H5;clear aa bb;have aa:=cells16 H6.out.2.1;have bb:=cells16 H6.out.2.2
 go_wp2_with fail
 refine(same4_nil w6).mono ?_;rintro e w7 ⟨rfl,hb7⟩;have H7:=(show Hid (Bl w w7/\_/\_)from⟨H6.out.1.trans (hb7.mono H6.out.1.size),below_blk hb7 H6.out.2.1,below_blk hb7 H6.out.2.2⟩);clear hb7 H6;clear aa bb;have aa:=cells16 H7.out.2.1;have bb:=cells16 H7.out.2.2
 go_wp2_with fail
 all_goals
  go_ret
  exact⟨rfl,H7.out.1⟩
end
section
theorem form7_1_out (w:World) (sides:Int) (h:Int) (hh:0≤h/\h<sides) (n:Int) (hn:n<0\/9007199254740992<n) :
 Calls Tryz.prog 81 #[.agg (wr 1 h 0 0 n 0 0 0 0 false),.int .i64 sides] w fun e w'=>e=.returned (.bool false)/\Bl w w':=by
 have hh1:¬ h<0:=by omega
 have hh2:¬ h ≥ sides:=by omega
 clear hh;have Hn:=(show Hid _ from hn);clear hn;have H5:=(show Hid _ from two_what w (wr 1 h 0 0 n 0 0 0 0 false) (wr 1 h 0 0 0 0 0 0 0 false))
 go_enter Tryz.func81,Tryz.ntmps81
 go_upto_region 51 with fail
 have H5:=(show Hid (_/\_/\_)from H5.out _ (.inl rfl));revert H5;generalize World.alloc (World.alloc w _) _=w5;intro H5;have aa:=cells16 H5.out.2.1;have bb:=cells16 H5.out.2.2
 rcases Hn.out with hn | hn
 ·go_wp2_with fail
  go_ret
  exact⟨rfl,H5.out.1⟩
 ·have hn1:¬ n<0:=by omega
  have hn2:n > 9007199254740992:=hn
  go_wp2_with fail
  go_ret
  exact⟨rfl,H5.out.1⟩
end
section
theorem form7_2_ne (w:World) (sides:Int) (h:Int) (hh:0≤h/\h<sides) {F:Nat->Prop} (vs:List Val) (ps:Option Addr) (cs:Nat) (hv:SlAt w F (.slice ps vs.length cs) vs) (hwf:(listV vs).wf) (hmay:mayV (listV vs)=true) (hlen:vs.length≤512) (n:Int) (hn:0≤n/\n≤9007199254740992) (hn0:n≠0) :
 Calls Tryz.prog 81 #[.agg #[.int .u8 2,.int .i64 h,.int .u8 0,.int .i64 0,.string ⟨#[]⟩,.slice none 0 0,.int .i64 0,.slice ps vs.length cs,.int .i64 n,.int .i64 0,.int .i64 0,.int .i64 0,.int .u8 0,.bool false,.slice none 0 0,.slice none 0 0],.int .i64 sides] w fun e w'=>e=.returned (.bool false)/\Bl w w':=by
 have HM:Hid (∀ w',Bl w w'->Calls Tryz.prog 174 #[.agg #[.int .u8 3,.int .i64 0,.string ⟨#[]⟩,.slice ps vs.length cs,.int .i64 0]] w' fun e w''=>e=.returned (.bool true)/\Bl w' w''):=fun w' hb=>by have h:=may4_W (v:=listV vs) hwf (hv.on hb);rw [hmay]at h;exact h
 have hlz:¬ (vs.length:Int) > 512:=by omega
 clear hv hwf hmay hlen;have hh1:¬ h<0:=by omega
 have hh2:¬ h ≥ sides:=by omega
 clear hh;have hn1:¬ n<0:=by omega
 have hn2:¬ n > 9007199254740992:=by omega
 have hnb:(n==0)=false:=by simpa using hn0
 clear hn0;clear hn;have H5:=(show Hid _ from two_what w #[.int .u8 2,.int .i64 h,.int .u8 0,.int .i64 0,.string ⟨#[]⟩,.slice none 0 0,.int .i64 0,.slice ps vs.length cs,.int .i64 n,.int .i64 0,.int .i64 0,.int .i64 0,.int .u8 0,.bool false,.slice none 0 0,.slice none 0 0] (wr 2 h 0 0 0 0 0 0 0 false))
 go_enter Tryz.func81,Tryz.ntmps81
 have HB0:=(show Hid (Bl w ((w.alloc (.cells #[.int .u8 2,.int .i64 h,.int .u8 0,.int .i64 0,.string ⟨#[]⟩,.slice none 0 0,.int .i64 0,.slice ps vs.length cs,.int .i64 n,.int .i64 0,.int .i64 0,.int .i64 0,.int .u8 0,.bool false,.slice none 0 0,.slice none 0 0] 46)).alloc (.cells (wr 2 h 0 0 0 0 0 0 0 false) 46)))from(H5.out _ (.inl rfl)).1);have HC0:=(show Hid (_/\_)from(H5.out _ (.inl rfl)).2)
 go_upto_region 16 with fail
 revert HB0 HC0;generalize World.alloc (World.alloc w _) _=w3;intro HB0 HC0;have aa:=cells16 HC0.out.1
 go_wp2_with fail
 refine(list7_W w3 ps vs.length cs).mono ?_;rintro e w4 ⟨rfl,hb4⟩;have HB4:=(show Hid (Bl w w4)from HB0.out.trans (hb4.mono HB0.out.size));have HC4:=(show Hid (_/\_)from And.intro (below_blk hb4 HC0.out.1) (below_blk hb4 HC0.out.2));clear hb4 HB0 HC0 aa
 go_wp2_with fail
 refine Calls.mono (HM.out w4 HB4.out) ?_;rintro e w5 ⟨rfl,hb5⟩;have H6:=(show Hid (Bl w w5/\_/\_)from⟨HB4.out.trans (hb5.mono HB4.out.size),below_blk hb5 HC4.out.1,below_blk hb5 HC4.out.2⟩);clear hb5 HB4 HC4 H5;have H5:=H6;clear H6
 go_upto_region 51 with fail
 have aa:=cells16 H5.out.2.1;have bb:=cells16 H5.out.2.2
 go_wp2_with fail
 refine(may4_nil w5).mono ?_;rintro e w6 ⟨rfl,hb6⟩;have H6:=(show Hid (Bl w w6/\_/\_)from⟨H5.out.1.trans (hb6.mono H5.out.1.size),below_blk hb6 H5.out.2.1,below_blk hb6 H5.out.2.2⟩);clear hb6 H5;clear aa bb;have aa:=cells16 H6.out.2.1;have bb:=cells16 H6.out.2.2
 go_wp2_with fail
 refine(same4_nil w6).mono ?_;rintro e w7 ⟨rfl,hb7⟩;have H7:=(show Hid (Bl w w7/\_/\_)from⟨H6.out.1.trans (hb7.mono H6.out.1.size),below_blk hb7 H6.out.2.1,below_blk hb7 H6.out.2.2⟩);clear hb7 H6;clear aa bb;have aa:=cells16 H7.out.2.1;have bb:=cells16 H7.out.2.2
 go_wp2_with fail
 all_goals
  go_ret
  exact⟨rfl,H7.out.1⟩
end
section
theorem form7_2_out (w:World) (sides:Int) (h:Int) (hh:0≤h/\h<sides) {F:Nat->Prop} (vs:List Val) (ps:Option Addr) (cs:Nat) (hv:SlAt w F (.slice ps vs.length cs) vs) (hwf:(listV vs).wf) (hmay:mayV (listV vs)=true) (hlen:vs.length≤512) (n:Int) (hn:n<0\/9007199254740992<n) :
 Calls Tryz.prog 81 #[.agg #[.int .u8 2,.int .i64 h,.int .u8 0,.int .i64 0,.string ⟨#[]⟩,.slice none 0 0,.int .i64 0,.slice ps vs.length cs,.int .i64 n,.int .i64 0,.int .i64 0,.int .i64 0,.int .u8 0,.bool false,.slice none 0 0,.slice none 0 0],.int .i64 sides] w fun e w'=>e=.returned (.bool false)/\Bl w w':=by
 have HM:Hid (∀ w',Bl w w'->Calls Tryz.prog 174 #[.agg #[.int .u8 3,.int .i64 0,.string ⟨#[]⟩,.slice ps vs.length cs,.int .i64 0]] w' fun e w''=>e=.returned (.bool true)/\Bl w' w''):=fun w' hb=>by have h:=may4_W (v:=listV vs) hwf (hv.on hb);rw [hmay]at h;exact h
 have hlz:¬ (vs.length:Int) > 512:=by omega
 clear hv hwf hmay hlen;have hh1:¬ h<0:=by omega
 have hh2:¬ h ≥ sides:=by omega
 clear hh;have Hn:=(show Hid _ from hn);clear hn;have H5:=(show Hid _ from two_what w #[.int .u8 2,.int .i64 h,.int .u8 0,.int .i64 0,.string ⟨#[]⟩,.slice none 0 0,.int .i64 0,.slice ps vs.length cs,.int .i64 n,.int .i64 0,.int .i64 0,.int .i64 0,.int .u8 0,.bool false,.slice none 0 0,.slice none 0 0] (wr 2 h 0 0 0 0 0 0 0 false))
 go_enter Tryz.func81,Tryz.ntmps81
 have HB0:=(show Hid (Bl w ((w.alloc (.cells #[.int .u8 2,.int .i64 h,.int .u8 0,.int .i64 0,.string ⟨#[]⟩,.slice none 0 0,.int .i64 0,.slice ps vs.length cs,.int .i64 n,.int .i64 0,.int .i64 0,.int .i64 0,.int .u8 0,.bool false,.slice none 0 0,.slice none 0 0] 46)).alloc (.cells (wr 2 h 0 0 0 0 0 0 0 false) 46)))from(H5.out _ (.inl rfl)).1);have HC0:=(show Hid (_/\_)from(H5.out _ (.inl rfl)).2)
 go_upto_region 16 with fail
 revert HB0 HC0;generalize World.alloc (World.alloc w _) _=w3;intro HB0 HC0;have aa:=cells16 HC0.out.1
 go_wp2_with fail
 refine(list7_W w3 ps vs.length cs).mono ?_;rintro e w4 ⟨rfl,hb4⟩;have HB4:=(show Hid (Bl w w4)from HB0.out.trans (hb4.mono HB0.out.size));have HC4:=(show Hid (_/\_)from And.intro (below_blk hb4 HC0.out.1) (below_blk hb4 HC0.out.2));clear hb4 HB0 HC0 aa
 go_wp2_with fail
 refine Calls.mono (HM.out w4 HB4.out) ?_;rintro e w5 ⟨rfl,hb5⟩;have H6:=(show Hid (Bl w w5/\_/\_)from⟨HB4.out.trans (hb5.mono HB4.out.size),below_blk hb5 HC4.out.1,below_blk hb5 HC4.out.2⟩);clear hb5 HB4 HC4 H5;have H5:=H6;clear H6
 go_upto_region 51 with fail
 have aa:=cells16 H5.out.2.1;have bb:=cells16 H5.out.2.2
 rcases Hn.out with hn | hn
 ·go_wp2_with fail
  go_ret
  exact⟨rfl,H5.out.1⟩
 ·have hn1:¬ n<0:=by omega
  have hn2:n > 9007199254740992:=hn
  go_wp2_with fail
  go_ret
  exact⟨rfl,H5.out.1⟩
end
section
theorem form7_4_ne (w:World) (sides:Int) (h:Int) (hh:0≤h/\h<sides) {F:Nat->Prop} (vs:List Val) (ps:Option Addr) (cs:Nat) (hv:SlAt w F (.slice ps vs.length cs) vs) (hwf:(listV vs).wf) (hmay:mayV (listV vs)=true) (hlen:vs.length≤512) (n:Int) (hn:0≤n/\n≤9007199254740992) (hn0:n≠0) :
 Calls Tryz.prog 81 #[.agg #[.int .u8 4,.int .i64 h,.int .u8 0,.int .i64 0,.string ⟨#[]⟩,.slice none 0 0,.int .i64 0,.slice ps vs.length cs,.int .i64 n,.int .i64 0,.int .i64 0,.int .i64 0,.int .u8 0,.bool false,.slice none 0 0,.slice none 0 0],.int .i64 sides] w fun e w'=>e=.returned (.bool false)/\Bl w w':=by
 have HM:Hid (∀ w',Bl w w'->Calls Tryz.prog 174 #[.agg #[.int .u8 3,.int .i64 0,.string ⟨#[]⟩,.slice ps vs.length cs,.int .i64 0]] w' fun e w''=>e=.returned (.bool true)/\Bl w' w''):=fun w' hb=>by have h:=may4_W (v:=listV vs) hwf (hv.on hb);rw [hmay]at h;exact h
 have hlz:¬ (vs.length:Int) > 512:=by omega
 clear hv hwf hmay hlen;have hh1:¬ h<0:=by omega
 have hh2:¬ h ≥ sides:=by omega
 clear hh;have hn1:¬ n<0:=by omega
 have hn2:¬ n > 9007199254740992:=by omega
 have hnb:(n==0)=false:=by simpa using hn0
 clear hn0;clear hn;have H5:=(show Hid _ from two_what w #[.int .u8 4,.int .i64 h,.int .u8 0,.int .i64 0,.string ⟨#[]⟩,.slice none 0 0,.int .i64 0,.slice ps vs.length cs,.int .i64 n,.int .i64 0,.int .i64 0,.int .i64 0,.int .u8 0,.bool false,.slice none 0 0,.slice none 0 0] (wr 4 h 0 0 0 0 0 0 0 false))
 go_enter Tryz.func81,Tryz.ntmps81
 have HB0:=(show Hid (Bl w ((w.alloc (.cells #[.int .u8 4,.int .i64 h,.int .u8 0,.int .i64 0,.string ⟨#[]⟩,.slice none 0 0,.int .i64 0,.slice ps vs.length cs,.int .i64 n,.int .i64 0,.int .i64 0,.int .i64 0,.int .u8 0,.bool false,.slice none 0 0,.slice none 0 0] 46)).alloc (.cells (wr 4 h 0 0 0 0 0 0 0 false) 46)))from(H5.out _ (.inl rfl)).1);have HC0:=(show Hid (_/\_)from(H5.out _ (.inl rfl)).2)
 go_upto_region 16 with fail
 revert HB0 HC0;generalize World.alloc (World.alloc w _) _=w3;intro HB0 HC0;have aa:=cells16 HC0.out.1
 go_wp2_with fail
 refine(list7_W w3 ps vs.length cs).mono ?_;rintro e w4 ⟨rfl,hb4⟩;have HB4:=(show Hid (Bl w w4)from HB0.out.trans (hb4.mono HB0.out.size));have HC4:=(show Hid (_/\_)from And.intro (below_blk hb4 HC0.out.1) (below_blk hb4 HC0.out.2));clear hb4 HB0 HC0 aa
 go_wp2_with fail
 refine Calls.mono (HM.out w4 HB4.out) ?_;rintro e w5 ⟨rfl,hb5⟩;have H6:=(show Hid (Bl w w5/\_/\_)from⟨HB4.out.trans (hb5.mono HB4.out.size),below_blk hb5 HC4.out.1,below_blk hb5 HC4.out.2⟩);clear hb5 HB4 HC4 H5;have H5:=H6;clear H6
 go_upto_region 51 with fail
 have aa:=cells16 H5.out.2.1;have bb:=cells16 H5.out.2.2
 go_wp2_with fail
 refine(may4_nil w5).mono ?_;rintro e w6 ⟨rfl,hb6⟩;have H6:=(show Hid (Bl w w6/\_/\_)from⟨H5.out.1.trans (hb6.mono H5.out.1.size),below_blk hb6 H5.out.2.1,below_blk hb6 H5.out.2.2⟩);clear hb6 H5;clear aa bb;have aa:=cells16 H6.out.2.1;have bb:=cells16 H6.out.2.2
 go_wp2_with fail
 refine(same4_nil w6).mono ?_;rintro e w7 ⟨rfl,hb7⟩;have H7:=(show Hid (Bl w w7/\_/\_)from⟨H6.out.1.trans (hb7.mono H6.out.1.size),below_blk hb7 H6.out.2.1,below_blk hb7 H6.out.2.2⟩);clear hb7 H6;clear aa bb;have aa:=cells16 H7.out.2.1;have bb:=cells16 H7.out.2.2
 go_wp2_with fail
 all_goals
  go_ret
  exact⟨rfl,H7.out.1⟩
end
section
theorem form7_4_out (w:World) (sides:Int) (h:Int) (hh:0≤h/\h<sides) {F:Nat->Prop} (vs:List Val) (ps:Option Addr) (cs:Nat) (hv:SlAt w F (.slice ps vs.length cs) vs) (hwf:(listV vs).wf) (hmay:mayV (listV vs)=true) (hlen:vs.length≤512) (n:Int) (hn:n<0\/9007199254740992<n) :
 Calls Tryz.prog 81 #[.agg #[.int .u8 4,.int .i64 h,.int .u8 0,.int .i64 0,.string ⟨#[]⟩,.slice none 0 0,.int .i64 0,.slice ps vs.length cs,.int .i64 n,.int .i64 0,.int .i64 0,.int .i64 0,.int .u8 0,.bool false,.slice none 0 0,.slice none 0 0],.int .i64 sides] w fun e w'=>e=.returned (.bool false)/\Bl w w':=by
 have HM:Hid (∀ w',Bl w w'->Calls Tryz.prog 174 #[.agg #[.int .u8 3,.int .i64 0,.string ⟨#[]⟩,.slice ps vs.length cs,.int .i64 0]] w' fun e w''=>e=.returned (.bool true)/\Bl w' w''):=fun w' hb=>by have h:=may4_W (v:=listV vs) hwf (hv.on hb);rw [hmay]at h;exact h
 have hlz:¬ (vs.length:Int) > 512:=by omega
 clear hv hwf hmay hlen;have hh1:¬ h<0:=by omega
 have hh2:¬ h ≥ sides:=by omega
 clear hh;have Hn:=(show Hid _ from hn);clear hn;have H5:=(show Hid _ from two_what w #[.int .u8 4,.int .i64 h,.int .u8 0,.int .i64 0,.string ⟨#[]⟩,.slice none 0 0,.int .i64 0,.slice ps vs.length cs,.int .i64 n,.int .i64 0,.int .i64 0,.int .i64 0,.int .u8 0,.bool false,.slice none 0 0,.slice none 0 0] (wr 4 h 0 0 0 0 0 0 0 false))
 go_enter Tryz.func81,Tryz.ntmps81
 have HB0:=(show Hid (Bl w ((w.alloc (.cells #[.int .u8 4,.int .i64 h,.int .u8 0,.int .i64 0,.string ⟨#[]⟩,.slice none 0 0,.int .i64 0,.slice ps vs.length cs,.int .i64 n,.int .i64 0,.int .i64 0,.int .i64 0,.int .u8 0,.bool false,.slice none 0 0,.slice none 0 0] 46)).alloc (.cells (wr 4 h 0 0 0 0 0 0 0 false) 46)))from(H5.out _ (.inl rfl)).1);have HC0:=(show Hid (_/\_)from(H5.out _ (.inl rfl)).2)
 go_upto_region 16 with fail
 revert HB0 HC0;generalize World.alloc (World.alloc w _) _=w3;intro HB0 HC0;have aa:=cells16 HC0.out.1
 go_wp2_with fail
 refine(list7_W w3 ps vs.length cs).mono ?_;rintro e w4 ⟨rfl,hb4⟩;have HB4:=(show Hid (Bl w w4)from HB0.out.trans (hb4.mono HB0.out.size));have HC4:=(show Hid (_/\_)from And.intro (below_blk hb4 HC0.out.1) (below_blk hb4 HC0.out.2));clear hb4 HB0 HC0 aa
 go_wp2_with fail
 refine Calls.mono (HM.out w4 HB4.out) ?_;rintro e w5 ⟨rfl,hb5⟩;have H6:=(show Hid (Bl w w5/\_/\_)from⟨HB4.out.trans (hb5.mono HB4.out.size),below_blk hb5 HC4.out.1,below_blk hb5 HC4.out.2⟩);clear hb5 HB4 HC4 H5;have H5:=H6;clear H6
 go_upto_region 51 with fail
 have aa:=cells16 H5.out.2.1;have bb:=cells16 H5.out.2.2
 rcases Hn.out with hn | hn
 ·go_wp2_with fail
  go_ret
  exact⟨rfl,H5.out.1⟩
 ·have hn1:¬ n<0:=by omega
  have hn2:n > 9007199254740992:=hn
  go_wp2_with fail
  go_ret
  exact⟨rfl,H5.out.1⟩
end
section
theorem form7_5_ne (w:World) (sides:Int) (h:Int) (hh:0≤h/\h<sides) (n:Int) (hn:0≤n/\n≤9007199254740992) (hn0:n≠0) :
 Calls Tryz.prog 81 #[.agg (wr 5 h 0 0 n 0 0 0 0 false),.int .i64 sides] w fun e w'=>e=.returned (.bool false)/\Bl w w':=by
 have hh1:¬ h<0:=by omega
 have hh2:¬ h ≥ sides:=by omega
 clear hh;have hn1:¬ n<0:=by omega
 have hn2:¬ n > 9007199254740992:=by omega
 have hnb:(n==0)=false:=by simpa using hn0
 clear hn0;clear hn;have H5:=(show Hid _ from two_what w (wr 5 h 0 0 n 0 0 0 0 false) (wr 5 h 0 0 0 0 0 0 0 false))
 go_enter Tryz.func81,Tryz.ntmps81
 go_upto_region 51 with fail
 have H5:=(show Hid (_/\_/\_)from H5.out _ (.inl rfl));revert H5;generalize World.alloc (World.alloc w _) _=w5;intro H5;have aa:=cells16 H5.out.2.1;have bb:=cells16 H5.out.2.2
 go_wp2_with fail
 refine(may4_nil w5).mono ?_;rintro e w6 ⟨rfl,hb6⟩;have H6:=(show Hid (Bl w w6/\_/\_)from⟨H5.out.1.trans (hb6.mono H5.out.1.size),below_blk hb6 H5.out.2.1,below_blk hb6 H5.out.2.2⟩);clear hb6 H5;clear aa bb;have aa:=cells16 H6.out.2.1;have bb:=cells16 H6.out.2.2
 go_wp2_with fail
 refine(same4_nil w6).mono ?_;rintro e w7 ⟨rfl,hb7⟩;have H7:=(show Hid (Bl w w7/\_/\_)from⟨H6.out.1.trans (hb7.mono H6.out.1.size),below_blk hb7 H6.out.2.1,below_blk hb7 H6.out.2.2⟩);clear hb7 H6;clear aa bb;have aa:=cells16 H7.out.2.1;have bb:=cells16 H7.out.2.2
 go_wp2_with fail
 all_goals
  go_ret
  exact⟨rfl,H7.out.1⟩
end
section
theorem form7_5_out (w:World) (sides:Int) (h:Int) (hh:0≤h/\h<sides) (n:Int) (hn:n<0\/9007199254740992<n) :
 Calls Tryz.prog 81 #[.agg (wr 5 h 0 0 n 0 0 0 0 false),.int .i64 sides] w fun e w'=>e=.returned (.bool false)/\Bl w w':=by
 have hh1:¬ h<0:=by omega
 have hh2:¬ h ≥ sides:=by omega
 clear hh;have Hn:=(show Hid _ from hn);clear hn;have H5:=(show Hid _ from two_what w (wr 5 h 0 0 n 0 0 0 0 false) (wr 5 h 0 0 0 0 0 0 0 false))
 go_enter Tryz.func81,Tryz.ntmps81
 go_upto_region 51 with fail
 have H5:=(show Hid (_/\_/\_)from H5.out _ (.inl rfl));revert H5;generalize World.alloc (World.alloc w _) _=w5;intro H5;have aa:=cells16 H5.out.2.1;have bb:=cells16 H5.out.2.2
 rcases Hn.out with hn | hn
 ·go_wp2_with fail
  go_ret
  exact⟨rfl,H5.out.1⟩
 ·have hn1:¬ n<0:=by omega
  have hn2:n > 9007199254740992:=hn
  go_wp2_with fail
  go_ret
  exact⟨rfl,H5.out.1⟩
end
section
theorem form7_10_ne (w:World) (sides:Int) (h:Int) (hh:0≤h/\h<sides) (n:Int) (hn:0≤n/\n≤9007199254740992) (hn0:n≠0) :
 Calls Tryz.prog 81 #[.agg (wr 10 h 0 0 n 0 0 0 0 false),.int .i64 sides] w fun e w'=>e=.returned (.bool false)/\Bl w w':=by
 have hh1:¬ h<0:=by omega
 have hh2:¬ h ≥ sides:=by omega
 clear hh;have hn1:¬ n<0:=by omega
 have hn2:¬ n > 9007199254740992:=by omega
 have hnb:(n==0)=false:=by simpa using hn0
 clear hn0;clear hn;have H5:=(show Hid _ from two_what w (wr 10 h 0 0 n 0 0 0 0 false) (wr 10 h 0 0 0 0 0 0 0 false))
 go_enter Tryz.func81,Tryz.ntmps81
 go_upto_region 32 with fail
 go_cut [] (fun wx=>Hid (Bl w wx/\wx.heap[w.heap.size]? = some (.cells (wr 10 h 0 0 n 0 0 0 0 false) 46 (0,0))/\wx.heap[w.heap.size+1]? = some (.cells (wr 10 h 0 0 0 0 0 0 0 false) 46 (0,0))))
 case first =>
  go_region
  all_goals
   go_wp2_with fail
   go_meet
   case rel=>first | exact H5.out _ (.inr rfl) | exact H5.out _ (.inl rfl)
 have H5:=hcut;clear hcut;generalize wc=w5 at *;have aa:=cells16 H5.out.2.1;have bb:=cells16 H5.out.2.2
 go_upto_region 51 with fail
 clear aa bb;have aa:=cells16 H5.out.2.1;have bb:=cells16 H5.out.2.2
 go_wp2_with fail
 refine(may4_nil w5).mono ?_;rintro e w6 ⟨rfl,hb6⟩;have H6:=(show Hid (Bl w w6/\_/\_)from⟨H5.out.1.trans (hb6.mono H5.out.1.size),below_blk hb6 H5.out.2.1,below_blk hb6 H5.out.2.2⟩);clear hb6 H5;clear aa bb;have aa:=cells16 H6.out.2.1;have bb:=cells16 H6.out.2.2
 go_wp2_with fail
 refine(same4_nil w6).mono ?_;rintro e w7 ⟨rfl,hb7⟩;have H7:=(show Hid (Bl w w7/\_/\_)from⟨H6.out.1.trans (hb7.mono H6.out.1.size),below_blk hb7 H6.out.2.1,below_blk hb7 H6.out.2.2⟩);clear hb7 H6;clear aa bb;have aa:=cells16 H7.out.2.1;have bb:=cells16 H7.out.2.2
 go_wp2_with fail
 all_goals
  go_ret
  exact⟨rfl,H7.out.1⟩
end
end Go.Proofs.YthaliljaglldjaaGreat
