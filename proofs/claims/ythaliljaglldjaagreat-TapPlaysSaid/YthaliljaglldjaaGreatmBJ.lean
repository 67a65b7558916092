/- Part of the proof. -/
import Derived.Test.YthaliljaglldjaaGreatmAS
namespace Go.Proofs.YthaliljaglldjaaGreat
set_option maxHeartbeats 16000000
set_option maxRecDepth 20000
open Go.RowKit Go.ChangeMaps Go.MapKept
section
variable {w:World} {p:Nat} {M:WM} {F:Nat->Prop}
theorem formno_3 (hW:IsW w p M F) (h n:Int) (hs:sideB M h=true) (hn:n<0\/9007199254740992<n):Calls Tryz.prog 74 #[.pointer (some ⟨p,0,none⟩),.agg (wr 3 h 0 0 n 0 0 0 0 false)] w fun e w'=>e=.returned (.bool false)/\Below w.heap.size w w':=by
 have hV:∀ w:World,Calls Tryz.prog 161 #[.agg #[.int .u8 0,.int .i64 0,.string ⟨#[]⟩,.slice none 0 0,.int .i64 0]] w fun e w'=>e=.returned (.bool true)/\Below w.heap.size w w':=fun w=>vMay_W w 0 0 (.inl ⟨rfl,rfl⟩);have HN:=(show Hid (n<0\/9007199254740992<n)from hn);clear hn
 go_enter Tryz.func74,Tryz.ntmps74
 go_wp2_with fail
 refine(bare_3 _ h 0 0 n 0 0 0 0 0 ⟨#[]⟩ false none none none none 0 0 0 0 0 0 0 0).mono ?_;rintro e w1 ⟨rfl,hb1⟩;have B1:=below_blk hb1 (blk_new _ _);have aa:=cells16 B1;have hz1:w.heap.size<w1.heap.size:=by have:=hb1.size;simp at this;omega
 have HB1:Hid (Below w.heap.size w w1):=((Below.refl _ _).alloc (Nat.le_refl _) _).trans (hb1.mono (by simp;try omega));clear hb1
 go_wp2_with fail
 refine(blank0_W _).mono ?_;rintro e w2 ⟨rfl,hb2⟩;have B2:=below_blk hb2 (blk_old _ _ B1);clear aa;have aa:=cells16 B2;have hz2:w.heap.size<w2.heap.size:=by have:=hb2.size;simp at this;omega
 have HB2:Hid (Below w.heap.size w w2):=(HB1.out.alloc (by first | omega | (simp;try omega)) _).trans (hb2.mono (by first | omega | (simp;try omega)));clear hb2 B1 HB1 hz1
 go_wp2_with fail
 refine(blank0_W _).mono ?_;rintro e w3 ⟨rfl,hb3⟩;have B3:=below_blk hb3 B2;clear aa;have aa:=cells16 B3;have hz3:w.heap.size<w3.heap.size:=by have:=hb3.size;omega
 have HB3:Hid (Below w.heap.size w w3):=HB2.out.trans (hb3.mono (by first | omega | (simp;try omega)));clear hb3 B2 HB2 hz2
 go_wp2_with fail
 refine(side_W (hW.below HB3.out) h).mono ?_;rw [hs];rintro e _ ⟨rfl,rfl⟩
 go_wp2_with fail
 refine(hV _).mono ?_;rintro e w4 ⟨rfl,hb4⟩;have B4:=below_blk hb4 B3;clear aa;have aa:=cells16 B4;have hz4:w.heap.size<w4.heap.size:=by have:=hb4.size;omega
 have HB4:Hid (Below w.heap.size w w4):=HB3.out.trans (hb4.mono (by first | omega | (simp;try omega)));clear hb4 B3 HB3 hz3
 go_wp2_with fail
 refine(vOf_W _).mono ?_;rintro e w5 ⟨rfl,hb5⟩;have B5:=below_blk hb5 B4;clear aa;have aa:=cells16 B5;have hz5:w.heap.size<w5.heap.size:=by have:=hb5.size;omega
 have HB5:Hid (Below w.heap.size w w5):=HB4.out.trans (hb5.mono (by first | omega | (simp;try omega)));clear hb5 B4 HB4 hz4
 go_wp2_with fail
 by_cases t0:n<0
 ·have t1:¬ (n ≥ 0):=by omega
  go_rounds 1
  have hB:=HB5.out;have hZ:w.heap.size≤w5.heap.size:=by omega
  go_ret
  exact⟨rfl,by go_grown⟩
 have t1:n ≥ 0:=by omega
 by_cases t2:n≤9007199254740992
 ·have:=HN.out;omega
 go_rounds 1
 have hB:=HB5.out;have hZ:w.heap.size≤w5.heap.size:=by omega
 go_ret
 exact⟨rfl,by go_grown⟩
theorem formno_8 (hW:IsW w p M F) (h n l:Int) (hs:sideB M h=true) (hn:n<0\/9007199254740992<n\/n<l) (hl:0≤l):Calls Tryz.prog 74 #[.pointer (some ⟨p,0,none⟩),.agg (wr 8 h 0 0 n l 0 0 0 false)] w fun e w'=>e=.returned (.bool false)/\Below w.heap.size w w':=by
 have hV:∀ w:World,Calls Tryz.prog 161 #[.agg #[.int .u8 0,.int .i64 0,.string ⟨#[]⟩,.slice none 0 0,.int .i64 0]] w fun e w'=>e=.returned (.bool true)/\Below w.heap.size w w':=fun w=>vMay_W w 0 0 (.inl ⟨rfl,rfl⟩);have HN:=(show Hid (n<0\/9007199254740992<n\/n<l)from hn);have HL:=(show Hid (0≤l)from hl);clear hl;clear hn
 go_enter Tryz.func74,Tryz.ntmps74
 go_wp2_with fail
 refine(bare_8 _ h 0 0 n l 0 0 0 0 ⟨#[]⟩ false none none none none 0 0 0 0 0 0 0 0).mono ?_;rintro e w1 ⟨rfl,hb1⟩;have B1:=below_blk hb1 (blk_new _ _);have aa:=cells16 B1;have hz1:w.heap.size<w1.heap.size:=by have:=hb1.size;simp at this;omega
 have HB1:Hid (Below w.heap.size w w1):=((Below.refl _ _).alloc (Nat.le_refl _) _).trans (hb1.mono (by simp;try omega));clear hb1
 go_wp2_with fail
 refine(blank0_W _).mono ?_;rintro e w2 ⟨rfl,hb2⟩;have B2:=below_blk hb2 (blk_old _ _ B1);clear aa;have aa:=cells16 B2;have hz2:w.heap.size<w2.heap.size:=by have:=hb2.size;simp at this;omega
 have HB2:Hid (Below w.heap.size w w2):=(HB1.out.alloc (by first | omega | (simp;try omega)) _).trans (hb2.mono (by first | omega | (simp;try omega)));clear hb2 B1 HB1 hz1
 go_wp2_with fail
 refine(blank0_W _).mono ?_;rintro e w3 ⟨rfl,hb3⟩;have B3:=below_blk hb3 B2;clear aa;have aa:=cells16 B3;have hz3:w.heap.size<w3.heap.size:=by have:=hb3.size;omega
 have HB3:Hid (Below w.heap.size w w3):=HB2.out.trans (hb3.mono (by first | omega | (simp;try omega)));clear hb3 B2 HB2 hz2
 go_wp2_with fail
 refine(side_W (hW.below HB3.out) h).mono ?_;rw [hs];rintro e _ ⟨rfl,rfl⟩
 go_wp2_with fail
 refine(hV _).mono ?_;rintro e w4 ⟨rfl,hb4⟩;have B4:=below_blk hb4 B3;clear aa;have aa:=cells16 B4;have hz4:w.heap.size<w4.heap.size:=by have:=hb4.size;omega
 have HB4:Hid (Below w.heap.size w w4):=HB3.out.trans (hb4.mono (by first | omega | (simp;try omega)));clear hb4 B3 HB3 hz3
 go_wp2_with fail
 refine(vOf_W _).mono ?_;rintro e w5 ⟨rfl,hb5⟩;have B5:=below_blk hb5 B4;clear aa;have aa:=cells16 B5;have hz5:w.heap.size<w5.heap.size:=by have:=hb5.size;omega
 have HB5:Hid (Below w.heap.size w w5):=HB4.out.trans (hb5.mono (by first | omega | (simp;try omega)));clear hb5 B4 HB4 hz4
 go_wp2_with fail
 by_cases t0:n<0
 ·have t1:¬ (n ≥ 0):=by omega
  go_rounds 1
  have hB:=HB5.out;have hZ:w.heap.size≤w5.heap.size:=by omega
  go_ret
  exact⟨rfl,by go_grown⟩
 have t1:n ≥ 0:=by omega
 by_cases t2:n≤9007199254740992
 ·have t3:l ≥ 0:=HL.out;have t4:¬ (l≤n):=by have:=HN.out;omega
  go_rounds 1
  have hB:=HB5.out;have hZ:w.heap.size≤w5.heap.size:=by omega
  go_ret
  exact⟨rfl,by go_grown⟩
 go_rounds 1
 have hB:=HB5.out;have hZ:w.heap.size≤w5.heap.size:=by omega
 go_ret
 exact⟨rfl,by go_grown⟩
end
section
variable {w:World} {p:Nat} {M:WM} {F:Nat->Prop}
end
section
theorem form7_1 (w:World) (sides:Int) (h:Int) (hh:0≤h/\h<sides) {F:Nat->Prop} (v:Val) (pv:Option Addr) (cv:Nat) (hv:SlAt w F (.slice pv v.l.length cv) v.l) (hwf:v.wf) (hmay:mayV v=true) :
 Calls Tryz.prog 81 #[.agg #[.int .u8 1,.int .i64 h,.int .u8 v.kind,.int .i64 v.n,.string v.s,.slice pv v.l.length cv,.int .i64 v.r,.slice none 0 0,.int .i64 0,.int .i64 0,.int .i64 0,.int .i64 0,.int .u8 0,.bool false,.slice none 0 0,.slice none 0 0],.int .i64 sides] w fun e w'=>e=.returned (.bool true)/\Bl w w':=by
 have HM:Hid (∀ w',Bl w w'->Calls Tryz.prog 174 #[.agg #[.int .u8 v.kind,.int .i64 v.n,.string v.s,.slice pv v.l.length cv,.int .i64 v.r]] w' fun e w''=>e=.returned (.bool true)/\Bl w' w''):=fun w' hb=>by have h:=may4_W hwf (hv.on hb);rw [hmay]at h;exact h
 have HS:Hid (∀ w',Bl w w'->Calls Tryz.prog 178 #[.agg #[.int .u8 v.kind,.int .i64 v.n,.string v.s,.slice pv v.l.length cv,.int .i64 v.r],.agg #[.int .u8 v.kind,.int .i64 v.n,.string v.s,.slice pv v.l.length cv,.int .i64 v.r]] w' fun e w''=>e=.returned (.bool true)/\Bl w' w''):=fun w' hb=>(same4_G v hwf v (.slice pv v.l.length cv) (.slice pv v.l.length cv) w' F F (hv.on hb) (hv.on hb)).mono fun e w'' ⟨B,h1,h2,h3⟩=>by rw [h2.2 rfl]at h1;exact⟨h1,h3⟩
 obtain⟨vk,vn,vstr,vl,vr⟩:=v;clear hv hwf hmay;simp only at HM HS ⊢;have hh1:¬ h<0:=by omega
 have hh2:¬ h ≥ sides:=by omega
 clear hh;have H5:=(show Hid _ from two_what w #[.int .u8 1,.int .i64 h,.int .u8 vk,.int .i64 vn,.string vstr,.slice pv vl.length cv,.int .i64 vr,.slice none 0 0,.int .i64 0,.int .i64 0,.int .i64 0,.int .i64 0,.int .u8 0,.bool false,.slice none 0 0,.slice none 0 0] #[.int .u8 1,.int .i64 h,.int .u8 vk,.int .i64 vn,.string vstr,.slice pv vl.length cv,.int .i64 vr,.slice none 0 0,.int .i64 0,.int .i64 0,.int .i64 0,.int .i64 0,.int .u8 0,.bool false,.slice none 0 0,.slice none 0 0])
 go_enter Tryz.func81,Tryz.ntmps81
 go_upto_region 51 with fail
 have H5:=(show Hid (_/\_/\_)from H5.out _ (.inl rfl));revert H5;generalize World.alloc (World.alloc w _) _=w5;intro H5;have aa:=cells16 H5.out.2.1;have bb:=cells16 H5.out.2.2
 go_wp2_with fail
 refine Calls.mono (HM.out w5 H5.out.1) ?_;rintro e w6 ⟨rfl,hb6⟩;have H6:=(show Hid (Bl w w6/\_/\_)from⟨H5.out.1.trans (hb6.mono H5.out.1.size),below_blk hb6 H5.out.2.1,below_blk hb6 H5.out.2.2⟩);clear hb6 H5;clear aa bb;have aa:=cells16 H6.out.2.1;have bb:=cells16 H6.out.2.2
 go_wp2_with fail
 refine Calls.mono (HS.out w6 H6.out.1) ?_;rintro e w7 ⟨rfl,hb7⟩;have H7:=(show Hid (Bl w w7/\_/\_)from⟨H6.out.1.trans (hb7.mono H6.out.1.size),below_blk hb7 H6.out.2.1,below_blk hb7 H6.out.2.2⟩);clear hb7 H6;clear aa bb;have aa:=cells16 H7.out.2.1;have bb:=cells16 H7.out.2.2
 go_wp2_with fail
 go_ret
 exact⟨rfl,H7.out.1⟩
end
section
theorem form7_2 (w:World) (sides:Int) (h:Int) (hh:0≤h/\h<sides) {F:Nat->Prop} (vs:List Val) (ps:Option Addr) (cs:Nat) (hv:SlAt w F (.slice ps vs.length cs) vs) (hwf:(listV vs).wf) (hmay:mayV (listV vs)=true) (hlen:vs.length≤512) :
 Calls Tryz.prog 81 #[.agg #[.int .u8 2,.int .i64 h,.int .u8 0,.int .i64 0,.string ⟨#[]⟩,.slice none 0 0,.int .i64 0,.slice ps vs.length cs,.int .i64 0,.int .i64 0,.int .i64 0,.int .i64 0,.int .u8 0,.bool false,.slice none 0 0,.slice none 0 0],.int .i64 sides] w fun e w'=>e=.returned (.bool true)/\Bl w w':=by
 have HM:Hid (∀ w',Bl w w'->Calls Tryz.prog 174 #[.agg #[.int .u8 3,.int .i64 0,.string ⟨#[]⟩,.slice ps vs.length cs,.int .i64 0]] w' fun e w''=>e=.returned (.bool true)/\Bl w' w''):=fun w' hb=>by have h:=may4_W (v:=listV vs) hwf (hv.on hb);rw [hmay]at h;exact h
 have hlz:¬ (vs.length:Int) > 512:=by omega
 clear hv hwf hmay hlen;have hh1:¬ h<0:=by omega
 have hh2:¬ h ≥ sides:=by omega
 clear hh;have H5:=(show Hid _ from two_what w #[.int .u8 2,.int .i64 h,.int .u8 0,.int .i64 0,.string ⟨#[]⟩,.slice none 0 0,.int .i64 0,.slice ps vs.length cs,.int .i64 0,.int .i64 0,.int .i64 0,.int .i64 0,.int .u8 0,.bool false,.slice none 0 0,.slice none 0 0] (wr 2 h 0 0 0 0 0 0 0 false))
 go_enter Tryz.func81,Tryz.ntmps81
 have HB0:=(show Hid (Bl w ((w.alloc (.cells #[.int .u8 2,.int .i64 h,.int .u8 0,.int .i64 0,.string ⟨#[]⟩,.slice none 0 0,.int .i64 0,.slice ps vs.length cs,.int .i64 0,.int .i64 0,.int .i64 0,.int .i64 0,.int .u8 0,.bool false,.slice none 0 0,.slice none 0 0] 46)).alloc (.cells (wr 2 h 0 0 0 0 0 0 0 false) 46)))from(H5.out _ (.inl rfl)).1);have HC0:=(show Hid (_/\_)from(H5.out _ (.inl rfl)).2)
 go_upto_region 16 with fail
 revert HB0 HC0;generalize World.alloc (World.alloc w _) _=w3;intro HB0 HC0;have aa:=cells16 HC0.out.1
 go_wp2_with fail
 refine(list7_W w3 ps vs.length cs).mono ?_;rintro e w4 ⟨rfl,hb4⟩;have HB4:=(show Hid (Bl w w4)from HB0.out.trans (hb4.mono HB0.out.size));have HC4:=(show Hid (_/\_)from And.intro (below_blk hb4 HC0.out.1) (below_blk hb4 HC0.out.2));clear hb4 HB0 HC0 aa
 go_wp2_with fail
 refine Calls.mono (HM.out w4 HB4.out) ?_;rintro e w5 ⟨rfl,hb5⟩;have H6:=(show Hid (Bl w w5/\_/\_)from⟨HB4.out.trans (hb5.mono HB4.out.size),below_blk hb5 HC4.out.1,below_blk hb5 HC4.out.2⟩);clear hb5 HB4 HC4 H5;have H5:=H6;clear H6
 go_upto_region 51 with fail
 have aa:=cells16 H5.out.2.1;have bb:=cells16 H5.out.2.2
 go_wp2_with fail
 refine(may4_nil w5).mono ?_;rintro e w6 ⟨rfl,hb6⟩;have H6:=(show Hid (Bl w w6/\_/\_)from⟨H5.out.1.trans (hb6.mono H5.out.1.size),below_blk hb6 H5.out.2.1,below_blk hb6 H5.out.2.2⟩);clear hb6 H5;clear aa bb;have aa:=cells16 H6.out.2.1;have bb:=cells16 H6.out.2.2
 go_wp2_with fail
 refine(same4_nil w6).mono ?_;rintro e w7 ⟨rfl,hb7⟩;have H7:=(show Hid (Bl w w7/\_/\_)from⟨H6.out.1.trans (hb7.mono H6.out.1.size),below_blk hb7 H6.out.2.1,below_blk hb7 H6.out.2.2⟩);clear hb7 H6;clear aa bb;have aa:=cells16 H7.out.2.1;have bb:=cells16 H7.out.2.2
 go_wp2_with fail
 go_ret
 exact⟨rfl,H7.out.1⟩
end
section
theorem form7_3 (w:World) (sides:Int) (h:Int) (hh:0≤h/\h<sides) (n:Int) (hn:0≤n/\n≤9007199254740992) :
 Calls Tryz.prog 81 #[.agg (wr 3 h 0 0 n 0 0 0 0 false),.int .i64 sides] w fun e w'=>e=.returned (.bool true)/\Bl w w':=by
 have hh1:¬ h<0:=by omega
 have hh2:¬ h ≥ sides:=by omega
 clear hh;have hn1:¬ n<0:=by omega
 have hn2:¬ n > 9007199254740992:=by omega
 clear hn;have H5:=(show Hid _ from two_what w (wr 3 h 0 0 n 0 0 0 0 false) (wr 3 h 0 0 n 0 0 0 0 false))
 go_enter Tryz.func81,Tryz.ntmps81
 go_upto_region 51 with fail
 have H5:=(show Hid (_/\_/\_)from H5.out _ (.inl rfl));revert H5;generalize World.alloc (World.alloc w _) _=w5;intro H5;have aa:=cells16 H5.out.2.1;have bb:=cells16 H5.out.2.2
 go_wp2_with fail
 refine(may4_nil w5).mono ?_;rintro e w6 ⟨rfl,hb6⟩;have H6:=(show Hid (Bl w w6/\_/\_)from⟨H5.out.1.trans (hb6.mono H5.out.1.size),below_blk hb6 H5.out.2.1,below_blk hb6 H5.out.2.2⟩);clear hb6 H5;clear aa bb;have aa:=cells16 H6.out.2.1;have bb:=cells16 H6.out.2.2
 go_wp2_with fail
 refine(same4_nil w6).mono ?_;rintro e w7 ⟨rfl,hb7⟩;have H7:=(show Hid (Bl w w7/\_/\_)from⟨H6.out.1.trans (hb7.mono H6.out.1.size),below_blk hb7 H6.out.2.1,below_blk hb7 H6.out.2.2⟩);clear hb7 H6;clear aa bb;have aa:=cells16 H7.out.2.1;have bb:=cells16 H7.out.2.2
 go_wp2_with fail
 go_ret
 exact⟨rfl,H7.out.1⟩
end
section
theorem form7_4 (w:World) (sides:Int) (h:Int) (hh:0≤h/\h<sides) {F:Nat->Prop} (vs:List Val) (ps:Option Addr) (cs:Nat) (hv:SlAt w F (.slice ps vs.length cs) vs) (hwf:(listV vs).wf) (hmay:mayV (listV vs)=true) (hlen:vs.length≤512) :
 Calls Tryz.prog 81 #[.agg #[.int .u8 4,.int .i64 h,.int .u8 0,.int .i64 0,.string ⟨#[]⟩,.slice none 0 0,.int .i64 0,.slice ps vs.length cs,.int .i64 0,.int .i64 0,.int .i64 0,.int .i64 0,.int .u8 0,.bool false,.slice none 0 0,.slice none 0 0],.int .i64 sides] w fun e w'=>e=.returned (.bool true)/\Bl w w':=by
 have HM:Hid (∀ w',Bl w w'->Calls Tryz.prog 174 #[.agg #[.int .u8 3,.int .i64 0,.string ⟨#[]⟩,.slice ps vs.length cs,.int .i64 0]] w' fun e w''=>e=.returned (.bool true)/\Bl w' w''):=fun w' hb=>by have h:=may4_W (v:=listV vs) hwf (hv.on hb);rw [hmay]at h;exact h
 have hlz:¬ (vs.length:Int) > 512:=by omega
 clear hv hwf hmay hlen;have hh1:¬ h<0:=by omega
 have hh2:¬ h ≥ sides:=by omega
 clear hh;have H5:=(show Hid _ from two_what w #[.int .u8 4,.int .i64 h,.int .u8 0,.int .i64 0,.string ⟨#[]⟩,.slice none 0 0,.int .i64 0,.slice ps vs.length cs,.int .i64 0,.int .i64 0,.int .i64 0,.int .i64 0,.int .u8 0,.bool false,.slice none 0 0,.slice none 0 0] (wr 4 h 0 0 0 0 0 0 0 false))
 go_enter Tryz.func81,Tryz.ntmps81
 have HB0:=(show Hid (Bl w ((w.alloc (.cells #[.int .u8 4,.int .i64 h,.int .u8 0,.int .i64 0,.string ⟨#[]⟩,.slice none 0 0,.int .i64 0,.slice ps vs.length cs,.int .i64 0,.int .i64 0,.int .i64 0,.int .i64 0,.int .u8 0,.bool false,.slice none 0 0,.slice none 0 0] 46)).alloc (.cells (wr 4 h 0 0 0 0 0 0 0 false) 46)))from(H5.out _ (.inl rfl)).1);have HC0:=(show Hid (_/\_)from(H5.out _ (.inl rfl)).2)
 go_upto_region 16 with fail
 revert HB0 HC0;generalize World.alloc (World.alloc w _) _=w3;intro HB0 HC0;have aa:=cells16 HC0.out.1
 go_wp2_with fail
 refine(list7_W w3 ps vs.length cs).mono ?_;rintro e w4 ⟨rfl,hb4⟩;have HB4:=(show Hid (Bl w w4)from HB0.out.trans (hb4.mono HB0.out.size));have HC4:=(show Hid (_/\_)from And.intro (below_blk hb4 HC0.out.1) (below_blk hb4 HC0.out.2));clear hb4 HB0 HC0 aa
 go_wp2_with fail
 refine Calls.mono (HM.out w4 HB4.out) ?_;rintro e w5 ⟨rfl,hb5⟩;have H6:=(show Hid (Bl w w5/\_/\_)from⟨HB4.out.trans (hb5.mono HB4.out.size),below_blk hb5 HC4.out.1,below_blk hb5 HC4.out.2⟩);clear hb5 HB4 HC4 H5;have H5:=H6;clear H6
 go_upto_region 51 with fail
 have aa:=cells16 H5.out.2.1;have bb:=cells16 H5.out.2.2
 go_wp2_with fail
 refine(may4_nil w5).mono ?_;rintro e w6 ⟨rfl,hb6⟩;have H6:=(show Hid (Bl w w6/\_/\_)from⟨H5.out.1.trans (hb6.mono H5.out.1.size),below_blk hb6 H5.out.2.1,below_blk hb6 H5.out.2.2⟩);clear hb6 H5;clear aa bb;have aa:=cells16 H6.out.2.1;have bb:=cells16 H6.out.2.2
 go_wp2_with fail
 refine(same4_nil w6).mono ?_;rintro e w7 ⟨rfl,hb7⟩;have H7:=(show Hid (Bl w w7/\_/\_)from⟨H6.out.1.trans (hb7.mono H6.out.1.size),below_blk hb7 H6.out.2.1,below_blk hb7 H6.out.2.2⟩);clear hb7 H6;clear aa bb;have aa:=cells16 H7.out.2.1;have bb:=cells16 H7.out.2.2
 go_wp2_with fail
 go_ret
 exact⟨rfl,H7.out.1⟩
end
section
theorem form7_5 (w:World) (sides:Int) (h:Int) (hh:0≤h/\h<sides) :
 Calls Tryz.prog 81 #[.agg (wr 5 h 0 0 0 0 0 0 0 false),.int .i64 sides] w fun e w'=>e=.returned (.bool true)/\Bl w w':=by
 have hh1:¬ h<0:=by omega
 have hh2:¬ h ≥ sides:=by omega
 clear hh;have H5:=(show Hid _ from two_what w (wr 5 h 0 0 0 0 0 0 0 false) (wr 5 h 0 0 0 0 0 0 0 false))
 go_enter Tryz.func81,Tryz.ntmps81
 go_upto_region 51 with fail
 have H5:=(show Hid (_/\_/\_)from H5.out _ (.inl rfl));revert H5;generalize World.alloc (World.alloc w _) _=w5;intro H5;have aa:=cells16 H5.out.2.1;have bb:=cells16 H5.out.2.2
 go_wp2_with fail
 refine(may4_nil w5).mono ?_;rintro e w6 ⟨rfl,hb6⟩;have H6:=(show Hid (Bl w w6/\_/\_)from⟨H5.out.1.trans (hb6.mono H5.out.1.size),below_blk hb6 H5.out.2.1,below_blk hb6 H5.out.2.2⟩);clear hb6 H5;clear aa bb;have aa:=cells16 H6.out.2.1;have bb:=cells16 H6.out.2.2
 go_wp2_with fail
 refine(same4_nil w6).mono ?_;rintro e w7 ⟨rfl,hb7⟩;have H7:=(show Hid (Bl w w7/\_/\_)from⟨H6.out.1.trans (hb7.mono H6.out.1.size),below_blk hb7 H6.out.2.1,below_blk hb7 H6.out.2.2⟩);clear hb7 H6;clear aa bb;have aa:=cells16 H7.out.2.1;have bb:=cells16 H7.out.2.2
 go_wp2_with fail
 go_ret
 exact⟨rfl,H7.out.1⟩
end
section
theorem form7_6 (w:World) (sides:Int) (h:Int) (hh:0≤h/\h<sides) (tg:Int) :
 Calls Tryz.prog 81 #[.agg (wr 6 h 0 0 0 0 tg 0 0 false),.int .i64 sides] w fun e w'=>e=.returned (.bool true)/\Bl w w':=by
 have hh1:¬ h<0:=by omega
 have hh2:¬ h ≥ sides:=by omega
 clear hh;have H5:=(show Hid _ from two_what w (wr 6 h 0 0 0 0 tg 0 0 false) (wr 6 h 0 0 0 0 tg 0 0 false))
 go_enter Tryz.func81,Tryz.ntmps81
 go_upto_region 51 with fail
 have H5:=(show Hid (_/\_/\_)from H5.out _ (.inl rfl));revert H5;generalize World.alloc (World.alloc w _) _=w5;intro H5;have aa:=cells16 H5.out.2.1;have bb:=cells16 H5.out.2.2
 go_wp2_with fail
 refine(may4_nil w5).mono ?_;rintro e w6 ⟨rfl,hb6⟩;have H6:=(show Hid (Bl w w6/\_/\_)from⟨H5.out.1.trans (hb6.mono H5.out.1.size),below_blk hb6 H5.out.2.1,below_blk hb6 H5.out.2.2⟩);clear hb6 H5;clear aa bb;have aa:=cells16 H6.out.2.1;have bb:=cells16 H6.out.2.2
 go_wp2_with fail
 refine(same4_nil w6).mono ?_;rintro e w7 ⟨rfl,hb7⟩;have H7:=(show Hid (Bl w w7/\_/\_)from⟨H6.out.1.trans (hb7.mono H6.out.1.size),below_blk hb7 H6.out.2.1,below_blk hb7 H6.out.2.2⟩);clear hb7 H6;clear aa bb;have aa:=cells16 H7.out.2.1;have bb:=cells16 H7.out.2.2
 go_wp2_with fail
 go_ret
 exact⟨rfl,H7.out.1⟩
end
section
theorem form7_7 (w:World) (sides:Int) (h:Int) (hh:0≤h/\h<sides) {F:Nat->Prop} (v:Val) (pv:Option Addr) (cv:Nat) (hv:SlAt w F (.slice pv v.l.length cv) v.l) (hwf:v.wf) (hmay:mayV v=true) (tg:Int) :
 Calls Tryz.prog 81 #[.agg #[.int .u8 7,.int .i64 h,.int .u8 v.kind,.int .i64 v.n,.string v.s,.slice pv v.l.length cv,.int .i64 v.r,.slice none 0 0,.int .i64 0,.int .i64 0,.int .i64 tg,.int .i64 0,.int .u8 0,.bool false,.slice none 0 0,.slice none 0 0],.int .i64 sides] w fun e w'=>e=.returned (.bool true)/\Bl w w':=by
 have HM:Hid (∀ w',Bl w w'->Calls Tryz.prog 174 #[.agg #[.int .u8 v.kind,.int .i64 v.n,.string v.s,.slice pv v.l.length cv,.int .i64 v.r]] w' fun e w''=>e=.returned (.bool true)/\Bl w' w''):=fun w' hb=>by have h:=may4_W hwf (hv.on hb);rw [hmay]at h;exact h
 have HS:Hid (∀ w',Bl w w'->Calls Tryz.prog 178 #[.agg #[.int .u8 v.kind,.int .i64 v.n,.string v.s,.slice pv v.l.length cv,.int .i64 v.r],.agg #[.int .u8 v.kind,.int .i64 v.n,.string v.s,.slice pv v.l.length cv,.int .i64 v.r]] w' fun e w''=>e=.returned (.bool true)/\Bl w' w''):=fun w' hb=>(same4_G v hwf v (.slice pv v.l.length cv) (.slice pv v.l.length cv) w' F F (hv.on hb) (hv.on hb)).mono fun e w'' ⟨B,h1,h2,h3⟩=>by rw [h2.2 rfl]at h1;exact⟨h1,h3⟩
 obtain⟨vk,vn,vstr,vl,vr⟩:=v;clear hv hwf hmay;simp only at HM HS ⊢;have hh1:¬ h<0:=by omega
 have hh2:¬ h ≥ sides:=by omega
 clear hh;have H5:=(show Hid _ from two_what w #[.int .u8 7,.int .i64 h,.int .u8 vk,.int .i64 vn,.string vstr,.slice pv vl.length cv,.int .i64 vr,.slice none 0 0,.int .i64 0,.int .i64 0,.int .i64 tg,.int .i64 0,.int .u8 0,.bool false,.slice none 0 0,.slice none 0 0] #[.int .u8 7,.int .i64 h,.int .u8 vk,.int .i64 vn,.string vstr,.slice pv vl.length cv,.int .i64 vr,.slice none 0 0,.int .i64 0,.int .i64 0,.int .i64 tg,.int .i64 0,.int .u8 0,.bool false,.slice none 0 0,.slice none 0 0])
 go_enter Tryz.func81,Tryz.ntmps81
 go_upto_block 0 with fail
 go_cut [7,8,9] (fun a7 a8 a9 wx=>a7=.bool false/\a8=.bool false/\a9=.bool false/\Hid (Bl w wx/\wx.heap[w.heap.size]? = some (.cells #[.int .u8 7,.int .i64 h,.int .u8 vk,.int .i64 vn,.string vstr,.slice pv vl.length cv,.int .i64 vr,.slice none 0 0,.int .i64 0,.int .i64 0,.int .i64 tg,.int .i64 0,.int .u8 0,.bool false,.slice none 0 0,.slice none 0 0] 46 (0,0))/\wx.heap[w.heap.size+1]? = some (.cells #[.int .u8 7,.int .i64 h,.int .u8 vk,.int .i64 vn,.string vstr,.slice pv vl.length cv,.int .i64 vr,.slice none 0 0,.int .i64 0,.int .i64 0,.int .i64 tg,.int .i64 0,.int .u8 0,.bool false,.slice none 0 0,.slice none 0 0] 46 (0,0))))
 case first =>
  go_upto_region 24 with fail
  go_region
  all_goals
   go_wp2_with fail
   go_meet
   case rel=>first | exact⟨rfl,rfl,rfl,H5.out _ (.inr rfl)⟩ | exact⟨rfl,rfl,rfl,H5.out _ (.inl rfl)⟩
 clear H5;obtain⟨rfl,rfl,rfl,H5⟩:=hcut;generalize wc=w5 at *;have aa:=cells16 H5.out.2.1;have bb:=cells16 H5.out.2.2
 go_wp2_with fail
 refine Calls.mono (HM.out w5 H5.out.1) ?_;rintro e w6 ⟨rfl,hb6⟩;have H6:=(show Hid (Bl w w6/\_/\_)from⟨H5.out.1.trans (hb6.mono H5.out.1.size),below_blk hb6 H5.out.2.1,below_blk hb6 H5.out.2.2⟩);clear hb6 H5;clear aa bb;have aa:=cells16 H6.out.2.1;have bb:=cells16 H6.out.2.2
 go_wp2_with fail
 refine Calls.mono (HS.out w6 H6.out.1) ?_;rintro e w7 ⟨rfl,hb7⟩;have H7:=(show Hid (Bl w w7/\_/\_)from⟨H6.out.1.trans (hb7.mono H6.out.1.size),below_blk hb7 H6.out.2.1,below_blk hb7 H6.out.2.2⟩);clear hb7 H6;clear aa bb;have aa:=cells16 H7.out.2.1;have bb:=cells16 H7.out.2.2
 go_wp2_with fail
 go_ret
 exact⟨rfl,H7.out.1⟩
end
section
theorem form7_10 (w:World) (sides:Int) (h:Int) (hh:0≤h/\h<sides) :
 Calls Tryz.prog 81 #[.agg (wr 10 h 0 0 0 0 0 0 0 false),.int .i64 sides] w fun e w'=>e=.returned (.bool true)/\Bl w w':=by
 have hh1:¬ h<0:=by omega
 have hh2:¬ h ≥ sides:=by omega
 clear hh;have H5:=(show Hid _ from two_what w (wr 10 h 0 0 0 0 0 0 0 false) (wr 10 h 0 0 0 0 0 0 0 false))
 go_enter Tryz.func81,Tryz.ntmps81
 go_upto_region 32 with fail
 go_cut [] (fun wx=>Hid (Bl w wx/\wx.heap[w.heap.size]? = some (.cells (wr 10 h 0 0 0 0 0 0 0 false) 46 (0,0))/\wx.heap[w.heap.size+1]? = some (.cells (wr 10 h 0 0 0 0 0 0 0 false) 46 (0,0))))
 case first =>
  go_region
  all_goals
   go_wp2_with fail
   go_meet
   case rel=>first | exact H5.out _ (.inr rfl) | exact H5.out _ (.inl rfl)
 have H5:=hcut;clear hcut;generalize wc=w5 at *;have aa:=cells16 H5.out.2.1;have bb:=cells16 H5.out.2.2
 go_upto_region 51 with fail
 clear aa bb;have aa:=cells16 H5.out.2.1;have bb:=cells16 H5.out.2.2
 go_wp2_with fail
 refine(may4_nil w5).mono ?_;rintro e w6 ⟨rfl,hb6⟩;have H6:=(show Hid (Bl w w6/\_/\_)from⟨H5.out.1.trans (hb6.mono H5.out.1.size),below_blk hb6 H5.out.2.1,below_blk hb6 H5.out.2.2⟩);clear hb6 H5;clear aa bb;have aa:=cells16 H6.out.2.1;have bb:=cells16 H6.out.2.2
 go_wp2_with fail
 refine(same4_nil w6).mono ?_;rintro e w7 ⟨rfl,hb7⟩;have H7:=(show Hid (Bl w w7/\_/\_)from⟨H6.out.1.trans (hb7.mono H6.out.1.size),below_blk hb7 H6.out.2.1,below_blk hb7 H6.out.2.2⟩);clear hb7 H6;clear aa bb;have aa:=cells16 H7.out.2.1;have bb:=cells16 H7.out.2.2
 go_wp2_with fail
 go_ret
 exact⟨rfl,H7.out.1⟩
end
section
theorem form7_11 (w:World) (sides:Int) (h:Int) (hh:0≤h/\h<sides) (tg:Int) :
 Calls Tryz.prog 81 #[.agg (wr 11 h 0 0 0 0 tg 0 0 false),.int .i64 sides] w fun e w'=>e=.returned (.bool true)/\Bl w w':=by
 have hh1:¬ h<0:=by omega
 have hh2:¬ h ≥ sides:=by omega
 clear hh;have H5:=(show Hid _ from two_what w (wr 11 h 0 0 0 0 tg 0 0 false) (wr 11 h 0 0 0 0 tg 0 0 false))
 go_enter Tryz.func81,Tryz.ntmps81
 go_upto_region 51 with fail
 have H5:=(show Hid (_/\_/\_)from H5.out _ (.inl rfl));revert H5;generalize World.alloc (World.alloc w _) _=w5;intro H5;have aa:=cells16 H5.out.2.1;have bb:=cells16 H5.out.2.2
 go_wp2_with fail
 refine(may4_nil w5).mono ?_;rintro e w6 ⟨rfl,hb6⟩;have H6:=(show Hid (Bl w w6/\_/\_)from⟨H5.out.1.trans (hb6.mono H5.out.1.size),below_blk hb6 H5.out.2.1,below_blk hb6 H5.out.2.2⟩);clear hb6 H5;clear aa bb;have aa:=cells16 H6.out.2.1;have bb:=cells16 H6.out.2.2
 go_wp2_with fail
 refine(same4_nil w6).mono ?_;rintro e w7 ⟨rfl,hb7⟩;have H7:=(show Hid (Bl w w7/\_/\_)from⟨H6.out.1.trans (hb7.mono H6.out.1.size),below_blk hb7 H6.out.2.1,below_blk hb7 H6.out.2.2⟩);clear hb7 H6;clear aa bb;have aa:=cells16 H7.out.2.1;have bb:=cells16 H7.out.2.2
 go_wp2_with fail
 go_ret
 exact⟨rfl,H7.out.1⟩
end
end Go.Proofs.YthaliljaglldjaaGreat
