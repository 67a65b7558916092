/- A part of the proof, several texts in one: R7F12, R7F13, R7F14, R7F15, R7F16, R7F14home, R7F1ne, R7F1out, R7F2ne, R7F2out, R7F4ne, R7F4out, R7F5ne, R7F5out, R7F10ne. -/
import Derived.Test.YthaliljaglldjaaGreatmAN
import Derived.Test.YthaliljaglldjaaGreatmAC
/- posternref07.form at a thing of the kind 1. (gen_form7.py) -/
namespace Go.Proofs.YthaliljaglldjaaGreat
open Go.RowKit Go.ChangeMaps Go.MapKept
set_option maxHeartbeats 16000000 in
set_option maxRecDepth 20000 in
theorem form7_1_out (w:World) (sides:Int) (h:Int) (hh:0 ≤ h∧h < sides) (n:Int) (hn:n < 0∨9007199254740992 < n) :
 Calls Tryz.prog 81 #[.agg #[.int .u8 1,.int .i64 h,.int .u8 0,.int .i64 0,.string ⟨#[]⟩,.slice none 0 0,.int .i64 0,.slice none 0 0,.int .i64 n,.int .i64 0,.int .i64 0,.int .i64 0,.int .u8 0,.bool false,.slice none 0 0,.slice none 0 0],.int .i64 sides] w fun e w'=>e = .returned (.bool false)∧Below w.heap.size w w':=by
 have hh1:¬ h < 0:=by omega
 have hh2:¬ h ≥ sides:=by omega
 clear hh
 have Hn:=(show Hid _ from hn)
 clear hn
 have H5:=(show Hid _ from two_what w #[.int .u8 1,.int .i64 h,.int .u8 0,.int .i64 0,.string ⟨#[]⟩,.slice none 0 0,.int .i64 0,.slice none 0 0,.int .i64 n,.int .i64 0,.int .i64 0,.int .i64 0,.int .u8 0,.bool false,.slice none 0 0,.slice none 0 0] #[.int .u8 1,.int .i64 h,.int .u8 0,.int .i64 0,.string ⟨#[]⟩,.slice none 0 0,.int .i64 0,.slice none 0 0,.int .i64 0,.int .i64 0,.int .i64 0,.int .i64 0,.int .u8 0,.bool false,.slice none 0 0,.slice none 0 0])
 go_enter Tryz.func81,Tryz.ntmps81
 go_upto_region 51 with fail
 have H5:=(show Hid (_∧_∧_) from H5.out _ (.inl rfl))
 revert H5
 generalize World.alloc (World.alloc w _) _ = w5
 intro H5
 obtain ⟨a0,a1,a2,a3,a4,a5,a6,a7,a8,a9,a10,a11,a12,a13,a14,a15⟩:=cells16 H5.out.2.1
 obtain ⟨b0,b1,b2,b3,b4,b5,b6,b7,b8,b9,b10,b11,b12,b13,b14,b15⟩:=cells16 H5.out.2.2
 rcases Hn.out with hn | hn
 ·go_wp2_with fail
  go_ret
  exact ⟨rfl,H5.out.1⟩
 ·have hn1:¬ n < 0:=by omega
  have hn2:n > 9007199254740992:=hn
  go_wp2_with fail
  go_ret
  exact ⟨rfl,H5.out.1⟩
end Go.Proofs.YthaliljaglldjaaGreat
/- posternref07.form at a thing of the kind 2. (gen_form7.py) -/
namespace Go.Proofs.YthaliljaglldjaaGreat
open Go.RowKit Go.ChangeMaps Go.MapKept
set_option maxHeartbeats 16000000 in
set_option maxRecDepth 20000 in
theorem form7_2_ne (w:World) (sides:Int) (h:Int) (hh:0 ≤ h∧h < sides) {F:Nat→Prop} (vs:List Val) (ps:Option Addr) (cs:Nat) (hv:SlAt w F (.slice ps vs.length cs) vs) (hwf:(listV vs).wf) (hmay:mayV (listV vs) = true) (hlen:vs.length ≤ 512) (n:Int) (hn:0 ≤ n∧n ≤ 9007199254740992) (hn0:n ≠ 0) :
 Calls Tryz.prog 81 #[.agg #[.int .u8 2,.int .i64 h,.int .u8 0,.int .i64 0,.string ⟨#[]⟩,.slice none 0 0,.int .i64 0,.slice ps vs.length cs,.int .i64 n,.int .i64 0,.int .i64 0,.int .i64 0,.int .u8 0,.bool false,.slice none 0 0,.slice none 0 0],.int .i64 sides] w fun e w'=>e = .returned (.bool false)∧Below w.heap.size w w':=by
 have HM:Hid (∀ w',Below w.heap.size w w'→Calls Tryz.prog 174 #[.agg #[.int .u8 3,.int .i64 0,.string ⟨#[]⟩,.slice ps vs.length cs,.int .i64 0]] w' fun e w''=>e = .returned (.bool true)∧Below w'.heap.size w' w''):=fun w' hb=>by have h:=may4_W (v:=listV vs) hwf (hv.on hb);rw [hmay] at h;exact h
 have hlz:¬ (vs.length:Int) > 512:=by omega
 clear hv hwf hmay hlen
 have hh1:¬ h < 0:=by omega
 have hh2:¬ h ≥ sides:=by omega
 clear hh
 have hn1:¬ n < 0:=by omega
 have hn2:¬ n > 9007199254740992:=by omega
 have hnb:(n == 0) = false:=by simpa using hn0
 clear hn0
 clear hn
 have H5:=(show Hid _ from two_what w #[.int .u8 2,.int .i64 h,.int .u8 0,.int .i64 0,.string ⟨#[]⟩,.slice none 0 0,.int .i64 0,.slice ps vs.length cs,.int .i64 n,.int .i64 0,.int .i64 0,.int .i64 0,.int .u8 0,.bool false,.slice none 0 0,.slice none 0 0] #[.int .u8 2,.int .i64 h,.int .u8 0,.int .i64 0,.string ⟨#[]⟩,.slice none 0 0,.int .i64 0,.slice none 0 0,.int .i64 0,.int .i64 0,.int .i64 0,.int .i64 0,.int .u8 0,.bool false,.slice none 0 0,.slice none 0 0])
 go_enter Tryz.func81,Tryz.ntmps81
 have HB0:=(show Hid (Below w.heap.size w ((w.alloc (.cells #[.int .u8 2,.int .i64 h,.int .u8 0,.int .i64 0,.string ⟨#[]⟩,.slice none 0 0,.int .i64 0,.slice ps vs.length cs,.int .i64 n,.int .i64 0,.int .i64 0,.int .i64 0,.int .u8 0,.bool false,.slice none 0 0,.slice none 0 0] 46)).alloc (.cells #[.int .u8 2,.int .i64 h,.int .u8 0,.int .i64 0,.string ⟨#[]⟩,.slice none 0 0,.int .i64 0,.slice none 0 0,.int .i64 0,.int .i64 0,.int .i64 0,.int .i64 0,.int .u8 0,.bool false,.slice none 0 0,.slice none 0 0] 46))) from (H5.out _ (.inl rfl)).1)
 have HC0:=(show Hid (_∧_) from (H5.out _ (.inl rfl)).2)
 go_upto_region 16 with fail
 revert HB0 HC0
 generalize World.alloc (World.alloc w _) _ = w3
 intro HB0 HC0
 obtain ⟨a0,a1,a2,a3,a4,a5,a6,a7,a8,a9,a10,a11,a12,a13,a14,a15⟩:=cells16 HC0.out.1
 go_wp2_with fail
 refine (list7_W w3 ps vs.length cs).mono ?_
 rintro e w4 ⟨rfl,hb4⟩
 have HB4:=(show Hid (Below w.heap.size w w4) from HB0.out.trans (hb4.mono HB0.out.size))
 have HC4:=(show Hid (_∧_) from And.intro (below_blk hb4 HC0.out.1) (below_blk hb4 HC0.out.2))
 clear hb4 HB0 HC0 a0 a1 a2 a3 a4 a5 a6 a7 a8 a9 a10 a11 a12 a13 a14 a15
 go_wp2_with fail
 refine Calls.mono (HM.out w4 HB4.out) ?_
 rintro e w5 ⟨rfl,hb5⟩
 have H6:=(show Hid (Below w.heap.size w w5∧_∧_) from ⟨HB4.out.trans (hb5.mono HB4.out.size),below_blk hb5 HC4.out.1,below_blk hb5 HC4.out.2⟩)
 clear hb5 HB4 HC4 H5
 have H5:=H6
 clear H6
 go_upto_region 51 with fail
 obtain ⟨a0,a1,a2,a3,a4,a5,a6,a7,a8,a9,a10,a11,a12,a13,a14,a15⟩:=cells16 H5.out.2.1
 obtain ⟨b0,b1,b2,b3,b4,b5,b6,b7,b8,b9,b10,b11,b12,b13,b14,b15⟩:=cells16 H5.out.2.2
 go_wp2_with fail
 refine (may4_nil w5).mono ?_
 rintro e w6 ⟨rfl,hb6⟩
 have H6:=(show Hid (Below w.heap.size w w6∧_∧_) from ⟨H5.out.1.trans (hb6.mono H5.out.1.size),below_blk hb6 H5.out.2.1,below_blk hb6 H5.out.2.2⟩)
 clear hb6 H5
 clear a0 a1 a2 a3 a4 a5 a6 a7 a8 a9 a10 a11 a12 a13 a14 a15 b0 b1 b2 b3 b4 b5 b6 b7 b8 b9 b10 b11 b12 b13 b14 b15
 obtain ⟨a0,a1,a2,a3,a4,a5,a6,a7,a8,a9,a10,a11,a12,a13,a14,a15⟩:=cells16 H6.out.2.1
 obtain ⟨b0,b1,b2,b3,b4,b5,b6,b7,b8,b9,b10,b11,b12,b13,b14,b15⟩:=cells16 H6.out.2.2
 go_wp2_with fail
 refine (same4_nil w6).mono ?_
 rintro e w7 ⟨rfl,hb7⟩
 have H7:=(show Hid (Below w.heap.size w w7∧_∧_) from ⟨H6.out.1.trans (hb7.mono H6.out.1.size),below_blk hb7 H6.out.2.1,below_blk hb7 H6.out.2.2⟩)
 clear hb7 H6
 clear a0 a1 a2 a3 a4 a5 a6 a7 a8 a9 a10 a11 a12 a13 a14 a15 b0 b1 b2 b3 b4 b5 b6 b7 b8 b9 b10 b11 b12 b13 b14 b15
 obtain ⟨a0,a1,a2,a3,a4,a5,a6,a7,a8,a9,a10,a11,a12,a13,a14,a15⟩:=cells16 H7.out.2.1
 obtain ⟨b0,b1,b2,b3,b4,b5,b6,b7,b8,b9,b10,b11,b12,b13,b14,b15⟩:=cells16 H7.out.2.2
 go_wp2_with fail
 all_goals
  go_ret
  exact ⟨rfl,H7.out.1⟩
end Go.Proofs.YthaliljaglldjaaGreat
/- posternref07.form at a thing of the kind 2. (gen_form7.py) -/
namespace Go.Proofs.YthaliljaglldjaaGreat
open Go.RowKit Go.ChangeMaps Go.MapKept
set_option maxHeartbeats 16000000 in
set_option maxRecDepth 20000 in
theorem form7_2_out (w:World) (sides:Int) (h:Int) (hh:0 ≤ h∧h < sides) {F:Nat→Prop} (vs:List Val) (ps:Option Addr) (cs:Nat) (hv:SlAt w F (.slice ps vs.length cs) vs) (hwf:(listV vs).wf) (hmay:mayV (listV vs) = true) (hlen:vs.length ≤ 512) (n:Int) (hn:n < 0∨9007199254740992 < n) :
 Calls Tryz.prog 81 #[.agg #[.int .u8 2,.int .i64 h,.int .u8 0,.int .i64 0,.string ⟨#[]⟩,.slice none 0 0,.int .i64 0,.slice ps vs.length cs,.int .i64 n,.int .i64 0,.int .i64 0,.int .i64 0,.int .u8 0,.bool false,.slice none 0 0,.slice none 0 0],.int .i64 sides] w fun e w'=>e = .returned (.bool false)∧Below w.heap.size w w':=by
 have HM:Hid (∀ w',Below w.heap.size w w'→Calls Tryz.prog 174 #[.agg #[.int .u8 3,.int .i64 0,.string ⟨#[]⟩,.slice ps vs.length cs,.int .i64 0]] w' fun e w''=>e = .returned (.bool true)∧Below w'.heap.size w' w''):=fun w' hb=>by have h:=may4_W (v:=listV vs) hwf (hv.on hb);rw [hmay] at h;exact h
 have hlz:¬ (vs.length:Int) > 512:=by omega
 clear hv hwf hmay hlen
 have hh1:¬ h < 0:=by omega
 have hh2:¬ h ≥ sides:=by omega
 clear hh
 have Hn:=(show Hid _ from hn)
 clear hn
 have H5:=(show Hid _ from two_what w #[.int .u8 2,.int .i64 h,.int .u8 0,.int .i64 0,.string ⟨#[]⟩,.slice none 0 0,.int .i64 0,.slice ps vs.length cs,.int .i64 n,.int .i64 0,.int .i64 0,.int .i64 0,.int .u8 0,.bool false,.slice none 0 0,.slice none 0 0] #[.int .u8 2,.int .i64 h,.int .u8 0,.int .i64 0,.string ⟨#[]⟩,.slice none 0 0,.int .i64 0,.slice none 0 0,.int .i64 0,.int .i64 0,.int .i64 0,.int .i64 0,.int .u8 0,.bool false,.slice none 0 0,.slice none 0 0])
 go_enter Tryz.func81,Tryz.ntmps81
 have HB0:=(show Hid (Below w.heap.size w ((w.alloc (.cells #[.int .u8 2,.int .i64 h,.int .u8 0,.int .i64 0,.string ⟨#[]⟩,.slice none 0 0,.int .i64 0,.slice ps vs.length cs,.int .i64 n,.int .i64 0,.int .i64 0,.int .i64 0,.int .u8 0,.bool false,.slice none 0 0,.slice none 0 0] 46)).alloc (.cells #[.int .u8 2,.int .i64 h,.int .u8 0,.int .i64 0,.string ⟨#[]⟩,.slice none 0 0,.int .i64 0,.slice none 0 0,.int .i64 0,.int .i64 0,.int .i64 0,.int .i64 0,.int .u8 0,.bool false,.slice none 0 0,.slice none 0 0] 46))) from (H5.out _ (.inl rfl)).1)
 have HC0:=(show Hid (_∧_) from (H5.out _ (.inl rfl)).2)
 go_upto_region 16 with fail
 revert HB0 HC0
 generalize World.alloc (World.alloc w _) _ = w3
 intro HB0 HC0
 obtain ⟨a0,a1,a2,a3,a4,a5,a6,a7,a8,a9,a10,a11,a12,a13,a14,a15⟩:=cells16 HC0.out.1
 go_wp2_with fail
 refine (list7_W w3 ps vs.length cs).mono ?_
 rintro e w4 ⟨rfl,hb4⟩
 have HB4:=(show Hid (Below w.heap.size w w4) from HB0.out.trans (hb4.mono HB0.out.size))
 have HC4:=(show Hid (_∧_) from And.intro (below_blk hb4 HC0.out.1) (below_blk hb4 HC0.out.2))
 clear hb4 HB0 HC0 a0 a1 a2 a3 a4 a5 a6 a7 a8 a9 a10 a11 a12 a13 a14 a15
 go_wp2_with fail
 refine Calls.mono (HM.out w4 HB4.out) ?_
 rintro e w5 ⟨rfl,hb5⟩
 have H6:=(show Hid (Below w.heap.size w w5∧_∧_) from ⟨HB4.out.trans (hb5.mono HB4.out.size),below_blk hb5 HC4.out.1,below_blk hb5 HC4.out.2⟩)
 clear hb5 HB4 HC4 H5
 have H5:=H6
 clear H6
 go_upto_region 51 with fail
 obtain ⟨a0,a1,a2,a3,a4,a5,a6,a7,a8,a9,a10,a11,a12,a13,a14,a15⟩:=cells16 H5.out.2.1
 obtain ⟨b0,b1,b2,b3,b4,b5,b6,b7,b8,b9,b10,b11,b12,b13,b14,b15⟩:=cells16 H5.out.2.2
 rcases Hn.out with hn | hn
 ·go_wp2_with fail
  go_ret
  exact ⟨rfl,H5.out.1⟩
 ·have hn1:¬ n < 0:=by omega
  have hn2:n > 9007199254740992:=hn
  go_wp2_with fail
  go_ret
  exact ⟨rfl,H5.out.1⟩
end Go.Proofs.YthaliljaglldjaaGreat
/- posternref07.form at a thing of the kind 4. (gen_form7.py) -/
namespace Go.Proofs.YthaliljaglldjaaGreat
open Go.RowKit Go.ChangeMaps Go.MapKept
set_option maxHeartbeats 16000000 in
set_option maxRecDepth 20000 in
theorem form7_4_ne (w:World) (sides:Int) (h:Int) (hh:0 ≤ h∧h < sides) {F:Nat→Prop} (vs:List Val) (ps:Option Addr) (cs:Nat) (hv:SlAt w F (.slice ps vs.length cs) vs) (hwf:(listV vs).wf) (hmay:mayV (listV vs) = true) (hlen:vs.length ≤ 512) (n:Int) (hn:0 ≤ n∧n ≤ 9007199254740992) (hn0:n ≠ 0) :
 Calls Tryz.prog 81 #[.agg #[.int .u8 4,.int .i64 h,.int .u8 0,.int .i64 0,.string ⟨#[]⟩,.slice none 0 0,.int .i64 0,.slice ps vs.length cs,.int .i64 n,.int .i64 0,.int .i64 0,.int .i64 0,.int .u8 0,.bool false,.slice none 0 0,.slice none 0 0],.int .i64 sides] w fun e w'=>e = .returned (.bool false)∧Below w.heap.size w w':=by
 have HM:Hid (∀ w',Below w.heap.size w w'→Calls Tryz.prog 174 #[.agg #[.int .u8 3,.int .i64 0,.string ⟨#[]⟩,.slice ps vs.length cs,.int .i64 0]] w' fun e w''=>e = .returned (.bool true)∧Below w'.heap.size w' w''):=fun w' hb=>by have h:=may4_W (v:=listV vs) hwf (hv.on hb);rw [hmay] at h;exact h
 have hlz:¬ (vs.length:Int) > 512:=by omega
 clear hv hwf hmay hlen
 have hh1:¬ h < 0:=by omega
 have hh2:¬ h ≥ sides:=by omega
 clear hh
 have hn1:¬ n < 0:=by omega
 have hn2:¬ n > 9007199254740992:=by omega
 have hnb:(n == 0) = false:=by simpa using hn0
 clear hn0
 clear hn
 have H5:=(show Hid _ from two_what w #[.int .u8 4,.int .i64 h,.int .u8 0,.int .i64 0,.string ⟨#[]⟩,.slice none 0 0,.int .i64 0,.slice ps vs.length cs,.int .i64 n,.int .i64 0,.int .i64 0,.int .i64 0,.int .u8 0,.bool false,.slice none 0 0,.slice none 0 0] #[.int .u8 4,.int .i64 h,.int .u8 0,.int .i64 0,.string ⟨#[]⟩,.slice none 0 0,.int .i64 0,.slice none 0 0,.int .i64 0,.int .i64 0,.int .i64 0,.int .i64 0,.int .u8 0,.bool false,.slice none 0 0,.slice none 0 0])
 go_enter Tryz.func81,Tryz.ntmps81
 have HB0:=(show Hid (Below w.heap.size w ((w.alloc (.cells #[.int .u8 4,.int .i64 h,.int .u8 0,.int .i64 0,.string ⟨#[]⟩,.slice none 0 0,.int .i64 0,.slice ps vs.length cs,.int .i64 n,.int .i64 0,.int .i64 0,.int .i64 0,.int .u8 0,.bool false,.slice none 0 0,.slice none 0 0] 46)).alloc (.cells #[.int .u8 4,.int .i64 h,.int .u8 0,.int .i64 0,.string ⟨#[]⟩,.slice none 0 0,.int .i64 0,.slice none 0 0,.int .i64 0,.int .i64 0,.int .i64 0,.int .i64 0,.int .u8 0,.bool false,.slice none 0 0,.slice none 0 0] 46))) from (H5.out _ (.inl rfl)).1)
 have HC0:=(show Hid (_∧_) from (H5.out _ (.inl rfl)).2)
 go_upto_region 16 with fail
 revert HB0 HC0
 generalize World.alloc (World.alloc w _) _ = w3
 intro HB0 HC0
 obtain ⟨a0,a1,a2,a3,a4,a5,a6,a7,a8,a9,a10,a11,a12,a13,a14,a15⟩:=cells16 HC0.out.1
 go_wp2_with fail
 refine (list7_W w3 ps vs.length cs).mono ?_
 rintro e w4 ⟨rfl,hb4⟩
 have HB4:=(show Hid (Below w.heap.size w w4) from HB0.out.trans (hb4.mono HB0.out.size))
 have HC4:=(show Hid (_∧_) from And.intro (below_blk hb4 HC0.out.1) (below_blk hb4 HC0.out.2))
 clear hb4 HB0 HC0 a0 a1 a2 a3 a4 a5 a6 a7 a8 a9 a10 a11 a12 a13 a14 a15
 go_wp2_with fail
 refine Calls.mono (HM.out w4 HB4.out) ?_
 rintro e w5 ⟨rfl,hb5⟩
 have H6:=(show Hid (Below w.heap.size w w5∧_∧_) from ⟨HB4.out.trans (hb5.mono HB4.out.size),below_blk hb5 HC4.out.1,below_blk hb5 HC4.out.2⟩)
 clear hb5 HB4 HC4 H5
 have H5:=H6
 clear H6
 go_upto_region 51 with fail
 obtain ⟨a0,a1,a2,a3,a4,a5,a6,a7,a8,a9,a10,a11,a12,a13,a14,a15⟩:=cells16 H5.out.2.1
 obtain ⟨b0,b1,b2,b3,b4,b5,b6,b7,b8,b9,b10,b11,b12,b13,b14,b15⟩:=cells16 H5.out.2.2
 go_wp2_with fail
 refine (may4_nil w5).mono ?_
 rintro e w6 ⟨rfl,hb6⟩
 have H6:=(show Hid (Below w.heap.size w w6∧_∧_) from ⟨H5.out.1.trans (hb6.mono H5.out.1.size),below_blk hb6 H5.out.2.1,below_blk hb6 H5.out.2.2⟩)
 clear hb6 H5
 clear a0 a1 a2 a3 a4 a5 a6 a7 a8 a9 a10 a11 a12 a13 a14 a15 b0 b1 b2 b3 b4 b5 b6 b7 b8 b9 b10 b11 b12 b13 b14 b15
 obtain ⟨a0,a1,a2,a3,a4,a5,a6,a7,a8,a9,a10,a11,a12,a13,a14,a15⟩:=cells16 H6.out.2.1
 obtain ⟨b0,b1,b2,b3,b4,b5,b6,b7,b8,b9,b10,b11,b12,b13,b14,b15⟩:=cells16 H6.out.2.2
 go_wp2_with fail
 refine (same4_nil w6).mono ?_
 rintro e w7 ⟨rfl,hb7⟩
 have H7:=(show Hid (Below w.heap.size w w7∧_∧_) from ⟨H6.out.1.trans (hb7.mono H6.out.1.size),below_blk hb7 H6.out.2.1,below_blk hb7 H6.out.2.2⟩)
 clear hb7 H6
 clear a0 a1 a2 a3 a4 a5 a6 a7 a8 a9 a10 a11 a12 a13 a14 a15 b0 b1 b2 b3 b4 b5 b6 b7 b8 b9 b10 b11 b12 b13 b14 b15
 obtain ⟨a0,a1,a2,a3,a4,a5,a6,a7,a8,a9,a10,a11,a12,a13,a14,a15⟩:=cells16 H7.out.2.1
 obtain ⟨b0,b1,b2,b3,b4,b5,b6,b7,b8,b9,b10,b11,b12,b13,b14,b15⟩:=cells16 H7.out.2.2
 go_wp2_with fail
 all_goals
  go_ret
  exact ⟨rfl,H7.out.1⟩
end Go.Proofs.YthaliljaglldjaaGreat
