/- A part of the proof, several texts in one: R7F12, R7F13, R7F14, R7F15, R7F16, R7F14home, R7F1ne, R7F1out, R7F2ne, R7F2out, R7F4ne, R7F4out, R7F5ne, R7F5out, R7F10ne. -/
import Derived.Test.YthaliljaglldjaaGreatmAN
import Derived.Test.YthaliljaglldjaaGreatmAC
/- posternref07.form at a thing of the kind 15: yes. (gen_form7.py) -/
namespace Go.Proofs.YthaliljaglldjaaGreat
open Go.RowKit Go.ChangeMaps Go.MapKept
set_option maxHeartbeats 16000000 in
set_option maxRecDepth 20000 in
theorem form7_15 (w:World) (sides:Int) (h:Int) (hh:0 ≤ h∧h < sides) (tg:Int) (bi:Int) :
 Calls Tryz.prog 81 #[.agg #[.int .u8 15,.int .i64 h,.int .u8 0,.int .i64 0,.string ⟨#[]⟩,.slice none 0 0,.int .i64 0,.slice none 0 0,.int .i64 0,.int .i64 0,.int .i64 tg,.int .i64 bi,.int .u8 0,.bool false,.slice none 0 0,.slice none 0 0],.int .i64 sides] w fun e w'=>e = .returned (.bool true)∧Below w.heap.size w w':=by
 have hh1:¬ h < 0:=by omega
 have hh2:¬ h ≥ sides:=by omega
 clear hh
 have H5:=(show Hid _ from two_what w #[.int .u8 15,.int .i64 h,.int .u8 0,.int .i64 0,.string ⟨#[]⟩,.slice none 0 0,.int .i64 0,.slice none 0 0,.int .i64 0,.int .i64 0,.int .i64 tg,.int .i64 bi,.int .u8 0,.bool false,.slice none 0 0,.slice none 0 0] #[.int .u8 15,.int .i64 h,.int .u8 0,.int .i64 0,.string ⟨#[]⟩,.slice none 0 0,.int .i64 0,.slice none 0 0,.int .i64 0,.int .i64 0,.int .i64 tg,.int .i64 bi,.int .u8 0,.bool false,.slice none 0 0,.slice none 0 0])
 go_enter Tryz.func81,Tryz.ntmps81
 go_upto_block 0 with fail
 go_cut [7,8,9] (fun a7 a8 a9 wx=>a7 = .bool false∧a8 = .bool false∧a9 = .bool false∧Hid (Below w.heap.size w wx∧wx.heap[w.heap.size]? = some (.cells #[.int .u8 15,.int .i64 h,.int .u8 0,.int .i64 0,.string ⟨#[]⟩,.slice none 0 0,.int .i64 0,.slice none 0 0,.int .i64 0,.int .i64 0,.int .i64 tg,.int .i64 bi,.int .u8 0,.bool false,.slice none 0 0,.slice none 0 0] 46 (0,0))∧wx.heap[w.heap.size + 1]? = some (.cells #[.int .u8 15,.int .i64 h,.int .u8 0,.int .i64 0,.string ⟨#[]⟩,.slice none 0 0,.int .i64 0,.slice none 0 0,.int .i64 0,.int .i64 0,.int .i64 tg,.int .i64 bi,.int .u8 0,.bool false,.slice none 0 0,.slice none 0 0] 46 (0,0))))
 case first =>
  go_upto_region 50 with fail
  go_region
  all_goals
   go_wp2_with fail
   go_meet
   case rel=>first | exact ⟨rfl,rfl,rfl,H5.out _ (.inr rfl)⟩ | exact ⟨rfl,rfl,rfl,H5.out _ (.inl rfl)⟩
 clear H5
 obtain ⟨rfl,rfl,rfl,H5⟩:=hcut
 generalize wc = w5 at *
 obtain ⟨a0,a1,a2,a3,a4,a5,a6,a7,a8,a9,a10,a11,a12,a13,a14,a15⟩:=cells16 H5.out.2.1
 obtain ⟨b0,b1,b2,b3,b4,b5,b6,b7,b8,b9,b10,b11,b12,b13,b14,b15⟩:=cells16 H5.out.2.2
 go_wp2_with fail
 refine (may4_nil w5).mono ?_
 rintro e w6 ⟨rfl,hb6⟩
 have H6:=(show Hid (Below w.heap.size w w6∧_∧_) from ⟨H5.out.1.trans (hb6.mono H5.out.1.size),below_blk hb6 H5.out.2.1,below_blk hb6 H5.out.2.2⟩)
 clear hb6 H5
 clear a0 a1 a2 a3 a4 a5 a6 a7 a8 a9 a10 a11 a12 a13 a14 a15 b0 b1 b2 b3 b4 b5 b6 b7 b8 b9 b10 b11 b12 b13 b14 b15
 obtain ⟨a0,a1,a2,a3,a4,a5,a6,a7,a8,a9,a10,a11,a12,a13,a14,a15⟩:=cells16 H6.out.2.1
 obtain ⟨b0,b1,b2,b3,b4,b5,b6,b7,b8,b9,b10,b11,b12,b13,b14,b15⟩:=cells16 H6.out.2.2
 go_wp2_with fail
 refine (same4_nil w6).mono ?_
 rintro e w7 ⟨rfl,hb7⟩
 have H7:=(show Hid (Below w.heap.size w w7∧_∧_) from ⟨H6.out.1.trans (hb7.mono H6.out.1.size),below_blk hb7 H6.out.2.1,below_blk hb7 H6.out.2.2⟩)
 clear hb7 H6
 clear a0 a1 a2 a3 a4 a5 a6 a7 a8 a9 a10 a11 a12 a13 a14 a15 b0 b1 b2 b3 b4 b5 b6 b7 b8 b9 b10 b11 b12 b13 b14 b15
 obtain ⟨a0,a1,a2,a3,a4,a5,a6,a7,a8,a9,a10,a11,a12,a13,a14,a15⟩:=cells16 H7.out.2.1
 obtain ⟨b0,b1,b2,b3,b4,b5,b6,b7,b8,b9,b10,b11,b12,b13,b14,b15⟩:=cells16 H7.out.2.2
 go_wp2_with fail
 go_ret
 exact ⟨rfl,H7.out.1⟩
end Go.Proofs.YthaliljaglldjaaGreat
/- posternref07.form at a thing of the kind 16: yes. (gen_form7.py) -/
namespace Go.Proofs.YthaliljaglldjaaGreat
open Go.RowKit Go.ChangeMaps Go.MapKept
set_option maxHeartbeats 16000000 in
set_option maxRecDepth 20000 in
theorem form7_16 (w:World) (sides:Int) (h:Int) (hh:0 ≤ h∧h < sides) (tg:Int) (bi:Int) :
 Calls Tryz.prog 81 #[.agg #[.int .u8 16,.int .i64 h,.int .u8 0,.int .i64 0,.string ⟨#[]⟩,.slice none 0 0,.int .i64 0,.slice none 0 0,.int .i64 0,.int .i64 0,.int .i64 tg,.int .i64 bi,.int .u8 0,.bool false,.slice none 0 0,.slice none 0 0],.int .i64 sides] w fun e w'=>e = .returned (.bool true)∧Below w.heap.size w w':=by
 have hh1:¬ h < 0:=by omega
 have hh2:¬ h ≥ sides:=by omega
 clear hh
 have H5:=(show Hid _ from two_what w #[.int .u8 16,.int .i64 h,.int .u8 0,.int .i64 0,.string ⟨#[]⟩,.slice none 0 0,.int .i64 0,.slice none 0 0,.int .i64 0,.int .i64 0,.int .i64 tg,.int .i64 bi,.int .u8 0,.bool false,.slice none 0 0,.slice none 0 0] #[.int .u8 16,.int .i64 h,.int .u8 0,.int .i64 0,.string ⟨#[]⟩,.slice none 0 0,.int .i64 0,.slice none 0 0,.int .i64 0,.int .i64 0,.int .i64 tg,.int .i64 bi,.int .u8 0,.bool false,.slice none 0 0,.slice none 0 0])
 go_enter Tryz.func81,Tryz.ntmps81
 go_upto_block 0 with fail
 go_cut [7,8,9] (fun a7 a8 a9 wx=>a7 = .bool false∧a8 = .bool false∧a9 = .bool false∧Hid (Below w.heap.size w wx∧wx.heap[w.heap.size]? = some (.cells #[.int .u8 16,.int .i64 h,.int .u8 0,.int .i64 0,.string ⟨#[]⟩,.slice none 0 0,.int .i64 0,.slice none 0 0,.int .i64 0,.int .i64 0,.int .i64 tg,.int .i64 bi,.int .u8 0,.bool false,.slice none 0 0,.slice none 0 0] 46 (0,0))∧wx.heap[w.heap.size + 1]? = some (.cells #[.int .u8 16,.int .i64 h,.int .u8 0,.int .i64 0,.string ⟨#[]⟩,.slice none 0 0,.int .i64 0,.slice none 0 0,.int .i64 0,.int .i64 0,.int .i64 tg,.int .i64 bi,.int .u8 0,.bool false,.slice none 0 0,.slice none 0 0] 46 (0,0))))
 case first =>
  go_upto_region 50 with fail
  go_region
  all_goals
   go_wp2_with fail
   go_meet
   case rel=>first | exact ⟨rfl,rfl,rfl,H5.out _ (.inr rfl)⟩ | exact ⟨rfl,rfl,rfl,H5.out _ (.inl rfl)⟩
 clear H5
 obtain ⟨rfl,rfl,rfl,H5⟩:=hcut
 generalize wc = w5 at *
 obtain ⟨a0,a1,a2,a3,a4,a5,a6,a7,a8,a9,a10,a11,a12,a13,a14,a15⟩:=cells16 H5.out.2.1
 obtain ⟨b0,b1,b2,b3,b4,b5,b6,b7,b8,b9,b10,b11,b12,b13,b14,b15⟩:=cells16 H5.out.2.2
 go_wp2_with fail
 refine (may4_nil w5).mono ?_
 rintro e w6 ⟨rfl,hb6⟩
 have H6:=(show Hid (Below w.heap.size w w6∧_∧_) from ⟨H5.out.1.trans (hb6.mono H5.out.1.size),below_blk hb6 H5.out.2.1,below_blk hb6 H5.out.2.2⟩)
 clear hb6 H5
 clear a0 a1 a2 a3 a4 a5 a6 a7 a8 a9 a10 a11 a12 a13 a14 a15 b0 b1 b2 b3 b4 b5 b6 b7 b8 b9 b10 b11 b12 b13 b14 b15
 obtain ⟨a0,a1,a2,a3,a4,a5,a6,a7,a8,a9,a10,a11,a12,a13,a14,a15⟩:=cells16 H6.out.2.1
 obtain ⟨b0,b1,b2,b3,b4,b5,b6,b7,b8,b9,b10,b11,b12,b13,b14,b15⟩:=cells16 H6.out.2.2
 go_wp2_with fail
 refine (same4_nil w6).mono ?_
 rintro e w7 ⟨rfl,hb7⟩
 have H7:=(show Hid (Below w.heap.size w w7∧_∧_) from ⟨H6.out.1.trans (hb7.mono H6.out.1.size),below_blk hb7 H6.out.2.1,below_blk hb7 H6.out.2.2⟩)
 clear hb7 H6
 clear a0 a1 a2 a3 a4 a5 a6 a7 a8 a9 a10 a11 a12 a13 a14 a15 b0 b1 b2 b3 b4 b5 b6 b7 b8 b9 b10 b11 b12 b13 b14 b15
 obtain ⟨a0,a1,a2,a3,a4,a5,a6,a7,a8,a9,a10,a11,a12,a13,a14,a15⟩:=cells16 H7.out.2.1
 obtain ⟨b0,b1,b2,b3,b4,b5,b6,b7,b8,b9,b10,b11,b12,b13,b14,b15⟩:=cells16 H7.out.2.2
 go_wp2_with fail
 go_ret
 exact ⟨rfl,H7.out.1⟩
end Go.Proofs.YthaliljaglldjaaGreat
/- posternref07.form at a thing of the kind 14. (gen_form7.py) -/
namespace Go.Proofs.YthaliljaglldjaaGreat
open Go.RowKit Go.ChangeMaps Go.MapKept
set_option maxHeartbeats 16000000 in
set_option maxRecDepth 20000 in
theorem form7_14_home (w:World) (sides:Int) (h:Int) (hh:h ≠ 0) (tg:Int) (se:Int) :
 Calls Tryz.prog 81 #[.agg #[.int .u8 14,.int .i64 h,.int .u8 0,.int .i64 0,.string ⟨#[]⟩,.slice none 0 0,.int .i64 0,.slice none 0 0,.int .i64 0,.int .i64 0,.int .i64 tg,.int .i64 0,.int .u8 se,.bool false,.slice none 0 0,.slice none 0 0],.int .i64 sides] w fun e w'=>e = .returned (.bool false)∧Below w.heap.size w w':=by
 have hhb:(h == 0) = false:=by simpa using hh
 clear hh
 have H5:=(show Hid _ from two_what w #[.int .u8 14,.int .i64 h,.int .u8 0,.int .i64 0,.string ⟨#[]⟩,.slice none 0 0,.int .i64 0,.slice none 0 0,.int .i64 0,.int .i64 0,.int .i64 tg,.int .i64 0,.int .u8 se,.bool false,.slice none 0 0,.slice none 0 0] #[.int .u8 14,.int .i64 0,.int .u8 0,.int .i64 0,.string ⟨#[]⟩,.slice none 0 0,.int .i64 0,.slice none 0 0,.int .i64 0,.int .i64 0,.int .i64 tg,.int .i64 0,.int .u8 se,.bool false,.slice none 0 0,.slice none 0 0])
 go_enter Tryz.func81,Tryz.ntmps81
 go_upto_block 0 with fail
 go_cut [7,8,9] (fun a7 a8 a9 wx=>a7 = .bool false∧a8 = .bool false∧a9 = .bool false∧Hid (Below w.heap.size w wx∧wx.heap[w.heap.size]? = some (.cells #[.int .u8 14,.int .i64 h,.int .u8 0,.int .i64 0,.string ⟨#[]⟩,.slice none 0 0,.int .i64 0,.slice none 0 0,.int .i64 0,.int .i64 0,.int .i64 tg,.int .i64 0,.int .u8 se,.bool false,.slice none 0 0,.slice none 0 0] 46 (0,0))∧wx.heap[w.heap.size + 1]? = some (.cells #[.int .u8 14,.int .i64 0,.int .u8 0,.int .i64 0,.string ⟨#[]⟩,.slice none 0 0,.int .i64 0,.slice none 0 0,.int .i64 0,.int .i64 0,.int .i64 tg,.int .i64 0,.int .u8 se,.bool false,.slice none 0 0,.slice none 0 0] 46 (0,0))))
 case first =>
  go_upto_region 47 with fail
  go_region
  all_goals
   go_wp2_with fail
   go_meet
   case rel=>first | exact ⟨rfl,rfl,rfl,H5.out _ (.inr rfl)⟩ | exact ⟨rfl,rfl,rfl,H5.out _ (.inl rfl)⟩
 clear H5
 obtain ⟨rfl,rfl,rfl,H5⟩:=hcut
 generalize wc = w5 at *
 obtain ⟨a0,a1,a2,a3,a4,a5,a6,a7,a8,a9,a10,a11,a12,a13,a14,a15⟩:=cells16 H5.out.2.1
 obtain ⟨b0,b1,b2,b3,b4,b5,b6,b7,b8,b9,b10,b11,b12,b13,b14,b15⟩:=cells16 H5.out.2.2
 go_wp2_with fail
 refine (may4_nil w5).mono ?_
 rintro e w6 ⟨rfl,hb6⟩
 have H6:=(show Hid (Below w.heap.size w w6∧_∧_) from ⟨H5.out.1.trans (hb6.mono H5.out.1.size),below_blk hb6 H5.out.2.1,below_blk hb6 H5.out.2.2⟩)
 clear hb6 H5
 clear a0 a1 a2 a3 a4 a5 a6 a7 a8 a9 a10 a11 a12 a13 a14 a15 b0 b1 b2 b3 b4 b5 b6 b7 b8 b9 b10 b11 b12 b13 b14 b15
 obtain ⟨a0,a1,a2,a3,a4,a5,a6,a7,a8,a9,a10,a11,a12,a13,a14,a15⟩:=cells16 H6.out.2.1
 obtain ⟨b0,b1,b2,b3,b4,b5,b6,b7,b8,b9,b10,b11,b12,b13,b14,b15⟩:=cells16 H6.out.2.2
 go_wp2_with fail
 all_goals
  go_ret
  exact ⟨rfl,H6.out.1⟩
end Go.Proofs.YthaliljaglldjaaGreat
/- posternref07.form at a thing of the kind 1. (gen_form7.py) -/
namespace Go.Proofs.YthaliljaglldjaaGreat
open Go.RowKit Go.ChangeMaps Go.MapKept
set_option maxHeartbeats 16000000 in
set_option maxRecDepth 20000 in
theorem form7_1_ne (w:World) (sides:Int) (h:Int) (hh:0 ≤ h∧h < sides) (n:Int) (hn:0 ≤ n∧n ≤ 9007199254740992) (hn0:n ≠ 0) :
 Calls Tryz.prog 81 #[.agg #[.int .u8 1,.int .i64 h,.int .u8 0,.int .i64 0,.string ⟨#[]⟩,.slice none 0 0,.int .i64 0,.slice none 0 0,.int .i64 n,.int .i64 0,.int .i64 0,.int .i64 0,.int .u8 0,.bool false,.slice none 0 0,.slice none 0 0],.int .i64 sides] w fun e w'=>e = .returned (.bool false)∧Below w.heap.size w w':=by
 have hh1:¬ h < 0:=by omega
 have hh2:¬ h ≥ sides:=by omega
 clear hh
 have hn1:¬ n < 0:=by omega
 have hn2:¬ n > 9007199254740992:=by omega
 have hnb:(n == 0) = false:=by simpa using hn0
 clear hn0
 clear hn
 have H5:=(show Hid _ from two_what w #[.int .u8 1,.int .i64 h,.int .u8 0,.int .i64 0,.string ⟨#[]⟩,.slice none 0 0,.int .i64 0,.slice none 0 0,.int .i64 n,.int .i64 0,.int .i64 0,.int .i64 0,.int .u8 0,.bool false,.slice none 0 0,.slice none 0 0] #[.int .u8 1,.int .i64 h,.int .u8 0,.int .i64 0,.string ⟨#[]⟩,.slice none 0 0,.int .i64 0,.slice none 0 0,.int .i64 0,.int .i64 0,.int .i64 0,.int .i64 0,.int .u8 0,.bool false,.slice none 0 0,.slice none 0 0])
 go_enter Tryz.func81,Tryz.ntmps81
 go_upto_region 51 with fail
 have H5:=(show Hid (_∧_∧_) from H5.out _ (.inl rfl))
 revert H5
 generalize World.alloc (World.alloc w _) _ = w5
 intro H5
 obtain ⟨a0,a1,a2,a3,a4,a5,a6,a7,a8,a9,a10,a11,a12,a13,a14,a15⟩:=cells16 H5.out.2.1
 obtain ⟨b0,b1,b2,b3,b4,b5,b6,b7,b8,b9,b10,b11,b12,b13,b14,b15⟩:=cells16 H5.out.2.2
 go_wp2_with fail
 refine (may4_nil w5).mono ?_
 rintro e w6 ⟨rfl,hb6⟩
 have H6:=(show Hid (Below w.heap.size w w6∧_∧_) from ⟨H5.out.1.trans (hb6.mono H5.out.1.size),below_blk hb6 H5.out.2.1,below_blk hb6 H5.out.2.2⟩)
 clear hb6 H5
 clear a0 a1 a2 a3 a4 a5 a6 a7 a8 a9 a10 a11 a12 a13 a14 a15 b0 b1 b2 b3 b4 b5 b6 b7 b8 b9 b10 b11 b12 b13 b14 b15
 obtain ⟨a0,a1,a2,a3,a4,a5,a6,a7,a8,a9,a10,a11,a12,a13,a14,a15⟩:=cells16 H6.out.2.1
 obtain ⟨b0,b1,b2,b3,b4,b5,b6,b7,b8,b9,b10,b11,b12,b13,b14,b15⟩:=cells16 H6.out.2.2
 go_wp2_with fail
 refine (same4_nil w6).mono ?_
 rintro e w7 ⟨rfl,hb7⟩
 have H7:=(show Hid (Below w.heap.size w w7∧_∧_) from ⟨H6.out.1.trans (hb7.mono H6.out.1.size),below_blk hb7 H6.out.2.1,below_blk hb7 H6.out.2.2⟩)
 clear hb7 H6
 clear a0 a1 a2 a3 a4 a5 a6 a7 a8 a9 a10 a11 a12 a13 a14 a15 b0 b1 b2 b3 b4 b5 b6 b7 b8 b9 b10 b11 b12 b13 b14 b15
 obtain ⟨a0,a1,a2,a3,a4,a5,a6,a7,a8,a9,a10,a11,a12,a13,a14,a15⟩:=cells16 H7.out.2.1
 obtain ⟨b0,b1,b2,b3,b4,b5,b6,b7,b8,b9,b10,b11,b12,b13,b14,b15⟩:=cells16 H7.out.2.2
 go_wp2_with fail
 all_goals
  go_ret
  exact ⟨rfl,H7.out.1⟩
end Go.Proofs.YthaliljaglldjaaGreat
