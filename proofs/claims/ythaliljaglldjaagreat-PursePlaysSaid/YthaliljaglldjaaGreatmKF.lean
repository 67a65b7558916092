/- A part of the proof, several texts in one: R7F10out, R7F12ne, R7F12out, R7F13ne, R7F13out, R7F3out, R7F8out, R7F8lost, R7F9out, PyB, QtM, FuK. -/
import Derived.Test.YthaliljaglldjaaGreatmAN
import Derived.Test.YthaliljaglldjaaGreatmAC
/- posternref07.form at a thing of the kind 8. (gen_form7.py) -/
namespace Go.Proofs.YthaliljaglldjaaGreat
open Go.RowKit Go.ChangeMaps Go.MapKept
set_option maxHeartbeats 16000000 in
set_option maxRecDepth 20000 in
theorem form7_8_out (w:World) (sides:Int) (h:Int) (hh:0 ≤ h∧h < sides) (n:Int) (hn:n < 0∨9007199254740992 < n) (lo:Int) (hlo:0 ≤ lo∧lo ≤ n) :
 Calls Tryz.prog 81 #[.agg #[.int .u8 8,.int .i64 h,.int .u8 0,.int .i64 0,.string ⟨#[]⟩,.slice none 0 0,.int .i64 0,.slice none 0 0,.int .i64 n,.int .i64 lo,.int .i64 0,.int .i64 0,.int .u8 0,.bool false,.slice none 0 0,.slice none 0 0],.int .i64 sides] w fun e w'=>e = .returned (.bool false)∧Below w.heap.size w w':=by
 have hh1:¬ h < 0:=by omega
 have hh2:¬ h ≥ sides:=by omega
 clear hh
 have hl1:¬ lo < 0:=by omega
 have hl2:¬ lo > n:=by omega
 clear hlo
 have Hn:=(show Hid _ from hn)
 clear hn
 have H5:=(show Hid _ from two_what w #[.int .u8 8,.int .i64 h,.int .u8 0,.int .i64 0,.string ⟨#[]⟩,.slice none 0 0,.int .i64 0,.slice none 0 0,.int .i64 n,.int .i64 lo,.int .i64 0,.int .i64 0,.int .u8 0,.bool false,.slice none 0 0,.slice none 0 0] #[.int .u8 8,.int .i64 h,.int .u8 0,.int .i64 0,.string ⟨#[]⟩,.slice none 0 0,.int .i64 0,.slice none 0 0,.int .i64 n,.int .i64 lo,.int .i64 0,.int .i64 0,.int .u8 0,.bool false,.slice none 0 0,.slice none 0 0])
 go_enter Tryz.func81,Tryz.ntmps81
 go_upto_region 26 with fail
 go_cut [] (fun wx=>Hid (Below w.heap.size w wx∧wx.heap[w.heap.size]? = some (.cells #[.int .u8 8,.int .i64 h,.int .u8 0,.int .i64 0,.string ⟨#[]⟩,.slice none 0 0,.int .i64 0,.slice none 0 0,.int .i64 n,.int .i64 lo,.int .i64 0,.int .i64 0,.int .u8 0,.bool false,.slice none 0 0,.slice none 0 0] 46 (0,0))∧wx.heap[w.heap.size + 1]? = some (.cells #[.int .u8 8,.int .i64 h,.int .u8 0,.int .i64 0,.string ⟨#[]⟩,.slice none 0 0,.int .i64 0,.slice none 0 0,.int .i64 n,.int .i64 lo,.int .i64 0,.int .i64 0,.int .u8 0,.bool false,.slice none 0 0,.slice none 0 0] 46 (0,0))))
 case first =>
  go_region
  all_goals
   go_wp2_with fail
   go_meet
   case rel=>first | exact H5.out _ (.inr rfl) | exact H5.out _ (.inl rfl)
 have H5:=hcut
 clear hcut
 generalize wc = w5 at *
 obtain ⟨a0,a1,a2,a3,a4,a5,a6,a7,a8,a9,a10,a11,a12,a13,a14,a15⟩:=cells16 H5.out.2.1
 obtain ⟨b0,b1,b2,b3,b4,b5,b6,b7,b8,b9,b10,b11,b12,b13,b14,b15⟩:=cells16 H5.out.2.2
 go_upto_region 51 with fail
 clear a0 a1 a2 a3 a4 a5 a6 a7 a8 a9 a10 a11 a12 a13 a14 a15 b0 b1 b2 b3 b4 b5 b6 b7 b8 b9 b10 b11 b12 b13 b14 b15
 obtain ⟨a0,a1,a2,a3,a4,a5,a6,a7,a8,a9,a10,a11,a12,a13,a14,a15⟩:=cells16 H5.out.2.1
 obtain ⟨b0,b1,b2,b3,b4,b5,b6,b7,b8,b9,b10,b11,b12,b13,b14,b15⟩:=cells16 H5.out.2.2
 obtain hn:9007199254740992 < n:=Hn.out.resolve_left (by omega)
 have hn1:¬ n < 0:=by omega
 have hn2:n > 9007199254740992:=hn
 go_wp2_with fail
 go_ret
 exact ⟨rfl,H5.out.1⟩
end Go.Proofs.YthaliljaglldjaaGreat
/- posternref07.form at a thing of the kind 8. (gen_form7.py) -/
namespace Go.Proofs.YthaliljaglldjaaGreat
open Go.RowKit Go.ChangeMaps Go.MapKept
set_option maxHeartbeats 16000000 in
set_option maxRecDepth 20000 in
theorem form7_8_lost (w:World) (sides:Int) (h:Int) (hh:0 ≤ h∧h < sides) (n:Int) (lo:Int) (hlo:0 ≤ lo∧lo > n) :
 Calls Tryz.prog 81 #[.agg #[.int .u8 8,.int .i64 h,.int .u8 0,.int .i64 0,.string ⟨#[]⟩,.slice none 0 0,.int .i64 0,.slice none 0 0,.int .i64 n,.int .i64 lo,.int .i64 0,.int .i64 0,.int .u8 0,.bool false,.slice none 0 0,.slice none 0 0],.int .i64 sides] w fun e w'=>e = .returned (.bool false)∧Below w.heap.size w w':=by
 have hh1:¬ h < 0:=by omega
 have hh2:¬ h ≥ sides:=by omega
 clear hh
 have hl1:¬ lo < 0:=by omega
 have hl2:lo > n:=by omega
 clear hlo
 have H5:=(show Hid _ from two_what w #[.int .u8 8,.int .i64 h,.int .u8 0,.int .i64 0,.string ⟨#[]⟩,.slice none 0 0,.int .i64 0,.slice none 0 0,.int .i64 n,.int .i64 lo,.int .i64 0,.int .i64 0,.int .u8 0,.bool false,.slice none 0 0,.slice none 0 0] #[.int .u8 8,.int .i64 h,.int .u8 0,.int .i64 0,.string ⟨#[]⟩,.slice none 0 0,.int .i64 0,.slice none 0 0,.int .i64 n,.int .i64 lo,.int .i64 0,.int .i64 0,.int .u8 0,.bool false,.slice none 0 0,.slice none 0 0])
 go_enter Tryz.func81,Tryz.ntmps81
 go_upto_region 26 with fail
 go_region
 all_goals
  go_wp2_with fail
  go_ret
  first | exact ⟨rfl,(H5.out _ (.inr rfl)).1⟩ | exact ⟨rfl,(H5.out _ (.inl rfl)).1⟩
end Go.Proofs.YthaliljaglldjaaGreat
/- posternref07.form at a thing of the kind 9. (gen_form7.py) -/
namespace Go.Proofs.YthaliljaglldjaaGreat
open Go.RowKit Go.ChangeMaps Go.MapKept
set_option maxHeartbeats 16000000 in
set_option maxRecDepth 20000 in
theorem form7_9_out (w:World) (sides:Int) (h:Int) (hh:0 ≤ h∧h < sides) (n:Int) (hn:n < 0∨9007199254740992 < n) (tg:Int) :
 Calls Tryz.prog 81 #[.agg #[.int .u8 9,.int .i64 h,.int .u8 0,.int .i64 0,.string ⟨#[]⟩,.slice none 0 0,.int .i64 0,.slice none 0 0,.int .i64 n,.int .i64 0,.int .i64 tg,.int .i64 0,.int .u8 0,.bool false,.slice none 0 0,.slice none 0 0],.int .i64 sides] w fun e w'=>e = .returned (.bool false)∧Below w.heap.size w w':=by
 have hh1:¬ h < 0:=by omega
 have hh2:¬ h ≥ sides:=by omega
 clear hh
 have Hn:=(show Hid _ from hn)
 clear hn
 have H5:=(show Hid _ from two_what w #[.int .u8 9,.int .i64 h,.int .u8 0,.int .i64 0,.string ⟨#[]⟩,.slice none 0 0,.int .i64 0,.slice none 0 0,.int .i64 n,.int .i64 0,.int .i64 tg,.int .i64 0,.int .u8 0,.bool false,.slice none 0 0,.slice none 0 0] #[.int .u8 9,.int .i64 h,.int .u8 0,.int .i64 0,.string ⟨#[]⟩,.slice none 0 0,.int .i64 0,.slice none 0 0,.int .i64 n,.int .i64 0,.int .i64 tg,.int .i64 0,.int .u8 0,.bool false,.slice none 0 0,.slice none 0 0])
 go_enter Tryz.func81,Tryz.ntmps81
 go_upto_block 0 with fail
 go_cut [7,8,9] (fun a7 a8 a9 wx=>a7 = .bool false∧a8 = .bool false∧a9 = .bool false∧Hid (Below w.heap.size w wx∧wx.heap[w.heap.size]? = some (.cells #[.int .u8 9,.int .i64 h,.int .u8 0,.int .i64 0,.string ⟨#[]⟩,.slice none 0 0,.int .i64 0,.slice none 0 0,.int .i64 n,.int .i64 0,.int .i64 tg,.int .i64 0,.int .u8 0,.bool false,.slice none 0 0,.slice none 0 0] 46 (0,0))∧wx.heap[w.heap.size + 1]? = some (.cells #[.int .u8 9,.int .i64 h,.int .u8 0,.int .i64 0,.string ⟨#[]⟩,.slice none 0 0,.int .i64 0,.slice none 0 0,.int .i64 n,.int .i64 0,.int .i64 tg,.int .i64 0,.int .u8 0,.bool false,.slice none 0 0,.slice none 0 0] 46 (0,0))))
 case first =>
  go_upto_region 30 with fail
  go_region
  all_goals
   go_wp2_with fail
   go_meet
   case rel=>first | exact ⟨rfl,rfl,rfl,H5.out _ (.inr rfl)⟩ | exact ⟨rfl,rfl,rfl,H5.out _ (.inl rfl)⟩
 clear H5
 obtain ⟨rfl,rfl,rfl,H5⟩:=hcut
 generalize wc = w5 at *
 obtain ⟨a0,a1,a2,a3,a4,a5,a6,a7,a8,a9,a10,a11,a12,a13,a14,a15⟩:=cells16 H5.out.2.1
 obtain ⟨b0,b1,b2,b3,b4,b5,b6,b7,b8,b9,b10,b11,b12,b13,b14,b15⟩:=cells16 H5.out.2.2
 rcases Hn.out with hn | hn
 ·go_wp2_with fail
  go_ret
  exact ⟨rfl,H5.out.1⟩
 ·have hn1:¬ n < 0:=by omega
  have hn2:n > 9007199254740992:=hn
  go_wp2_with fail
  go_ret
  exact ⟨rfl,H5.out.1⟩
end Go.Proofs.YthaliljaglldjaaGreat
