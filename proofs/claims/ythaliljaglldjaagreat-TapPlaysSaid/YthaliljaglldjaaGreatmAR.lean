/- Part of the proof. -/
import Derived.StillTailTactics
import Derived.BigRegion
import Derived.Test.YthaliljaglldjaaGreatmAB
import Derived.Test.YthaliljaglldjaaGreatmAC
namespace Go.Proofs.YthaliljaglldjaaGreat
set_option maxHeartbeats 16000000
set_option maxRecDepth 20000
open Go.RowKit Go.ChangeMaps Go.MapKept
section
theorem bare_0 (w:World) (h vn vr n l tg bi vk s:Int) (vs:ByteArray) (fu:Bool) (a1 a2 a3 a4:Option Addr) (n1 c1 n2 c2 n3 c3 n4 c4:Nat) :
 Calls Tryz.prog 159 #[.agg #[.int .u8 0,.int .i64 h,.int .u8 vk,.int .i64 vn,.string vs,.slice a1 n1 c1,.int .i64 vr,.slice a2 n2 c2,.int .i64 n,.int .i64 l,.int .i64 tg,.int .i64 bi,.int .u8 s,.bool fu,.slice a3 n3 c3,.slice a4 n4 c4]] w fun e w'=>e=.returned (.agg (wr 0 h 0 0 0 0 0 0 0 false))/\Below w.heap.size w w':=by
 go_enter Tryz.func159,Tryz.ntmps159
 go_wp2
 refine bodyPost_ret (results_What rfl _ _ _ _ _ rfl (blk_at1 _ _ _ _ rfl) rfl) rfl ⟨rfl,by go_grown⟩
theorem bare_1 (w:World) (h vn vr n l tg bi vk s:Int) (vs:ByteArray) (fu:Bool) (a1 a2 a3 a4:Option Addr) (n1 c1 n2 c2 n3 c3 n4 c4:Nat) :
 Calls Tryz.prog 159 #[.agg #[.int .u8 1,.int .i64 h,.int .u8 vk,.int .i64 vn,.string vs,.slice a1 n1 c1,.int .i64 vr,.slice a2 n2 c2,.int .i64 n,.int .i64 l,.int .i64 tg,.int .i64 bi,.int .u8 s,.bool fu,.slice a3 n3 c3,.slice a4 n4 c4]] w fun e w'=>e=.returned (.agg #[.int .u8 1,.int .i64 h,.int .u8 vk,.int .i64 vn,.string vs,.slice a1 n1 c1,.int .i64 vr,.slice none 0 0,.int .i64 0,.int .i64 0,.int .i64 0,.int .i64 0,.int .u8 0,.bool false,.slice none 0 0,.slice none 0 0])/\Below w.heap.size w w':=by
 go_enter Tryz.func159,Tryz.ntmps159
 go_wp2
 refine bodyPost_ret (results_What rfl _ _ _ _ _ rfl (blk_at1 _ _ _ _ rfl) rfl) rfl ⟨rfl,by go_grown⟩
theorem bare_2 (w:World) (h vn vr n l tg bi vk s:Int) (vs:ByteArray) (fu:Bool) (a1 a2 a3 a4:Option Addr) (n1 c1 n2 c2 n3 c3 n4 c4:Nat) :
 Calls Tryz.prog 159 #[.agg #[.int .u8 2,.int .i64 h,.int .u8 vk,.int .i64 vn,.string vs,.slice a1 n1 c1,.int .i64 vr,.slice a2 n2 c2,.int .i64 n,.int .i64 l,.int .i64 tg,.int .i64 bi,.int .u8 s,.bool fu,.slice a3 n3 c3,.slice a4 n4 c4]] w fun e w'=>e=.returned (.agg #[.int .u8 2,.int .i64 h,.int .u8 0,.int .i64 0,.string ⟨#[]⟩,.slice none 0 0,.int .i64 0,.slice a2 n2 c2,.int .i64 0,.int .i64 0,.int .i64 0,.int .i64 0,.int .u8 0,.bool false,.slice none 0 0,.slice none 0 0])/\Below w.heap.size w w':=by
 go_enter Tryz.func159,Tryz.ntmps159
 go_wp2
 refine bodyPost_ret (results_What rfl _ _ _ _ _ rfl (blk_at1 _ _ _ _ rfl) rfl) rfl ⟨rfl,by go_grown⟩
theorem bare_3 (w:World) (h vn vr n l tg bi vk s:Int) (vs:ByteArray) (fu:Bool) (a1 a2 a3 a4:Option Addr) (n1 c1 n2 c2 n3 c3 n4 c4:Nat) :
 Calls Tryz.prog 159 #[.agg #[.int .u8 3,.int .i64 h,.int .u8 vk,.int .i64 vn,.string vs,.slice a1 n1 c1,.int .i64 vr,.slice a2 n2 c2,.int .i64 n,.int .i64 l,.int .i64 tg,.int .i64 bi,.int .u8 s,.bool fu,.slice a3 n3 c3,.slice a4 n4 c4]] w fun e w'=>e=.returned (.agg (wr 3 h 0 0 n 0 0 0 0 false))/\Below w.heap.size w w':=by
 go_enter Tryz.func159,Tryz.ntmps159
 go_wp2
 refine bodyPost_ret (results_What rfl _ _ _ _ _ rfl (blk_at1 _ _ _ _ rfl) rfl) rfl ⟨rfl,by go_grown⟩
theorem bare_4 (w:World) (h vn vr n l tg bi vk s:Int) (vs:ByteArray) (fu:Bool) (a1 a2 a3 a4:Option Addr) (n1 c1 n2 c2 n3 c3 n4 c4:Nat) :
 Calls Tryz.prog 159 #[.agg #[.int .u8 4,.int .i64 h,.int .u8 vk,.int .i64 vn,.string vs,.slice a1 n1 c1,.int .i64 vr,.slice a2 n2 c2,.int .i64 n,.int .i64 l,.int .i64 tg,.int .i64 bi,.int .u8 s,.bool fu,.slice a3 n3 c3,.slice a4 n4 c4]] w fun e w'=>e=.returned (.agg #[.int .u8 4,.int .i64 h,.int .u8 0,.int .i64 0,.string ⟨#[]⟩,.slice none 0 0,.int .i64 0,.slice a2 n2 c2,.int .i64 0,.int .i64 0,.int .i64 0,.int .i64 0,.int .u8 0,.bool false,.slice none 0 0,.slice none 0 0])/\Below w.heap.size w w':=by
 go_enter Tryz.func159,Tryz.ntmps159
 go_wp2
 refine bodyPost_ret (results_What rfl _ _ _ _ _ rfl (blk_at1 _ _ _ _ rfl) rfl) rfl ⟨rfl,by go_grown⟩
theorem bare_5 (w:World) (h vn vr n l tg bi vk s:Int) (vs:ByteArray) (fu:Bool) (a1 a2 a3 a4:Option Addr) (n1 c1 n2 c2 n3 c3 n4 c4:Nat) :
 Calls Tryz.prog 159 #[.agg #[.int .u8 5,.int .i64 h,.int .u8 vk,.int .i64 vn,.string vs,.slice a1 n1 c1,.int .i64 vr,.slice a2 n2 c2,.int .i64 n,.int .i64 l,.int .i64 tg,.int .i64 bi,.int .u8 s,.bool fu,.slice a3 n3 c3,.slice a4 n4 c4]] w fun e w'=>e=.returned (.agg (wr 5 h 0 0 0 0 0 0 0 false))/\Below w.heap.size w w':=by
 go_enter Tryz.func159,Tryz.ntmps159
 go_wp2
 refine bodyPost_ret (results_What rfl _ _ _ _ _ rfl (blk_at1 _ _ _ _ rfl) rfl) rfl ⟨rfl,by go_grown⟩
theorem bare_6 (w:World) (h vn vr n l tg bi vk s:Int) (vs:ByteArray) (fu:Bool) (a1 a2 a3 a4:Option Addr) (n1 c1 n2 c2 n3 c3 n4 c4:Nat) :
 Calls Tryz.prog 159 #[.agg #[.int .u8 6,.int .i64 h,.int .u8 vk,.int .i64 vn,.string vs,.slice a1 n1 c1,.int .i64 vr,.slice a2 n2 c2,.int .i64 n,.int .i64 l,.int .i64 tg,.int .i64 bi,.int .u8 s,.bool fu,.slice a3 n3 c3,.slice a4 n4 c4]] w fun e w'=>e=.returned (.agg (wr 6 h 0 0 0 0 tg 0 0 false))/\Below w.heap.size w w':=by
 go_enter Tryz.func159,Tryz.ntmps159
 go_wp2
 refine bodyPost_ret (results_What rfl _ _ _ _ _ rfl (blk_at1 _ _ _ _ rfl) rfl) rfl ⟨rfl,by go_grown⟩
theorem bare_7 (w:World) (h vn vr n l tg bi vk s:Int) (vs:ByteArray) (fu:Bool) (a1 a2 a3 a4:Option Addr) (n1 c1 n2 c2 n3 c3 n4 c4:Nat) :
 Calls Tryz.prog 159 #[.agg #[.int .u8 7,.int .i64 h,.int .u8 vk,.int .i64 vn,.string vs,.slice a1 n1 c1,.int .i64 vr,.slice a2 n2 c2,.int .i64 n,.int .i64 l,.int .i64 tg,.int .i64 bi,.int .u8 s,.bool fu,.slice a3 n3 c3,.slice a4 n4 c4]] w fun e w'=>e=.returned (.agg #[.int .u8 7,.int .i64 h,.int .u8 vk,.int .i64 vn,.string vs,.slice a1 n1 c1,.int .i64 vr,.slice none 0 0,.int .i64 0,.int .i64 0,.int .i64 tg,.int .i64 0,.int .u8 0,.bool false,.slice none 0 0,.slice none 0 0])/\Below w.heap.size w w':=by
 go_enter Tryz.func159,Tryz.ntmps159
 go_wp2
 go_region
 all_goals go_wp2
 all_goals refine bodyPost_ret (results_What rfl _ _ _ _ _ rfl (blk_at1d _ _ _ _ rfl) rfl) rfl ⟨rfl,by go_grown⟩
theorem bare_8 (w:World) (h vn vr n l tg bi vk s:Int) (vs:ByteArray) (fu:Bool) (a1 a2 a3 a4:Option Addr) (n1 c1 n2 c2 n3 c3 n4 c4:Nat) :
 Calls Tryz.prog 159 #[.agg #[.int .u8 8,.int .i64 h,.int .u8 vk,.int .i64 vn,.string vs,.slice a1 n1 c1,.int .i64 vr,.slice a2 n2 c2,.int .i64 n,.int .i64 l,.int .i64 tg,.int .i64 bi,.int .u8 s,.bool fu,.slice a3 n3 c3,.slice a4 n4 c4]] w fun e w'=>e=.returned (.agg (wr 8 h 0 0 n l 0 0 0 false))/\Below w.heap.size w w':=by
 go_enter Tryz.func159,Tryz.ntmps159
 go_wp2
 go_region
 all_goals go_wp2
 all_goals refine bodyPost_ret (results_What rfl _ _ _ _ _ rfl (blk_at1d _ _ _ _ rfl) rfl) rfl ⟨rfl,by go_grown⟩
theorem bare_9 (w:World) (h vn vr n l tg bi vk s:Int) (vs:ByteArray) (fu:Bool) (a1 a2 a3 a4:Option Addr) (n1 c1 n2 c2 n3 c3 n4 c4:Nat) :
 Calls Tryz.prog 159 #[.agg #[.int .u8 9,.int .i64 h,.int .u8 vk,.int .i64 vn,.string vs,.slice a1 n1 c1,.int .i64 vr,.slice a2 n2 c2,.int .i64 n,.int .i64 l,.int .i64 tg,.int .i64 bi,.int .u8 s,.bool fu,.slice a3 n3 c3,.slice a4 n4 c4]] w fun e w'=>e=.returned (.agg (wr 9 h 0 0 n 0 tg 0 0 false))/\Below w.heap.size w w':=by
 go_enter Tryz.func159,Tryz.ntmps159
 go_wp2
 go_region
 all_goals go_wp2
 all_goals refine bodyPost_ret (results_What rfl _ _ _ _ _ rfl (blk_at1d _ _ _ _ rfl) rfl) rfl ⟨rfl,by go_grown⟩
theorem bare_10 (w:World) (h vn vr n l tg bi vk s:Int) (vs:ByteArray) (fu:Bool) (a1 a2 a3 a4:Option Addr) (n1 c1 n2 c2 n3 c3 n4 c4:Nat) :
 Calls Tryz.prog 159 #[.agg #[.int .u8 10,.int .i64 h,.int .u8 vk,.int .i64 vn,.string vs,.slice a1 n1 c1,.int .i64 vr,.slice a2 n2 c2,.int .i64 n,.int .i64 l,.int .i64 tg,.int .i64 bi,.int .u8 s,.bool fu,.slice a3 n3 c3,.slice a4 n4 c4]] w fun e w'=>e=.returned (.agg #[.int .u8 10,.int .i64 h,.int .u8 vk,.int .i64 vn,.string vs,.slice a1 n1 c1,.int .i64 vr,.slice none 0 0,.int .i64 0,.int .i64 0,.int .i64 0,.int .i64 0,.int .u8 0,.bool fu,.slice none 0 0,.slice none 0 0])/\Below w.heap.size w w':=by
 go_enter Tryz.func159,Tryz.ntmps159
 go_wp2
 go_region
 all_goals go_wp2
 all_goals refine bodyPost_ret (results_What rfl _ _ _ _ _ rfl (blk_at1d _ _ _ _ rfl) rfl) rfl ⟨rfl,by go_grown⟩
theorem bare_11 (w:World) (h vn vr n l tg bi vk s:Int) (vs:ByteArray) (fu:Bool) (a1 a2 a3 a4:Option Addr) (n1 c1 n2 c2 n3 c3 n4 c4:Nat) :
 Calls Tryz.prog 159 #[.agg #[.int .u8 11,.int .i64 h,.int .u8 vk,.int .i64 vn,.string vs,.slice a1 n1 c1,.int .i64 vr,.slice a2 n2 c2,.int .i64 n,.int .i64 l,.int .i64 tg,.int .i64 bi,.int .u8 s,.bool fu,.slice a3 n3 c3,.slice a4 n4 c4]] w fun e w'=>e=.returned (.agg (wr 11 h 0 0 0 0 tg 0 0 false))/\Below w.heap.size w w':=by
 go_enter Tryz.func159,Tryz.ntmps159
 go_wp2
 refine bodyPost_ret (results_What rfl _ _ _ _ _ rfl (blk_at1 _ _ _ _ rfl) rfl) rfl ⟨rfl,by go_grown⟩
theorem bare_12 (w:World) (h vn vr n l tg bi vk s:Int) (vs:ByteArray) (fu:Bool) (a1 a2 a3 a4:Option Addr) (n1 c1 n2 c2 n3 c3 n4 c4:Nat) :
 Calls Tryz.prog 159 #[.agg #[.int .u8 12,.int .i64 h,.int .u8 vk,.int .i64 vn,.string vs,.slice a1 n1 c1,.int .i64 vr,.slice a2 n2 c2,.int .i64 n,.int .i64 l,.int .i64 tg,.int .i64 bi,.int .u8 s,.bool fu,.slice a3 n3 c3,.slice a4 n4 c4]] w fun e w'=>e=.returned (.agg #[.int .u8 12,.int .i64 h,.int .u8 0,.int .i64 0,.string ⟨#[]⟩,.slice none 0 0,.int .i64 0,.slice none 0 0,.int .i64 0,.int .i64 0,.int .i64 0,.int .i64 0,.int .u8 0,.bool false,.slice a3 n3 c3,.slice a4 n4 c4])/\Below w.heap.size w w':=by
 go_enter Tryz.func159,Tryz.ntmps159
 go_wp2
 go_region
 all_goals go_wp2
 all_goals refine bodyPost_ret (results_What rfl _ _ _ _ _ rfl (blk_at1d _ _ _ _ rfl) rfl) rfl ⟨rfl,by go_grown⟩
theorem bare_13 (w:World) (h vn vr n l tg bi vk s:Int) (vs:ByteArray) (fu:Bool) (a1 a2 a3 a4:Option Addr) (n1 c1 n2 c2 n3 c3 n4 c4:Nat) :
 Calls Tryz.prog 159 #[.agg #[.int .u8 13,.int .i64 h,.int .u8 vk,.int .i64 vn,.string vs,.slice a1 n1 c1,.int .i64 vr,.slice a2 n2 c2,.int .i64 n,.int .i64 l,.int .i64 tg,.int .i64 bi,.int .u8 s,.bool fu,.slice a3 n3 c3,.slice a4 n4 c4]] w fun e w'=>e=.returned (.agg (wr 13 h 0 0 0 0 tg 0 0 fu))/\Below w.heap.size w w':=by
 go_enter Tryz.func159,Tryz.ntmps159
 go_wp2
 go_region
 all_goals go_wp2
 all_goals refine bodyPost_ret (results_What rfl _ _ _ _ _ rfl (blk_at1d _ _ _ _ rfl) rfl) rfl ⟨rfl,by go_grown⟩
theorem bare_14 (w:World) (h vn vr n l tg bi vk s:Int) (vs:ByteArray) (fu:Bool) (a1 a2 a3 a4:Option Addr) (n1 c1 n2 c2 n3 c3 n4 c4:Nat) :
 Calls Tryz.prog 159 #[.agg #[.int .u8 14,.int .i64 h,.int .u8 vk,.int .i64 vn,.string vs,.slice a1 n1 c1,.int .i64 vr,.slice a2 n2 c2,.int .i64 n,.int .i64 l,.int .i64 tg,.int .i64 bi,.int .u8 s,.bool fu,.slice a3 n3 c3,.slice a4 n4 c4]] w fun e w'=>e=.returned (.agg (wr 14 0 0 0 0 0 tg 0 s false))/\Below w.heap.size w w':=by
 go_enter Tryz.func159,Tryz.ntmps159
 go_wp2
 refine bodyPost_ret (results_What rfl _ _ _ _ _ rfl (blk_at1 _ _ _ _ rfl) rfl) rfl ⟨rfl,by go_grown⟩
theorem bare_15 (w:World) (h vn vr n l tg bi vk s:Int) (vs:ByteArray) (fu:Bool) (a1 a2 a3 a4:Option Addr) (n1 c1 n2 c2 n3 c3 n4 c4:Nat) :
 Calls Tryz.prog 159 #[.agg #[.int .u8 15,.int .i64 h,.int .u8 vk,.int .i64 vn,.string vs,.slice a1 n1 c1,.int .i64 vr,.slice a2 n2 c2,.int .i64 n,.int .i64 l,.int .i64 tg,.int .i64 bi,.int .u8 s,.bool fu,.slice a3 n3 c3,.slice a4 n4 c4]] w fun e w'=>e=.returned (.agg (wr 15 h 0 0 0 0 tg bi 0 false))/\Below w.heap.size w w':=by
 go_enter Tryz.func159,Tryz.ntmps159
 go_wp2
 go_region
 all_goals go_wp2
 all_goals refine bodyPost_ret (results_What rfl _ _ _ _ _ rfl (blk_at1d _ _ _ _ rfl) rfl) rfl ⟨rfl,by go_grown⟩
theorem bare_16 (w:World) (h vn vr n l tg bi vk s:Int) (vs:ByteArray) (fu:Bool) (a1 a2 a3 a4:Option Addr) (n1 c1 n2 c2 n3 c3 n4 c4:Nat) :
 Calls Tryz.prog 159 #[.agg #[.int .u8 16,.int .i64 h,.int .u8 vk,.int .i64 vn,.string vs,.slice a1 n1 c1,.int .i64 vr,.slice a2 n2 c2,.int .i64 n,.int .i64 l,.int .i64 tg,.int .i64 bi,.int .u8 s,.bool fu,.slice a3 n3 c3,.slice a4 n4 c4]] w fun e w'=>e=.returned (.agg (wr 16 h 0 0 0 0 tg bi 0 false))/\Below w.heap.size w w':=by
 go_enter Tryz.func159,Tryz.ntmps159
 go_wp2
 go_region
 all_goals go_wp2
 all_goals refine bodyPost_ret (results_What rfl _ _ _ _ _ rfl (blk_at1d _ _ _ _ rfl) rfl) rfl ⟨rfl,by go_grown⟩
end
section
variable {w:World} {p:Nat} {M:WM} {F:Nat->Prop}
theorem form_1 (hW:IsW w p M F) (h vk vn:Int) (hs:sideB M h=true) (hv:Plain vk vn):Calls Tryz.prog 74 #[.pointer (some ⟨p,0,none⟩),.agg (wr 1 h vk vn 0 0 0 0 0 false)] w fun e w'=>e=.returned (.bool true)/\Below w.heap.size w w':=by
 have hP:Plain vk vn:=hv;have hV:∀ w:World,Calls Tryz.prog 161 #[.agg #[.int .u8 vk,.int .i64 vn,.string ⟨#[]⟩,.slice none 0 0,.int .i64 0]] w fun e w'=>e=.returned (.bool true)/\Below w.heap.size w w':=fun w=>vMay_W w vk vn hP
 rcases hv with ⟨rfl,rfl⟩ | rfl
 ·go_enter Tryz.func74,Tryz.ntmps74
  go_wp2_with fail
  refine(bare_1 _ h 0 0 0 0 0 0 0 0 ⟨#[]⟩ false none none none none 0 0 0 0 0 0 0 0).mono ?_;rintro e w1 ⟨rfl,hb1⟩;have B1:=below_blk hb1 (blk_new _ _);have aa:=cells16 B1;have hz1:w.heap.size<w1.heap.size:=by have:=hb1.size;simp at this;omega
  have HB1:Hid (Below w.heap.size w w1):=((Below.refl _ _).alloc (Nat.le_refl _) _).trans (hb1.mono (by simp;try omega));clear hb1
  go_wp2_with fail
  refine(blank0_W _).mono ?_;rintro e w2 ⟨rfl,hb2⟩;have B2:=below_blk hb2 (blk_old _ _ B1);clear aa;have aa:=cells16 B2;have hz2:w.heap.size<w2.heap.size:=by have:=hb2.size;simp at this;omega
  have HB2:Hid (Below w.heap.size w w2):=(HB1.out.alloc (by first | omega | (simp;try omega)) _).trans (hb2.mono (by first | omega | (simp;try omega)));clear hb2 B1 HB1 hz1
  go_wp2_with fail
  refine(blank0_W _).mono ?_;rintro e w3 ⟨rfl,hb3⟩;have B3:=below_blk hb3 B2;clear aa;have aa:=cells16 B3;have hz3:w.heap.size<w3.heap.size:=by have:=hb3.size;omega
  have HB3:Hid (Below w.heap.size w w3):=HB2.out.trans (hb3.mono (by first | omega | (simp;try omega)));clear hb3 B2 HB2 hz2
  go_wp2_with fail
  refine(side_W (hW.below HB3.out) h).mono ?_;rw [hs];rintro e _ ⟨rfl,rfl⟩
  go_wp2_with fail
  refine(hV _).mono ?_;rintro e w4 ⟨rfl,hb4⟩;have B4:=below_blk hb4 B3;clear aa;have aa:=cells16 B4;have hz4:w.heap.size<w4.heap.size:=by have:=hb4.size;omega
  have HB4:Hid (Below w.heap.size w w4):=HB3.out.trans (hb4.mono (by first | omega | (simp;try omega)));clear hb4 B3 HB3 hz3
  go_wp2_with fail
  refine(vOf_W _).mono ?_;rintro e w5 ⟨rfl,hb5⟩;have B5:=below_blk hb5 B4;clear aa;have aa:=cells16 B5;have hz5:w.heap.size<w5.heap.size:=by have:=hb5.size;omega
  have HB5:Hid (Below w.heap.size w w5):=HB4.out.trans (hb5.mono (by first | omega | (simp;try omega)));clear hb5 B4 HB4 hz4
  go_wp2_with fail
  go_rounds 1
  have hB:=HB5.out;have hZ:w.heap.size≤w5.heap.size:=by omega
  go_ret
  exact⟨rfl,by go_grown⟩
 ·go_enter Tryz.func74,Tryz.ntmps74
  go_wp2_with fail
  refine(bare_1 _ h vn 0 0 0 0 0 1 0 ⟨#[]⟩ false none none none none 0 0 0 0 0 0 0 0).mono ?_;rintro e w1 ⟨rfl,hb1⟩;have B1:=below_blk hb1 (blk_new _ _);have aa:=cells16 B1;have hz1:w.heap.size<w1.heap.size:=by have:=hb1.size;simp at this;omega
  have HB1:Hid (Below w.heap.size w w1):=((Below.refl _ _).alloc (Nat.le_refl _) _).trans (hb1.mono (by simp;try omega));clear hb1
  go_wp2_with fail
  refine(blank1_W _ vn).mono ?_;rintro e w2 ⟨rfl,hb2⟩;have B2:=below_blk hb2 (blk_old _ _ B1);clear aa;have aa:=cells16 B2;have hz2:w.heap.size<w2.heap.size:=by have:=hb2.size;simp at this;omega
  have HB2:Hid (Below w.heap.size w w2):=(HB1.out.alloc (by first | omega | (simp;try omega)) _).trans (hb2.mono (by first | omega | (simp;try omega)));clear hb2 B1 HB1 hz1
  go_wp2_with fail
  refine(side_W (hW.below HB2.out) h).mono ?_;rw [hs];rintro e _ ⟨rfl,rfl⟩
  go_wp2_with fail
  refine(hV _).mono ?_;rintro e w3 ⟨rfl,hb3⟩;have B3:=below_blk hb3 B2;clear aa;have aa:=cells16 B3;have hz3:w.heap.size<w3.heap.size:=by have:=hb3.size;omega
  have HB3:Hid (Below w.heap.size w w3):=HB2.out.trans (hb3.mono (by first | omega | (simp;try omega)));clear hb3 B2 HB2 hz2
  go_wp2_with fail
  refine(vOf_W _).mono ?_;rintro e w4 ⟨rfl,hb4⟩;have B4:=below_blk hb4 B3;clear aa;have aa:=cells16 B4;have hz4:w.heap.size<w4.heap.size:=by have:=hb4.size;omega
  have HB4:Hid (Below w.heap.size w w4):=HB3.out.trans (hb4.mono (by first | omega | (simp;try omega)));clear hb4 B3 HB3 hz3
  go_wp2_with fail
  go_rounds 1
  have hB:=HB4.out;have hZ:w.heap.size≤w4.heap.size:=by omega
  go_ret
  exact⟨rfl,by go_grown⟩
end
section
variable {w:World} {p:Nat} {M:WM} {F:Nat->Prop}
theorem form_3 (hW:IsW w p M F) (h n:Int) (hs:sideB M h=true) (hn:0≤n/\n≤9007199254740992):Calls Tryz.prog 74 #[.pointer (some ⟨p,0,none⟩),.agg (wr 3 h 0 0 n 0 0 0 0 false)] w fun e w'=>e=.returned (.bool true)/\Below w.heap.size w w':=by
 have hV:∀ w:World,Calls Tryz.prog 161 #[.agg #[.int .u8 0,.int .i64 0,.string ⟨#[]⟩,.slice none 0 0,.int .i64 0]] w fun e w'=>e=.returned (.bool true)/\Below w.heap.size w w':=fun w=>vMay_W w 0 0 (.inl ⟨rfl,rfl⟩)
 go_enter Tryz.func74,Tryz.ntmps74
 go_wp2_with fail
 refine(bare_3 _ h 0 0 n 0 0 0 0 0 ⟨#[]⟩ false none none none none 0 0 0 0 0 0 0 0).mono ?_;rintro e w1 ⟨rfl,hb1⟩;have B1:=below_blk hb1 (blk_new _ _);have aa:=cells16 B1;have hz1:w.heap.size<w1.heap.size:=by have:=hb1.size;simp at this;omega
 have HB1:Hid (Below w.heap.size w w1):=((Below.refl _ _).alloc (Nat.le_refl _) _).trans (hb1.mono (by simp;try omega));clear hb1
 go_wp2_with fail
 refine(blank0_W _).mono ?_;rintro e w2 ⟨rfl,hb2⟩;have B2:=below_blk hb2 (blk_old _ _ B1);clear aa;have aa:=cells16 B2;have hz2:w.heap.size<w2.heap.size:=by have:=hb2.size;simp at this;omega
 have HB2:Hid (Below w.heap.size w w2):=(HB1.out.alloc (by first | omega | (simp;try omega)) _).trans (hb2.mono (by first | omega | (simp;try omega)));clear hb2 B1 HB1 hz1
 go_wp2_with fail
 refine(blank0_W _).mono ?_;rintro e w3 ⟨rfl,hb3⟩;have B3:=below_blk hb3 B2;clear aa;have aa:=cells16 B3;have hz3:w.heap.size<w3.heap.size:=by have:=hb3.size;omega
 have HB3:Hid (Below w.heap.size w w3):=HB2.out.trans (hb3.mono (by first | omega | (simp;try omega)));clear hb3 B2 HB2 hz2
 go_wp2_with fail
 refine(side_W (hW.below HB3.out) h).mono ?_;rw [hs];rintro e _ ⟨rfl,rfl⟩
 go_wp2_with fail
 refine(hV _).mono ?_;rintro e w4 ⟨rfl,hb4⟩;have B4:=below_blk hb4 B3;clear aa;have aa:=cells16 B4;have hz4:w.heap.size<w4.heap.size:=by have:=hb4.size;omega
 have HB4:Hid (Below w.heap.size w w4):=HB3.out.trans (hb4.mono (by first | omega | (simp;try omega)));clear hb4 B3 HB3 hz3
 go_wp2_with fail
 refine(vOf_W _).mono ?_;rintro e w5 ⟨rfl,hb5⟩;have B5:=below_blk hb5 B4;clear aa;have aa:=cells16 B5;have hz5:w.heap.size<w5.heap.size:=by have:=hb5.size;omega
 have HB5:Hid (Below w.heap.size w w5):=HB4.out.trans (hb5.mono (by first | omega | (simp;try omega)));clear hb5 B4 HB4 hz4
 go_wp2_with fail
 go_rounds 1
 have hB:=HB5.out;have hZ:w.heap.size≤w5.heap.size:=by omega
 go_ret
 exact⟨rfl,by go_grown⟩
theorem form_8 (hW:IsW w p M F) (h n l:Int) (hs:sideB M h=true) (hn:0≤n/\n≤9007199254740992) (hl:0≤l/\l≤n):Calls Tryz.prog 74 #[.pointer (some ⟨p,0,none⟩),.agg (wr 8 h 0 0 n l 0 0 0 false)] w fun e w'=>e=.returned (.bool true)/\Below w.heap.size w w':=by
 have hV:∀ w:World,Calls Tryz.prog 161 #[.agg #[.int .u8 0,.int .i64 0,.string ⟨#[]⟩,.slice none 0 0,.int .i64 0]] w fun e w'=>e=.returned (.bool true)/\Below w.heap.size w w':=fun w=>vMay_W w 0 0 (.inl ⟨rfl,rfl⟩)
 go_enter Tryz.func74,Tryz.ntmps74
 go_wp2_with fail
 refine(bare_8 _ h 0 0 n l 0 0 0 0 ⟨#[]⟩ false none none none none 0 0 0 0 0 0 0 0).mono ?_;rintro e w1 ⟨rfl,hb1⟩;have B1:=below_blk hb1 (blk_new _ _);have aa:=cells16 B1;have hz1:w.heap.size<w1.heap.size:=by have:=hb1.size;simp at this;omega
 have HB1:Hid (Below w.heap.size w w1):=((Below.refl _ _).alloc (Nat.le_refl _) _).trans (hb1.mono (by simp;try omega));clear hb1
 go_wp2_with fail
 refine(blank0_W _).mono ?_;rintro e w2 ⟨rfl,hb2⟩;have B2:=below_blk hb2 (blk_old _ _ B1);clear aa;have aa:=cells16 B2;have hz2:w.heap.size<w2.heap.size:=by have:=hb2.size;simp at this;omega
 have HB2:Hid (Below w.heap.size w w2):=(HB1.out.alloc (by first | omega | (simp;try omega)) _).trans (hb2.mono (by first | omega | (simp;try omega)));clear hb2 B1 HB1 hz1
 go_wp2_with fail
 refine(blank0_W _).mono ?_;rintro e w3 ⟨rfl,hb3⟩;have B3:=below_blk hb3 B2;clear aa;have aa:=cells16 B3;have hz3:w.heap.size<w3.heap.size:=by have:=hb3.size;omega
 have HB3:Hid (Below w.heap.size w w3):=HB2.out.trans (hb3.mono (by first | omega | (simp;try omega)));clear hb3 B2 HB2 hz2
 go_wp2_with fail
 refine(side_W (hW.below HB3.out) h).mono ?_;rw [hs];rintro e _ ⟨rfl,rfl⟩
 go_wp2_with fail
 refine(hV _).mono ?_;rintro e w4 ⟨rfl,hb4⟩;have B4:=below_blk hb4 B3;clear aa;have aa:=cells16 B4;have hz4:w.heap.size<w4.heap.size:=by have:=hb4.size;omega
 have HB4:Hid (Below w.heap.size w w4):=HB3.out.trans (hb4.mono (by first | omega | (simp;try omega)));clear hb4 B3 HB3 hz3
 go_wp2_with fail
 refine(vOf_W _).mono ?_;rintro e w5 ⟨rfl,hb5⟩;have B5:=below_blk hb5 B4;clear aa;have aa:=cells16 B5;have hz5:w.heap.size<w5.heap.size:=by have:=hb5.size;omega
 have HB5:Hid (Below w.heap.size w w5):=HB4.out.trans (hb5.mono (by first | omega | (simp;try omega)));clear hb5 B4 HB4 hz4
 go_wp2_with fail
 go_rounds 1
 have hB:=HB5.out;have hZ:w.heap.size≤w5.heap.size:=by omega
 go_ret
 exact⟨rfl,by go_grown⟩
theorem form_9 (hW:IsW w p M F) (h n tg:Int) (hs:sideB M h=true) (hn:0≤n/\n≤9007199254740992):Calls Tryz.prog 74 #[.pointer (some ⟨p,0,none⟩),.agg (wr 9 h 0 0 n 0 tg 0 0 false)] w fun e w'=>e=.returned (.bool true)/\Below w.heap.size w w':=by
 have hV:∀ w:World,Calls Tryz.prog 161 #[.agg #[.int .u8 0,.int .i64 0,.string ⟨#[]⟩,.slice none 0 0,.int .i64 0]] w fun e w'=>e=.returned (.bool true)/\Below w.heap.size w w':=fun w=>vMay_W w 0 0 (.inl ⟨rfl,rfl⟩)
 go_enter Tryz.func74,Tryz.ntmps74
 go_wp2_with fail
 refine(bare_9 _ h 0 0 n 0 tg 0 0 0 ⟨#[]⟩ false none none none none 0 0 0 0 0 0 0 0).mono ?_;rintro e w1 ⟨rfl,hb1⟩;have B1:=below_blk hb1 (blk_new _ _);have aa:=cells16 B1;have hz1:w.heap.size<w1.heap.size:=by have:=hb1.size;simp at this;omega
 have HB1:Hid (Below w.heap.size w w1):=((Below.refl _ _).alloc (Nat.le_refl _) _).trans (hb1.mono (by simp;try omega));clear hb1
 go_wp2_with fail
 refine(blank0_W _).mono ?_;rintro e w2 ⟨rfl,hb2⟩;have B2:=below_blk hb2 (blk_old _ _ B1);clear aa;have aa:=cells16 B2;have hz2:w.heap.size<w2.heap.size:=by have:=hb2.size;simp at this;omega
 have HB2:Hid (Below w.heap.size w w2):=(HB1.out.alloc (by first | omega | (simp;try omega)) _).trans (hb2.mono (by first | omega | (simp;try omega)));clear hb2 B1 HB1 hz1
 go_wp2_with fail
 refine(blank0_W _).mono ?_;rintro e w3 ⟨rfl,hb3⟩;have B3:=below_blk hb3 B2;clear aa;have aa:=cells16 B3;have hz3:w.heap.size<w3.heap.size:=by have:=hb3.size;omega
 have HB3:Hid (Below w.heap.size w w3):=HB2.out.trans (hb3.mono (by first | omega | (simp;try omega)));clear hb3 B2 HB2 hz2
 go_wp2_with fail
 refine(side_W (hW.below HB3.out) h).mono ?_;rw [hs];rintro e _ ⟨rfl,rfl⟩
 go_wp2_with fail
 refine(hV _).mono ?_;rintro e w4 ⟨rfl,hb4⟩;have B4:=below_blk hb4 B3;clear aa;have aa:=cells16 B4;have hz4:w.heap.size<w4.heap.size:=by have:=hb4.size;omega
 have HB4:Hid (Below w.heap.size w w4):=HB3.out.trans (hb4.mono (by first | omega | (simp;try omega)));clear hb4 B3 HB3 hz3
 go_wp2_with fail
 refine(vOf_W _).mono ?_;rintro e w5 ⟨rfl,hb5⟩;have B5:=below_blk hb5 B4;clear aa;have aa:=cells16 B5;have hz5:w.heap.size<w5.heap.size:=by have:=hb5.size;omega
 have HB5:Hid (Below w.heap.size w w5):=HB4.out.trans (hb5.mono (by first | omega | (simp;try omega)));clear hb5 B4 HB4 hz4
 go_wp2_with fail
 go_rounds 1
 have hB:=HB5.out;have hZ:w.heap.size≤w5.heap.size:=by omega
 go_ret
 exact⟨rfl,by go_grown⟩
theorem form_10a (hW:IsW w p M F) (h:Int) (hs:sideB M h=true):Calls Tryz.prog 74 #[.pointer (some ⟨p,0,none⟩),.agg (wr 10 h 0 0 0 0 0 0 0 false)] w fun e w'=>e=.returned (.bool true)/\Below w.heap.size w w':=by
 have hV:∀ w:World,Calls Tryz.prog 161 #[.agg #[.int .u8 0,.int .i64 0,.string ⟨#[]⟩,.slice none 0 0,.int .i64 0]] w fun e w'=>e=.returned (.bool true)/\Below w.heap.size w w':=fun w=>vMay_W w 0 0 (.inl ⟨rfl,rfl⟩)
 go_enter Tryz.func74,Tryz.ntmps74
 go_wp2_with fail
 refine(bare_10 _ h 0 0 0 0 0 0 0 0 ⟨#[]⟩ false none none none none 0 0 0 0 0 0 0 0).mono ?_;rintro e w1 ⟨rfl,hb1⟩;have B1:=below_blk hb1 (blk_new _ _);have aa:=cells16 B1;have hz1:w.heap.size<w1.heap.size:=by have:=hb1.size;simp at this;omega
 have HB1:Hid (Below w.heap.size w w1):=((Below.refl _ _).alloc (Nat.le_refl _) _).trans (hb1.mono (by simp;try omega));clear hb1
 go_wp2_with fail
 refine(blank0_W _).mono ?_;rintro e w2 ⟨rfl,hb2⟩;have B2:=below_blk hb2 (blk_old _ _ B1);clear aa;have aa:=cells16 B2;have hz2:w.heap.size<w2.heap.size:=by have:=hb2.size;simp at this;omega
 have HB2:Hid (Below w.heap.size w w2):=(HB1.out.alloc (by first | omega | (simp;try omega)) _).trans (hb2.mono (by first | omega | (simp;try omega)));clear hb2 B1 HB1 hz1
 go_wp2_with fail
 refine(blank0_W _).mono ?_;rintro e w3 ⟨rfl,hb3⟩;have B3:=below_blk hb3 B2;clear aa;have aa:=cells16 B3;have hz3:w.heap.size<w3.heap.size:=by have:=hb3.size;omega
 have HB3:Hid (Below w.heap.size w w3):=HB2.out.trans (hb3.mono (by first | omega | (simp;try omega)));clear hb3 B2 HB2 hz2
 go_wp2_with fail
 refine(side_W (hW.below HB3.out) h).mono ?_;rw [hs];rintro e _ ⟨rfl,rfl⟩
 go_wp2_with fail
 refine(hV _).mono ?_;rintro e w4 ⟨rfl,hb4⟩;have B4:=below_blk hb4 B3;clear aa;have aa:=cells16 B4;have hz4:w.heap.size<w4.heap.size:=by have:=hb4.size;omega
 have HB4:Hid (Below w.heap.size w w4):=HB3.out.trans (hb4.mono (by first | omega | (simp;try omega)));clear hb4 B3 HB3 hz3
 go_wp2_with fail
 refine(vOf_W _).mono ?_;rintro e w5 ⟨rfl,hb5⟩;have B5:=below_blk hb5 B4;clear aa;have aa:=cells16 B5;have hz5:w.heap.size<w5.heap.size:=by have:=hb5.size;omega
 have HB5:Hid (Below w.heap.size w w5):=HB4.out.trans (hb5.mono (by first | omega | (simp;try omega)));clear hb5 B4 HB4 hz4
 go_wp2_with fail
 go_rounds 1
 have hB:=HB5.out;have hZ:w.heap.size≤w5.heap.size:=by omega
 go_ret
 exact⟨rfl,by go_grown⟩
end
end Go.Proofs.YthaliljaglldjaaGreat
