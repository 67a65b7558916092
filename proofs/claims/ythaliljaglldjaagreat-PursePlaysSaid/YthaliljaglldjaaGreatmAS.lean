/- A part of the proof, several texts in one: FormC, MakeL, Purse. -/
import Derived.Test.YthaliljaglldjaaGreatmAB
import Derived.Test.YthaliljaglldjaaGreatmAR
import Derived.Test.YthaliljaglldjaaGreatmAC
import Derived.Deep.QuietTactic
import Derived.BigQuiet
import Derived.Test.YthaliljaglldjaaGreatmAQ
import Derived.Test.YthaliljaglldjaaGreatmAF
/- form: a What that is one. One theorem a kind; printed by gen_form.py A|B|C. -/
namespace Go.Proofs.YthaliljaglldjaaGreat
open Go.RowKit Go.ChangeMaps Go.MapKept
variable {w:World} {p:Nat} {M:WM} {F:Nat→Prop}
set_option maxHeartbeats 1000000 in
set_option maxRecDepth 8000 in
theorem form_7 (hW:IsW w p M F) (h vk vn tg:Int) (hs:sideB M h = true) (hv:Plain vk vn):Calls Tryz.prog 74 #[.pointer (some ⟨p,0,none⟩),.agg #[.int .u8 7,.int .i64 h,.int .u8 vk,.int .i64 vn,.string ⟨#[]⟩,.slice none 0 0,.int .i64 0,.slice none 0 0,.int .i64 0,.int .i64 0,.int .i64 tg,.int .i64 0,.int .u8 0,.bool false,.slice none 0 0,.slice none 0 0]] w fun e w'=>e = .returned (.bool true)∧Below w.heap.size w w':=by
 have hP:Plain vk vn:=hv
 have hV:∀ w:World,Calls Tryz.prog 161 #[.agg #[.int .u8 vk,.int .i64 vn,.string ⟨#[]⟩,.slice none 0 0,.int .i64 0]] w fun e w'=>e = .returned (.bool true)∧Below w.heap.size w w':=fun w=>vMay_W w vk vn hP
 rcases hv with ⟨rfl,rfl⟩ | rfl
 ·go_enter Tryz.func74,Tryz.ntmps74
  go_wp2_with fail
  refine (bare_7 _ h 0 0 0 0 tg 0 0 0 ⟨#[]⟩ false none none none none 0 0 0 0 0 0 0 0).mono ?_
  rintro e w1 ⟨rfl,hb1⟩
  have B1:=below_blk hb1 (blk_new _ _)
  obtain ⟨a0,a1,a2,a3,a4,a5,a6,a7,a8,a9,a10,a11,a12,a13,a14,a15⟩:=cells16 B1
  have hz1:w.heap.size < w1.heap.size:=by have:=hb1.size;simp at this;omega
  have HB1:Hid (Below w.heap.size w w1):=((Below.refl _ _).alloc (Nat.le_refl _) _).trans (hb1.mono (by simp;try omega))
  clear hb1
  go_wp2_with fail
  refine (blank0_W _).mono ?_
  rintro e w2 ⟨rfl,hb2⟩
  have B2:=below_blk hb2 (blk_old _ _ B1)
  clear a0 a1 a2 a3 a4 a5 a6 a7 a8 a9 a10 a11 a12 a13 a14 a15
  obtain ⟨a0,a1,a2,a3,a4,a5,a6,a7,a8,a9,a10,a11,a12,a13,a14,a15⟩:=cells16 B2
  have hz2:w.heap.size < w2.heap.size:=by have:=hb2.size;simp at this;omega
  have HB2:Hid (Below w.heap.size w w2):=(HB1.out.alloc (by first | omega | (simp;try omega)) _).trans (hb2.mono (by first | omega | (simp;try omega)))
  clear hb2 B1 HB1 hz1
  go_wp2_with fail
  refine (blank0_W _).mono ?_
  rintro e w3 ⟨rfl,hb3⟩
  have B3:=below_blk hb3 B2
  clear a0 a1 a2 a3 a4 a5 a6 a7 a8 a9 a10 a11 a12 a13 a14 a15
  obtain ⟨a0,a1,a2,a3,a4,a5,a6,a7,a8,a9,a10,a11,a12,a13,a14,a15⟩:=cells16 B3
  have hz3:w.heap.size < w3.heap.size:=by have:=hb3.size;omega
  have HB3:Hid (Below w.heap.size w w3):=HB2.out.trans (hb3.mono (by first | omega | (simp;try omega)))
  clear hb3 B2 HB2 hz2
  go_wp2_with fail
  refine (side_W (hW.below HB3.out) h).mono ?_
  rw [hs]
  rintro e _ ⟨rfl,rfl⟩
  go_wp2_with fail
  refine (hV _).mono ?_
  rintro e w4 ⟨rfl,hb4⟩
  have B4:=below_blk hb4 B3
  clear a0 a1 a2 a3 a4 a5 a6 a7 a8 a9 a10 a11 a12 a13 a14 a15
  obtain ⟨a0,a1,a2,a3,a4,a5,a6,a7,a8,a9,a10,a11,a12,a13,a14,a15⟩:=cells16 B4
  have hz4:w.heap.size < w4.heap.size:=by have:=hb4.size;omega
  have HB4:Hid (Below w.heap.size w w4):=HB3.out.trans (hb4.mono (by first | omega | (simp;try omega)))
  clear hb4 B3 HB3 hz3
  go_wp2_with fail
  refine (vOf_W _).mono ?_
  rintro e w5 ⟨rfl,hb5⟩
  have B5:=below_blk hb5 B4
  clear a0 a1 a2 a3 a4 a5 a6 a7 a8 a9 a10 a11 a12 a13 a14 a15
  obtain ⟨a0,a1,a2,a3,a4,a5,a6,a7,a8,a9,a10,a11,a12,a13,a14,a15⟩:=cells16 B5
  have hz5:w.heap.size < w5.heap.size:=by have:=hb5.size;omega
  have HB5:Hid (Below w.heap.size w w5):=HB4.out.trans (hb5.mono (by first | omega | (simp;try omega)))
  clear hb5 B4 HB4 hz4
  go_wp2_with fail
  go_rounds 1
  have hB:=HB5.out
  have hZ:w.heap.size ≤ w5.heap.size:=by omega
  go_ret
  exact ⟨rfl,by go_grown⟩
 ·go_enter Tryz.func74,Tryz.ntmps74
  go_wp2_with fail
  refine (bare_7 _ h vn 0 0 0 tg 0 1 0 ⟨#[]⟩ false none none none none 0 0 0 0 0 0 0 0).mono ?_
  rintro e w1 ⟨rfl,hb1⟩
  have B1:=below_blk hb1 (blk_new _ _)
  obtain ⟨a0,a1,a2,a3,a4,a5,a6,a7,a8,a9,a10,a11,a12,a13,a14,a15⟩:=cells16 B1
  have hz1:w.heap.size < w1.heap.size:=by have:=hb1.size;simp at this;omega
  have HB1:Hid (Below w.heap.size w w1):=((Below.refl _ _).alloc (Nat.le_refl _) _).trans (hb1.mono (by simp;try omega))
  clear hb1
  go_wp2_with fail
  refine (blank1_W _ vn).mono ?_
  rintro e w2 ⟨rfl,hb2⟩
  have B2:=below_blk hb2 (blk_old _ _ B1)
  clear a0 a1 a2 a3 a4 a5 a6 a7 a8 a9 a10 a11 a12 a13 a14 a15
  obtain ⟨a0,a1,a2,a3,a4,a5,a6,a7,a8,a9,a10,a11,a12,a13,a14,a15⟩:=cells16 B2
  have hz2:w.heap.size < w2.heap.size:=by have:=hb2.size;simp at this;omega
  have HB2:Hid (Below w.heap.size w w2):=(HB1.out.alloc (by first | omega | (simp;try omega)) _).trans (hb2.mono (by first | omega | (simp;try omega)))
  clear hb2 B1 HB1 hz1
  go_wp2_with fail
  refine (side_W (hW.below HB2.out) h).mono ?_
  rw [hs]
  rintro e _ ⟨rfl,rfl⟩
  go_wp2_with fail
  refine (hV _).mono ?_
  rintro e w3 ⟨rfl,hb3⟩
  have B3:=below_blk hb3 B2
  clear a0 a1 a2 a3 a4 a5 a6 a7 a8 a9 a10 a11 a12 a13 a14 a15
  obtain ⟨a0,a1,a2,a3,a4,a5,a6,a7,a8,a9,a10,a11,a12,a13,a14,a15⟩:=cells16 B3
  have hz3:w.heap.size < w3.heap.size:=by have:=hb3.size;omega
  have HB3:Hid (Below w.heap.size w w3):=HB2.out.trans (hb3.mono (by first | omega | (simp;try omega)))
  clear hb3 B2 HB2 hz2
  go_wp2_with fail
  refine (vOf_W _).mono ?_
  rintro e w4 ⟨rfl,hb4⟩
  have B4:=below_blk hb4 B3
  clear a0 a1 a2 a3 a4 a5 a6 a7 a8 a9 a10 a11 a12 a13 a14 a15
  obtain ⟨a0,a1,a2,a3,a4,a5,a6,a7,a8,a9,a10,a11,a12,a13,a14,a15⟩:=cells16 B4
  have hz4:w.heap.size < w4.heap.size:=by have:=hb4.size;omega
  have HB4:Hid (Below w.heap.size w w4):=HB3.out.trans (hb4.mono (by first | omega | (simp;try omega)))
  clear hb4 B3 HB3 hz3
  go_wp2_with fail
  go_rounds 1
  have hB:=HB4.out
  have hZ:w.heap.size ≤ w4.heap.size:=by omega
  go_ret
  exact ⟨rfl,by go_grown⟩
set_option maxHeartbeats 1000000 in
set_option maxRecDepth 8000 in
theorem form_11 (hW:IsW w p M F) (h tg:Int) (hs:sideB M h = true):Calls Tryz.prog 74 #[.pointer (some ⟨p,0,none⟩),.agg #[.int .u8 11,.int .i64 h,.int .u8 0,.int .i64 0,.string ⟨#[]⟩,.slice none 0 0,.int .i64 0,.slice none 0 0,.int .i64 0,.int .i64 0,.int .i64 tg,.int .i64 0,.int .u8 0,.bool false,.slice none 0 0,.slice none 0 0]] w fun e w'=>e = .returned (.bool true)∧Below w.heap.size w w':=by
 have hV:∀ w:World,Calls Tryz.prog 161 #[.agg #[.int .u8 0,.int .i64 0,.string ⟨#[]⟩,.slice none 0 0,.int .i64 0]] w fun e w'=>e = .returned (.bool true)∧Below w.heap.size w w':=fun w=>vMay_W w 0 0 (.inl ⟨rfl,rfl⟩)
 go_enter Tryz.func74,Tryz.ntmps74
 go_wp2_with fail
 refine (bare_11 _ h 0 0 0 0 tg 0 0 0 ⟨#[]⟩ false none none none none 0 0 0 0 0 0 0 0).mono ?_
 rintro e w1 ⟨rfl,hb1⟩
 have B1:=below_blk hb1 (blk_new _ _)
 obtain ⟨a0,a1,a2,a3,a4,a5,a6,a7,a8,a9,a10,a11,a12,a13,a14,a15⟩:=cells16 B1
 have hz1:w.heap.size < w1.heap.size:=by have:=hb1.size;simp at this;omega
 have HB1:Hid (Below w.heap.size w w1):=((Below.refl _ _).alloc (Nat.le_refl _) _).trans (hb1.mono (by simp;try omega))
 clear hb1
 go_wp2_with fail
 refine (blank0_W _).mono ?_
 rintro e w2 ⟨rfl,hb2⟩
 have B2:=below_blk hb2 (blk_old _ _ B1)
 clear a0 a1 a2 a3 a4 a5 a6 a7 a8 a9 a10 a11 a12 a13 a14 a15
 obtain ⟨a0,a1,a2,a3,a4,a5,a6,a7,a8,a9,a10,a11,a12,a13,a14,a15⟩:=cells16 B2
 have hz2:w.heap.size < w2.heap.size:=by have:=hb2.size;simp at this;omega
 have HB2:Hid (Below w.heap.size w w2):=(HB1.out.alloc (by first | omega | (simp;try omega)) _).trans (hb2.mono (by first | omega | (simp;try omega)))
 clear hb2 B1 HB1 hz1
 go_wp2_with fail
 refine (blank0_W _).mono ?_
 rintro e w3 ⟨rfl,hb3⟩
 have B3:=below_blk hb3 B2
 clear a0 a1 a2 a3 a4 a5 a6 a7 a8 a9 a10 a11 a12 a13 a14 a15
 obtain ⟨a0,a1,a2,a3,a4,a5,a6,a7,a8,a9,a10,a11,a12,a13,a14,a15⟩:=cells16 B3
 have hz3:w.heap.size < w3.heap.size:=by have:=hb3.size;omega
 have HB3:Hid (Below w.heap.size w w3):=HB2.out.trans (hb3.mono (by first | omega | (simp;try omega)))
 clear hb3 B2 HB2 hz2
 go_wp2_with fail
 refine (side_W (hW.below HB3.out) h).mono ?_
 rw [hs]
 rintro e _ ⟨rfl,rfl⟩
 go_wp2_with fail
 refine (hV _).mono ?_
 rintro e w4 ⟨rfl,hb4⟩
 have B4:=below_blk hb4 B3
 clear a0 a1 a2 a3 a4 a5 a6 a7 a8 a9 a10 a11 a12 a13 a14 a15
 obtain ⟨a0,a1,a2,a3,a4,a5,a6,a7,a8,a9,a10,a11,a12,a13,a14,a15⟩:=cells16 B4
 have hz4:w.heap.size < w4.heap.size:=by have:=hb4.size;omega
 have HB4:Hid (Below w.heap.size w w4):=HB3.out.trans (hb4.mono (by first | omega | (simp;try omega)))
 clear hb4 B3 HB3 hz3
 go_wp2_with fail
 refine (vOf_W _).mono ?_
 rintro e w5 ⟨rfl,hb5⟩
 have B5:=below_blk hb5 B4
 clear a0 a1 a2 a3 a4 a5 a6 a7 a8 a9 a10 a11 a12 a13 a14 a15
 obtain ⟨a0,a1,a2,a3,a4,a5,a6,a7,a8,a9,a10,a11,a12,a13,a14,a15⟩:=cells16 B5
 have hz5:w.heap.size < w5.heap.size:=by have:=hb5.size;omega
 have HB5:Hid (Below w.heap.size w w5):=HB4.out.trans (hb5.mono (by first | omega | (simp;try omega)))
 clear hb5 B4 HB4 hz4
 go_wp2_with fail
 go_rounds 1
 have hB:=HB5.out
 have hZ:w.heap.size ≤ w5.heap.size:=by omega
 go_ret
 exact ⟨rfl,by go_grown⟩
set_option maxHeartbeats 1000000 in
set_option maxRecDepth 8000 in
theorem form_12 (hW:IsW w p M F) (h:Int) (hs:sideB M h = true):Calls Tryz.prog 74 #[.pointer (some ⟨p,0,none⟩),.agg #[.int .u8 12,.int .i64 h,.int .u8 0,.int .i64 0,.string ⟨#[]⟩,.slice none 0 0,.int .i64 0,.slice none 0 0,.int .i64 0,.int .i64 0,.int .i64 0,.int .i64 0,.int .u8 0,.bool false,.slice none 0 0,.slice none 0 0]] w fun e w'=>e = .returned (.bool true)∧Below w.heap.size w w':=by
 have hV:∀ w:World,Calls Tryz.prog 161 #[.agg #[.int .u8 0,.int .i64 0,.string ⟨#[]⟩,.slice none 0 0,.int .i64 0]] w fun e w'=>e = .returned (.bool true)∧Below w.heap.size w w':=fun w=>vMay_W w 0 0 (.inl ⟨rfl,rfl⟩)
 go_enter Tryz.func74,Tryz.ntmps74
 go_wp2_with fail
 refine (bare_12 _ h 0 0 0 0 0 0 0 0 ⟨#[]⟩ false none none none none 0 0 0 0 0 0 0 0).mono ?_
 rintro e w1 ⟨rfl,hb1⟩
 have B1:=below_blk hb1 (blk_new _ _)
 obtain ⟨a0,a1,a2,a3,a4,a5,a6,a7,a8,a9,a10,a11,a12,a13,a14,a15⟩:=cells16 B1
 have hz1:w.heap.size < w1.heap.size:=by have:=hb1.size;simp at this;omega
 have HB1:Hid (Below w.heap.size w w1):=((Below.refl _ _).alloc (Nat.le_refl _) _).trans (hb1.mono (by simp;try omega))
 clear hb1
 go_wp2_with fail
 refine (blank0_W _).mono ?_
 rintro e w2 ⟨rfl,hb2⟩
 have B2:=below_blk hb2 (blk_old _ _ B1)
 clear a0 a1 a2 a3 a4 a5 a6 a7 a8 a9 a10 a11 a12 a13 a14 a15
 obtain ⟨a0,a1,a2,a3,a4,a5,a6,a7,a8,a9,a10,a11,a12,a13,a14,a15⟩:=cells16 B2
 have hz2:w.heap.size < w2.heap.size:=by have:=hb2.size;simp at this;omega
 have HB2:Hid (Below w.heap.size w w2):=(HB1.out.alloc (by first | omega | (simp;try omega)) _).trans (hb2.mono (by first | omega | (simp;try omega)))
 clear hb2 B1 HB1 hz1
 go_wp2_with fail
 refine (blank0_W _).mono ?_
 rintro e w3 ⟨rfl,hb3⟩
 have B3:=below_blk hb3 B2
 clear a0 a1 a2 a3 a4 a5 a6 a7 a8 a9 a10 a11 a12 a13 a14 a15
 obtain ⟨a0,a1,a2,a3,a4,a5,a6,a7,a8,a9,a10,a11,a12,a13,a14,a15⟩:=cells16 B3
 have hz3:w.heap.size < w3.heap.size:=by have:=hb3.size;omega
 have HB3:Hid (Below w.heap.size w w3):=HB2.out.trans (hb3.mono (by first | omega | (simp;try omega)))
 clear hb3 B2 HB2 hz2
 go_wp2_with fail
 refine (side_W (hW.below HB3.out) h).mono ?_
 rw [hs]
 rintro e _ ⟨rfl,rfl⟩
 go_wp2_with fail
 refine (hV _).mono ?_
 rintro e w4 ⟨rfl,hb4⟩
 have B4:=below_blk hb4 B3
 clear a0 a1 a2 a3 a4 a5 a6 a7 a8 a9 a10 a11 a12 a13 a14 a15
 obtain ⟨a0,a1,a2,a3,a4,a5,a6,a7,a8,a9,a10,a11,a12,a13,a14,a15⟩:=cells16 B4
 have hz4:w.heap.size < w4.heap.size:=by have:=hb4.size;omega
 have HB4:Hid (Below w.heap.size w w4):=HB3.out.trans (hb4.mono (by first | omega | (simp;try omega)))
 clear hb4 B3 HB3 hz3
 go_wp2_with fail
 refine (vOf_W _).mono ?_
 rintro e w5 ⟨rfl,hb5⟩
 have B5:=below_blk hb5 B4
 clear a0 a1 a2 a3 a4 a5 a6 a7 a8 a9 a10 a11 a12 a13 a14 a15
 obtain ⟨a0,a1,a2,a3,a4,a5,a6,a7,a8,a9,a10,a11,a12,a13,a14,a15⟩:=cells16 B5
 have hz5:w.heap.size < w5.heap.size:=by have:=hb5.size;omega
 have HB5:Hid (Below w.heap.size w w5):=HB4.out.trans (hb5.mono (by first | omega | (simp;try omega)))
 clear hb5 B4 HB4 hz4
 go_wp2_with fail
 go_rounds 1
 go_rounds 1
 have hB:=HB5.out
 have hZ:w.heap.size ≤ w5.heap.size:=by omega
 go_ret
 exact ⟨rfl,by go_grown⟩
set_option maxHeartbeats 1000000 in
set_option maxRecDepth 8000 in
theorem form_13 (hW:IsW w p M F) (h tg:Int) (fu:Bool) (hs:sideB M h = true):Calls Tryz.prog 74 #[.pointer (some ⟨p,0,none⟩),.agg #[.int .u8 13,.int .i64 h,.int .u8 0,.int .i64 0,.string ⟨#[]⟩,.slice none 0 0,.int .i64 0,.slice none 0 0,.int .i64 0,.int .i64 0,.int .i64 tg,.int .i64 0,.int .u8 0,.bool fu,.slice none 0 0,.slice none 0 0]] w fun e w'=>e = .returned (.bool true)∧Below w.heap.size w w':=by
 have hV:∀ w:World,Calls Tryz.prog 161 #[.agg #[.int .u8 0,.int .i64 0,.string ⟨#[]⟩,.slice none 0 0,.int .i64 0]] w fun e w'=>e = .returned (.bool true)∧Below w.heap.size w w':=fun w=>vMay_W w 0 0 (.inl ⟨rfl,rfl⟩)
 go_enter Tryz.func74,Tryz.ntmps74
 go_wp2_with fail
 refine (bare_13 _ h 0 0 0 0 tg 0 0 0 ⟨#[]⟩ fu none none none none 0 0 0 0 0 0 0 0).mono ?_
 rintro e w1 ⟨rfl,hb1⟩
 have B1:=below_blk hb1 (blk_new _ _)
 obtain ⟨a0,a1,a2,a3,a4,a5,a6,a7,a8,a9,a10,a11,a12,a13,a14,a15⟩:=cells16 B1
 have hz1:w.heap.size < w1.heap.size:=by have:=hb1.size;simp at this;omega
 have HB1:Hid (Below w.heap.size w w1):=((Below.refl _ _).alloc (Nat.le_refl _) _).trans (hb1.mono (by simp;try omega))
 clear hb1
 go_wp2_with fail
 refine (blank0_W _).mono ?_
 rintro e w2 ⟨rfl,hb2⟩
 have B2:=below_blk hb2 (blk_old _ _ B1)
 clear a0 a1 a2 a3 a4 a5 a6 a7 a8 a9 a10 a11 a12 a13 a14 a15
 obtain ⟨a0,a1,a2,a3,a4,a5,a6,a7,a8,a9,a10,a11,a12,a13,a14,a15⟩:=cells16 B2
 have hz2:w.heap.size < w2.heap.size:=by have:=hb2.size;simp at this;omega
 have HB2:Hid (Below w.heap.size w w2):=(HB1.out.alloc (by first | omega | (simp;try omega)) _).trans (hb2.mono (by first | omega | (simp;try omega)))
 clear hb2 B1 HB1 hz1
 go_wp2_with fail
 refine (blank0_W _).mono ?_
 rintro e w3 ⟨rfl,hb3⟩
 have B3:=below_blk hb3 B2
 clear a0 a1 a2 a3 a4 a5 a6 a7 a8 a9 a10 a11 a12 a13 a14 a15
 obtain ⟨a0,a1,a2,a3,a4,a5,a6,a7,a8,a9,a10,a11,a12,a13,a14,a15⟩:=cells16 B3
 have hz3:w.heap.size < w3.heap.size:=by have:=hb3.size;omega
 have HB3:Hid (Below w.heap.size w w3):=HB2.out.trans (hb3.mono (by first | omega | (simp;try omega)))
 clear hb3 B2 HB2 hz2
 go_wp2_with fail
 refine (side_W (hW.below HB3.out) h).mono ?_
 rw [hs]
 rintro e _ ⟨rfl,rfl⟩
 go_wp2_with fail
 refine (hV _).mono ?_
 rintro e w4 ⟨rfl,hb4⟩
 have B4:=below_blk hb4 B3
 clear a0 a1 a2 a3 a4 a5 a6 a7 a8 a9 a10 a11 a12 a13 a14 a15
 obtain ⟨a0,a1,a2,a3,a4,a5,a6,a7,a8,a9,a10,a11,a12,a13,a14,a15⟩:=cells16 B4
 have hz4:w.heap.size < w4.heap.size:=by have:=hb4.size;omega
 have HB4:Hid (Below w.heap.size w w4):=HB3.out.trans (hb4.mono (by first | omega | (simp;try omega)))
 clear hb4 B3 HB3 hz3
 go_wp2_with fail
 refine (vOf_W _).mono ?_
 rintro e w5 ⟨rfl,hb5⟩
 have B5:=below_blk hb5 B4
 clear a0 a1 a2 a3 a4 a5 a6 a7 a8 a9 a10 a11 a12 a13 a14 a15
 obtain ⟨a0,a1,a2,a3,a4,a5,a6,a7,a8,a9,a10,a11,a12,a13,a14,a15⟩:=cells16 B5
 have hz5:w.heap.size < w5.heap.size:=by have:=hb5.size;omega
 have HB5:Hid (Below w.heap.size w w5):=HB4.out.trans (hb5.mono (by first | omega | (simp;try omega)))
 clear hb5 B4 HB4 hz4
 go_wp2_with fail
 go_rounds 1
 have hB:=HB5.out
 have hZ:w.heap.size ≤ w5.heap.size:=by omega
 go_ret
 exact ⟨rfl,by go_grown⟩
set_option maxHeartbeats 1000000 in
set_option maxRecDepth 8000 in
theorem form_15 (hW:IsW w p M F) (h tg bi:Int) (hs:sideB M h = true):Calls Tryz.prog 74 #[.pointer (some ⟨p,0,none⟩),.agg #[.int .u8 15,.int .i64 h,.int .u8 0,.int .i64 0,.string ⟨#[]⟩,.slice none 0 0,.int .i64 0,.slice none 0 0,.int .i64 0,.int .i64 0,.int .i64 tg,.int .i64 bi,.int .u8 0,.bool false,.slice none 0 0,.slice none 0 0]] w fun e w'=>e = .returned (.bool true)∧Below w.heap.size w w':=by
 have hV:∀ w:World,Calls Tryz.prog 161 #[.agg #[.int .u8 0,.int .i64 0,.string ⟨#[]⟩,.slice none 0 0,.int .i64 0]] w fun e w'=>e = .returned (.bool true)∧Below w.heap.size w w':=fun w=>vMay_W w 0 0 (.inl ⟨rfl,rfl⟩)
 go_enter Tryz.func74,Tryz.ntmps74
 go_wp2_with fail
 refine (bare_15 _ h 0 0 0 0 tg bi 0 0 ⟨#[]⟩ false none none none none 0 0 0 0 0 0 0 0).mono ?_
 rintro e w1 ⟨rfl,hb1⟩
 have B1:=below_blk hb1 (blk_new _ _)
 obtain ⟨a0,a1,a2,a3,a4,a5,a6,a7,a8,a9,a10,a11,a12,a13,a14,a15⟩:=cells16 B1
 have hz1:w.heap.size < w1.heap.size:=by have:=hb1.size;simp at this;omega
 have HB1:Hid (Below w.heap.size w w1):=((Below.refl _ _).alloc (Nat.le_refl _) _).trans (hb1.mono (by simp;try omega))
 clear hb1
 go_wp2_with fail
 refine (blank0_W _).mono ?_
 rintro e w2 ⟨rfl,hb2⟩
 have B2:=below_blk hb2 (blk_old _ _ B1)
 clear a0 a1 a2 a3 a4 a5 a6 a7 a8 a9 a10 a11 a12 a13 a14 a15
 obtain ⟨a0,a1,a2,a3,a4,a5,a6,a7,a8,a9,a10,a11,a12,a13,a14,a15⟩:=cells16 B2
 have hz2:w.heap.size < w2.heap.size:=by have:=hb2.size;simp at this;omega
 have HB2:Hid (Below w.heap.size w w2):=(HB1.out.alloc (by first | omega | (simp;try omega)) _).trans (hb2.mono (by first | omega | (simp;try omega)))
 clear hb2 B1 HB1 hz1
 go_wp2_with fail
 refine (blank0_W _).mono ?_
 rintro e w3 ⟨rfl,hb3⟩
 have B3:=below_blk hb3 B2
 clear a0 a1 a2 a3 a4 a5 a6 a7 a8 a9 a10 a11 a12 a13 a14 a15
 obtain ⟨a0,a1,a2,a3,a4,a5,a6,a7,a8,a9,a10,a11,a12,a13,a14,a15⟩:=cells16 B3
 have hz3:w.heap.size < w3.heap.size:=by have:=hb3.size;omega
 have HB3:Hid (Below w.heap.size w w3):=HB2.out.trans (hb3.mono (by first | omega | (simp;try omega)))
 clear hb3 B2 HB2 hz2
 go_wp2_with fail
 refine (side_W (hW.below HB3.out) h).mono ?_
 rw [hs]
 rintro e _ ⟨rfl,rfl⟩
 go_wp2_with fail
 refine (hV _).mono ?_
 rintro e w4 ⟨rfl,hb4⟩
 have B4:=below_blk hb4 B3
 clear a0 a1 a2 a3 a4 a5 a6 a7 a8 a9 a10 a11 a12 a13 a14 a15
 obtain ⟨a0,a1,a2,a3,a4,a5,a6,a7,a8,a9,a10,a11,a12,a13,a14,a15⟩:=cells16 B4
 have hz4:w.heap.size < w4.heap.size:=by have:=hb4.size;omega
 have HB4:Hid (Below w.heap.size w w4):=HB3.out.trans (hb4.mono (by first | omega | (simp;try omega)))
 clear hb4 B3 HB3 hz3
 go_wp2_with fail
 refine (vOf_W _).mono ?_
 rintro e w5 ⟨rfl,hb5⟩
 have B5:=below_blk hb5 B4
 clear a0 a1 a2 a3 a4 a5 a6 a7 a8 a9 a10 a11 a12 a13 a14 a15
 obtain ⟨a0,a1,a2,a3,a4,a5,a6,a7,a8,a9,a10,a11,a12,a13,a14,a15⟩:=cells16 B5
 have hz5:w.heap.size < w5.heap.size:=by have:=hb5.size;omega
 have HB5:Hid (Below w.heap.size w w5):=HB4.out.trans (hb5.mono (by first | omega | (simp;try omega)))
 clear hb5 B4 HB4 hz4
 go_wp2_with fail
 go_rounds 1
 have hB:=HB5.out
 have hZ:w.heap.size ≤ w5.heap.size:=by omega
 go_ret
 exact ⟨rfl,by go_grown⟩
set_option maxHeartbeats 1000000 in
set_option maxRecDepth 8000 in
theorem form_16 (hW:IsW w p M F) (h tg bi:Int) (hs:sideB M h = true):Calls Tryz.prog 74 #[.pointer (some ⟨p,0,none⟩),.agg #[.int .u8 16,.int .i64 h,.int .u8 0,.int .i64 0,.string ⟨#[]⟩,.slice none 0 0,.int .i64 0,.slice none 0 0,.int .i64 0,.int .i64 0,.int .i64 tg,.int .i64 bi,.int .u8 0,.bool false,.slice none 0 0,.slice none 0 0]] w fun e w'=>e = .returned (.bool true)∧Below w.heap.size w w':=by
 have hV:∀ w:World,Calls Tryz.prog 161 #[.agg #[.int .u8 0,.int .i64 0,.string ⟨#[]⟩,.slice none 0 0,.int .i64 0]] w fun e w'=>e = .returned (.bool true)∧Below w.heap.size w w':=fun w=>vMay_W w 0 0 (.inl ⟨rfl,rfl⟩)
 go_enter Tryz.func74,Tryz.ntmps74
 go_wp2_with fail
 refine (bare_16 _ h 0 0 0 0 tg bi 0 0 ⟨#[]⟩ false none none none none 0 0 0 0 0 0 0 0).mono ?_
 rintro e w1 ⟨rfl,hb1⟩
 have B1:=below_blk hb1 (blk_new _ _)
 obtain ⟨a0,a1,a2,a3,a4,a5,a6,a7,a8,a9,a10,a11,a12,a13,a14,a15⟩:=cells16 B1
 have hz1:w.heap.size < w1.heap.size:=by have:=hb1.size;simp at this;omega
 have HB1:Hid (Below w.heap.size w w1):=((Below.refl _ _).alloc (Nat.le_refl _) _).trans (hb1.mono (by simp;try omega))
 clear hb1
 go_wp2_with fail
 refine (blank0_W _).mono ?_
 rintro e w2 ⟨rfl,hb2⟩
 have B2:=below_blk hb2 (blk_old _ _ B1)
 clear a0 a1 a2 a3 a4 a5 a6 a7 a8 a9 a10 a11 a12 a13 a14 a15
 obtain ⟨a0,a1,a2,a3,a4,a5,a6,a7,a8,a9,a10,a11,a12,a13,a14,a15⟩:=cells16 B2
 have hz2:w.heap.size < w2.heap.size:=by have:=hb2.size;simp at this;omega
 have HB2:Hid (Below w.heap.size w w2):=(HB1.out.alloc (by first | omega | (simp;try omega)) _).trans (hb2.mono (by first | omega | (simp;try omega)))
 clear hb2 B1 HB1 hz1
 go_wp2_with fail
 refine (blank0_W _).mono ?_
 rintro e w3 ⟨rfl,hb3⟩
 have B3:=below_blk hb3 B2
 clear a0 a1 a2 a3 a4 a5 a6 a7 a8 a9 a10 a11 a12 a13 a14 a15
 obtain ⟨a0,a1,a2,a3,a4,a5,a6,a7,a8,a9,a10,a11,a12,a13,a14,a15⟩:=cells16 B3
 have hz3:w.heap.size < w3.heap.size:=by have:=hb3.size;omega
 have HB3:Hid (Below w.heap.size w w3):=HB2.out.trans (hb3.mono (by first | omega | (simp;try omega)))
 clear hb3 B2 HB2 hz2
 go_wp2_with fail
 refine (side_W (hW.below HB3.out) h).mono ?_
 rw [hs]
 rintro e _ ⟨rfl,rfl⟩
 go_wp2_with fail
 refine (hV _).mono ?_
 rintro e w4 ⟨rfl,hb4⟩
 have B4:=below_blk hb4 B3
 clear a0 a1 a2 a3 a4 a5 a6 a7 a8 a9 a10 a11 a12 a13 a14 a15
 obtain ⟨a0,a1,a2,a3,a4,a5,a6,a7,a8,a9,a10,a11,a12,a13,a14,a15⟩:=cells16 B4
 have hz4:w.heap.size < w4.heap.size:=by have:=hb4.size;omega
 have HB4:Hid (Below w.heap.size w w4):=HB3.out.trans (hb4.mono (by first | omega | (simp;try omega)))
 clear hb4 B3 HB3 hz3
 go_wp2_with fail
 refine (vOf_W _).mono ?_
 rintro e w5 ⟨rfl,hb5⟩
 have B5:=below_blk hb5 B4
 clear a0 a1 a2 a3 a4 a5 a6 a7 a8 a9 a10 a11 a12 a13 a14 a15
 obtain ⟨a0,a1,a2,a3,a4,a5,a6,a7,a8,a9,a10,a11,a12,a13,a14,a15⟩:=cells16 B5
 have hz5:w.heap.size < w5.heap.size:=by have:=hb5.size;omega
 have HB5:Hid (Below w.heap.size w w5):=HB4.out.trans (hb5.mono (by first | omega | (simp;try omega)))
 clear hb5 B4 HB4 hz4
 go_wp2_with fail
 go_rounds 1
 have hB:=HB5.out
 have hZ:w.heap.size ≤ w5.heap.size:=by omega
 go_ret
 exact ⟨rfl,by go_grown⟩
end Go.Proofs.YthaliljaglldjaaGreat
/- Make of a light thing, of any kind; the kinds one by one. -/
namespace Go.Proofs.YthaliljaglldjaaGreat
open Go.RowKit Go.ChangeMaps Go.MapKept
variable {w:World} {p:Nat} {M:WM} {F:Nat→Prop}
theorem MakeIn.light (hW:IsW w p M F) {k h vk vn n l tg bi s:Int} {fu:Bool} (hp:Plain vk vn)
 (hform:∀ w,IsW w p M F→Calls Tryz.prog 74 #[.pointer (some ⟨p,0,none⟩),.agg #[.int .u8 k,.int .i64 h,.int .u8 vk,.int .i64 vn,.string ⟨#[]⟩,.slice none 0 0,.int .i64 0,.slice none 0 0,.int .i64 n,.int .i64 l,.int .i64 tg,.int .i64 bi,.int .u8 s,.bool fu,.slice none 0 0,.slice none 0 0]] w fun e w'=>e = .returned (.bool true)∧Below w.heap.size w w')
 (hfits:∀ w,IsW w p M F→Calls Tryz.prog 78 #[.pointer (some ⟨p,0,none⟩),.int .i64 0,.agg #[.int .u8 k,.int .i64 h,.int .u8 vk,.int .i64 vn,.string ⟨#[]⟩,.slice none 0 0,.int .i64 0,.slice none 0 0,.int .i64 n,.int .i64 l,.int .i64 tg,.int .i64 bi,.int .u8 s,.bool fu,.slice none 0 0,.slice none 0 0]] w fun e w'=>e = .returned (.bool true)∧Below w.heap.size w w')
 (k14:(k == 14) = false) (k13:k = 13→tg = 0) (tgw:(Lit.int .i64 tg).wf = true) (biw:(Lit.int .i64 bi).wf = true) (home:0 ≤ h∧h < M.made.length)
 (hA:asksOfB k = true→(M.at tg).isSome = true) (hB:asksByB k = true→(M.at bi).isSome = true) (add:M.made.getD h.toNat 0 < 512→AddOk M (lt k h vk vn n l tg bi s fu)) :
 MakeIn w p M F k h n l tg bi s fu (.int .u8 vk) (.int .i64 vn) (.string ⟨#[]⟩) (.slice none 0 0) (.int .i64 0) (.slice none 0 0) (.slice none 0 0) (.slice none 0 0) (fun t=>t = lt k h vk vn n l tg bi s fu) where
 form w1 hb:=hform w1 (hW.below hb)
 names w1 hb:=names_W w1 _ k h vk vn n l tg bi s fu hp
 fits w1 hb:=hfits w1 (hW.below hb)
 own w1 hb:=(ownWhat_W w1 k h vk vn n l tg bi s fu hp).mono fun e w' h=>⟨_,rfl,h.1,h.2,deep_lt _ _ _ _ _ _ _ _ _ _ _ _⟩
 k14:=k14
 k13:=k13
 tgw:=tgw
 biw:=biw
 home:=home
 hA:=hA
 hB:=hB
 add hr t ht:=by subst ht;exact ⟨rfl,rfl,rfl,add hr⟩
def MadeL (w:World) (p:Nat) (M:WM) (F:Nat→Prop) (h:Int) (t:Th) (e:Ending) (w':World):Prop :=
 (M.made.getD h.toNat 0 < 512∧e = .returned (.tuple #[.int .i64 (M.last + 1),.int .i64 0])∧∃ F',IsW w' p (makeM M t) F'∧Grew F w F' w') ∨
 (¬ M.made.getD h.toNat 0 < 512∧e = .returned (.tuple #[.int .i64 0,.int .i64 8])∧Below w.heap.size w w')
theorem MadeG.light {h:Int} {t:Th} {e:Ending} {w':World} (hm:MadeG w p M F h (fun u=>u = t) e w'):MadeL w p M F h t e w':=by
 rcases hm with ⟨h1,h2,u,F',rfl,h4,h5⟩ | h
 ·exact .inl ⟨h1,h2,F',h4,h5⟩
 ·exact .inr h
theorem plain0:Plain 0 0:=.inl ⟨rfl,rfl⟩
section
variable (hW:IsW w p M F) (hl:M.last + 1 ≤ 1099511627776) {h:Int} (home:0 ≤ h∧h < M.made.length)
include hW hl home
theorem Make_1 {vk vn:Int} (hp:Plain vk vn):Calls Tryz.prog 14 #[.pointer (some ⟨p,0,none⟩),.agg #[.int .u8 1,.int .i64 h,.int .u8 vk,.int .i64 vn,.string ⟨#[]⟩,.slice none 0 0,.int .i64 0,.slice none 0 0,.int .i64 0,.int .i64 0,.int .i64 0,.int .i64 0,.int .u8 0,.bool false,.slice none 0 0,.slice none 0 0]] w (MadeL w p M F h (lt 1 h vk vn 0 0 0 0 0 false)) :=
 (Make_G hW (MakeIn.light hW hp (fun w hW=>form_1 hW h vk vn (sideB_iff.2 home) hp) (fun w _=>fits_1 w _ 0 h vk vn 0 0 0 0 0 false) rfl (fun e=>absurd e (by decide)) rfl rfl home (fun e=>absurd e (by decide)) (fun e=>absurd e (by decide)) fun hr=>{
  wf:=⟨by show (1:Int) ≤ 1∧(1:Int) ≤ 16;decide,rfl,rfl,by show (0:Int) ≤ 0∧(0:Int) ≤ 255;decide⟩
  last:=hl
  home:=fun _=>home
  made:=fun _=>hr
  wrap:=fun e=>absurd (show wrapsB 1 = true from e) (by decide)
  gate:=fun e=>absurd (show (1:Int) = 15 from e) (by decide)
  purse:=fun e=>absurd (show (1:Int) = 9 from e) (by decide)
  facet:=fun e=>absurd (show (1:Int) = 14 from e) (by decide) })).mono fun _ _ h=>h.light
theorem Make_2:Calls Tryz.prog 14 #[.pointer (some ⟨p,0,none⟩),.agg #[.int .u8 2,.int .i64 h,.int .u8 0,.int .i64 0,.string ⟨#[]⟩,.slice none 0 0,.int .i64 0,.slice none 0 0,.int .i64 0,.int .i64 0,.int .i64 0,.int .i64 0,.int .u8 0,.bool false,.slice none 0 0,.slice none 0 0]] w (MadeL w p M F h (lt 2 h 0 0 0 0 0 0 0 false)) :=
 (Make_G hW (MakeIn.light hW plain0 (fun w hW=>form_2 hW h (sideB_iff.2 home)) (fun w _=>fits_2 w _ 0 h 0 0 0 0 0 0 0 false) rfl (fun e=>absurd e (by decide)) rfl rfl home (fun e=>absurd e (by decide)) (fun e=>absurd e (by decide)) fun hr=>{
  wf:=⟨by show (1:Int) ≤ 2∧(2:Int) ≤ 16;decide,rfl,rfl,by show (0:Int) ≤ 0∧(0:Int) ≤ 255;decide⟩
  last:=hl
  home:=fun _=>home
  made:=fun _=>hr
  wrap:=fun e=>absurd (show wrapsB 2 = true from e) (by decide)
  gate:=fun e=>absurd (show (2:Int) = 15 from e) (by decide)
  purse:=fun e=>absurd (show (2:Int) = 9 from e) (by decide)
  facet:=fun e=>absurd (show (2:Int) = 14 from e) (by decide) })).mono fun _ _ h=>h.light
theorem Make_4:Calls Tryz.prog 14 #[.pointer (some ⟨p,0,none⟩),.agg #[.int .u8 4,.int .i64 h,.int .u8 0,.int .i64 0,.string ⟨#[]⟩,.slice none 0 0,.int .i64 0,.slice none 0 0,.int .i64 0,.int .i64 0,.int .i64 0,.int .i64 0,.int .u8 0,.bool false,.slice none 0 0,.slice none 0 0]] w (MadeL w p M F h (lt 4 h 0 0 0 0 0 0 0 false)) :=
 (Make_G hW (MakeIn.light hW plain0 (fun w hW=>form_4 hW h (sideB_iff.2 home)) (fun w _=>fits_4 w _ 0 h 0 0 0 0 0 0 0 false) rfl (fun e=>absurd e (by decide)) rfl rfl home (fun e=>absurd e (by decide)) (fun e=>absurd e (by decide)) fun hr=>{
  wf:=⟨by show (1:Int) ≤ 4∧(4:Int) ≤ 16;decide,rfl,rfl,by show (0:Int) ≤ 0∧(0:Int) ≤ 255;decide⟩
  last:=hl
  home:=fun _=>home
  made:=fun _=>hr
  wrap:=fun e=>absurd (show wrapsB 4 = true from e) (by decide)
  gate:=fun e=>absurd (show (4:Int) = 15 from e) (by decide)
  purse:=fun e=>absurd (show (4:Int) = 9 from e) (by decide)
  facet:=fun e=>absurd (show (4:Int) = 14 from e) (by decide) })).mono fun _ _ h=>h.light
theorem Make_5:Calls Tryz.prog 14 #[.pointer (some ⟨p,0,none⟩),.agg #[.int .u8 5,.int .i64 h,.int .u8 0,.int .i64 0,.string ⟨#[]⟩,.slice none 0 0,.int .i64 0,.slice none 0 0,.int .i64 0,.int .i64 0,.int .i64 0,.int .i64 0,.int .u8 0,.bool false,.slice none 0 0,.slice none 0 0]] w (MadeL w p M F h (lt 5 h 0 0 0 0 0 0 0 false)) :=
 (Make_G hW (MakeIn.light hW plain0 (fun w hW=>form_5 hW h (sideB_iff.2 home)) (fun w _=>fits_5 w _ 0 h 0 0 0 0 0 0 0 false) rfl (fun e=>absurd e (by decide)) rfl rfl home (fun e=>absurd e (by decide)) (fun e=>absurd e (by decide)) fun hr=>{
  wf:=⟨by show (1:Int) ≤ 5∧(5:Int) ≤ 16;decide,rfl,rfl,by show (0:Int) ≤ 0∧(0:Int) ≤ 255;decide⟩
  last:=hl
  home:=fun _=>home
  made:=fun _=>hr
  wrap:=fun e=>absurd (show wrapsB 5 = true from e) (by decide)
  gate:=fun e=>absurd (show (5:Int) = 15 from e) (by decide)
  purse:=fun e=>absurd (show (5:Int) = 9 from e) (by decide)
  facet:=fun e=>absurd (show (5:Int) = 14 from e) (by decide) })).mono fun _ _ h=>h.light
theorem Make_12:Calls Tryz.prog 14 #[.pointer (some ⟨p,0,none⟩),.agg #[.int .u8 12,.int .i64 h,.int .u8 0,.int .i64 0,.string ⟨#[]⟩,.slice none 0 0,.int .i64 0,.slice none 0 0,.int .i64 0,.int .i64 0,.int .i64 0,.int .i64 0,.int .u8 0,.bool false,.slice none 0 0,.slice none 0 0]] w (MadeL w p M F h (lt 12 h 0 0 0 0 0 0 0 false)) :=
 (Make_G hW (MakeIn.light hW plain0 (fun w hW=>form_12 hW h (sideB_iff.2 home)) (fun w _=>fits_12 w _ 0 h 0 0 0 0 0 0 0 false) rfl (fun e=>absurd e (by decide)) rfl rfl home (fun e=>absurd e (by decide)) (fun e=>absurd e (by decide)) fun hr=>{
  wf:=⟨by show (1:Int) ≤ 12∧(12:Int) ≤ 16;decide,rfl,rfl,by show (0:Int) ≤ 0∧(0:Int) ≤ 255;decide⟩
  last:=hl
  home:=fun _=>home
  made:=fun _=>hr
  wrap:=fun e=>absurd (show wrapsB 12 = true from e) (by decide)
  gate:=fun e=>absurd (show (12:Int) = 15 from e) (by decide)
  purse:=fun e=>absurd (show (12:Int) = 9 from e) (by decide)
  facet:=fun e=>absurd (show (12:Int) = 14 from e) (by decide) })).mono fun _ _ h=>h.light
theorem Make_3 {n:Int} (hn:0 ≤ n∧n ≤ 9007199254740992):Calls Tryz.prog 14 #[.pointer (some ⟨p,0,none⟩),.agg #[.int .u8 3,.int .i64 h,.int .u8 0,.int .i64 0,.string ⟨#[]⟩,.slice none 0 0,.int .i64 0,.slice none 0 0,.int .i64 n,.int .i64 0,.int .i64 0,.int .i64 0,.int .u8 0,.bool false,.slice none 0 0,.slice none 0 0]] w (MadeL w p M F h (lt 3 h 0 0 n 0 0 0 0 false)) :=
 (Make_G hW (MakeIn.light hW plain0 (fun w hW=>form_3 hW h n (sideB_iff.2 home) hn) (fun w _=>fits_3 w _ 0 h 0 0 n 0 0 0 0 false) rfl (fun e=>absurd e (by decide)) rfl rfl home (fun e=>absurd e (by decide)) (fun e=>absurd e (by decide)) fun hr=>{
  wf:=⟨by show (1:Int) ≤ 3∧(3:Int) ≤ 16;decide,rfl,rfl,by show (0:Int) ≤ 0∧(0:Int) ≤ 255;decide⟩
  last:=hl
  home:=fun _=>home
  made:=fun _=>hr
  wrap:=fun e=>absurd (show wrapsB 3 = true from e) (by decide)
  gate:=fun e=>absurd (show (3:Int) = 15 from e) (by decide)
  purse:=fun e=>absurd (show (3:Int) = 9 from e) (by decide)
  facet:=fun e=>absurd (show (3:Int) = 14 from e) (by decide) })).mono fun _ _ h=>h.light
theorem Make_8 {n l:Int} (hn:0 ≤ n∧n ≤ 9007199254740992) (hl2:0 ≤ l∧l ≤ n):Calls Tryz.prog 14 #[.pointer (some ⟨p,0,none⟩),.agg #[.int .u8 8,.int .i64 h,.int .u8 0,.int .i64 0,.string ⟨#[]⟩,.slice none 0 0,.int .i64 0,.slice none 0 0,.int .i64 n,.int .i64 l,.int .i64 0,.int .i64 0,.int .u8 0,.bool false,.slice none 0 0,.slice none 0 0]] w (MadeL w p M F h (lt 8 h 0 0 n l 0 0 0 false)) :=
 (Make_G hW (MakeIn.light hW plain0 (fun w hW=>form_8 hW h n l (sideB_iff.2 home) hn hl2) (fun w _=>fits_8 w _ 0 h 0 0 n l 0 0 0 false) rfl (fun e=>absurd e (by decide)) rfl rfl home (fun e=>absurd e (by decide)) (fun e=>absurd e (by decide)) fun hr=>{
  wf:=⟨by show (1:Int) ≤ 8∧(8:Int) ≤ 16;decide,rfl,rfl,by show (0:Int) ≤ 0∧(0:Int) ≤ 255;decide⟩
  last:=hl
  home:=fun _=>home
  made:=fun _=>hr
  wrap:=fun e=>absurd (show wrapsB 8 = true from e) (by decide)
  gate:=fun e=>absurd (show (8:Int) = 15 from e) (by decide)
  purse:=fun e=>absurd (show (8:Int) = 9 from e) (by decide)
  facet:=fun e=>absurd (show (8:Int) = 14 from e) (by decide) })).mono fun _ _ h=>h.light
theorem Make_10:Calls Tryz.prog 14 #[.pointer (some ⟨p,0,none⟩),.agg #[.int .u8 10,.int .i64 h,.int .u8 0,.int .i64 0,.string ⟨#[]⟩,.slice none 0 0,.int .i64 0,.slice none 0 0,.int .i64 0,.int .i64 0,.int .i64 0,.int .i64 0,.int .u8 0,.bool false,.slice none 0 0,.slice none 0 0]] w (MadeL w p M F h (lt 10 h 0 0 0 0 0 0 0 false)) :=
 (Make_G hW (MakeIn.light hW plain0 (fun w hW=>form_10a hW h (sideB_iff.2 home)) (fun w _=>fits_10 w _ 0 h 0 0 0 0 0 0 0 false) rfl (fun e=>absurd e (by decide)) rfl rfl home (fun e=>absurd e (by decide)) (fun e=>absurd e (by decide)) fun hr=>{
  wf:=⟨by show (1:Int) ≤ 10∧(10:Int) ≤ 16;decide,rfl,rfl,by show (0:Int) ≤ 0∧(0:Int) ≤ 255;decide⟩
  last:=hl
  home:=fun _=>home
  made:=fun _=>hr
  wrap:=fun e=>absurd (show wrapsB 10 = true from e) (by decide)
  gate:=fun e=>absurd (show (10:Int) = 15 from e) (by decide)
  purse:=fun e=>absurd (show (10:Int) = 9 from e) (by decide)
  facet:=fun e=>absurd (show (10:Int) = 14 from e) (by decide) })).mono fun _ _ h=>h.light
theorem Make_13 {fu:Bool}:Calls Tryz.prog 14 #[.pointer (some ⟨p,0,none⟩),.agg #[.int .u8 13,.int .i64 h,.int .u8 0,.int .i64 0,.string ⟨#[]⟩,.slice none 0 0,.int .i64 0,.slice none 0 0,.int .i64 0,.int .i64 0,.int .i64 0,.int .i64 0,.int .u8 0,.bool fu,.slice none 0 0,.slice none 0 0]] w (MadeL w p M F h (lt 13 h 0 0 0 0 0 0 0 fu)) :=
 (Make_G hW (MakeIn.light hW plain0 (fun w hW=>form_13 hW h 0 fu (sideB_iff.2 home)) (fun w _=>fits_13 w _ 0 h fu) rfl (fun _=>rfl) rfl rfl home (fun e=>absurd e (by decide)) (fun e=>absurd e (by decide)) fun hr=>{
  wf:=⟨by show (1:Int) ≤ 13∧(13:Int) ≤ 16;decide,rfl,rfl,by show (0:Int) ≤ 0∧(0:Int) ≤ 255;decide⟩
  last:=hl
  home:=fun _=>home
  made:=fun _=>hr
  wrap:=fun e=>absurd (show wrapsB 13 = true from e) (by decide)
  gate:=fun e=>absurd (show (13:Int) = 15 from e) (by decide)
  purse:=fun e=>absurd (show (13:Int) = 9 from e) (by decide)
  facet:=fun e=>absurd (show (13:Int) = 14 from e) (by decide) })).mono fun _ _ h=>h.light
theorem Make_9 {n tg:Int} {u:Th} (hn:0 ≤ n∧n ≤ 9007199254740992) (tgw:(Lit.int .i64 tg).wf = true) (hu:M.at tg = some u) (hu8:u.kind = 8) (huh:u.home = h):Calls Tryz.prog 14 #[.pointer (some ⟨p,0,none⟩),.agg #[.int .u8 9,.int .i64 h,.int .u8 0,.int .i64 0,.string ⟨#[]⟩,.slice none 0 0,.int .i64 0,.slice none 0 0,.int .i64 n,.int .i64 0,.int .i64 tg,.int .i64 0,.int .u8 0,.bool false,.slice none 0 0,.slice none 0 0]] w (MadeL w p M F h (lt 9 h 0 0 n 0 tg 0 0 false)) :=
 (Make_G hW (MakeIn.light hW plain0 (fun w hW=>form_9 hW h n tg (sideB_iff.2 home) hn) (fun w hW=>fits_9 hW tgw hu hu8 huh) rfl (fun e=>absurd e (by decide)) tgw rfl home (fun _=>by rw [hu];rfl) (fun e=>absurd e (by decide)) fun hr=>{
  wf:=⟨by show (1:Int) ≤ 9∧(9:Int) ≤ 16;decide,tgw,rfl,by show (0:Int) ≤ 0∧(0:Int) ≤ 255;decide⟩
  last:=hl
  home:=fun _=>home
  made:=fun _=>hr
  wrap:=fun e=>absurd (show wrapsB 9 = true from e) (by decide)
  gate:=fun e=>absurd (show (9:Int) = 15 from e) (by decide)
  purse:=fun _=>⟨u,hu,hu8⟩
  facet:=fun e=>absurd (show (9:Int) = 14 from e) (by decide) })).mono fun _ _ h=>h.light
end
end Go.Proofs.YthaliljaglldjaaGreat
/- Mint, Get, Ask, Take, Move, Of: money. -/
namespace Go.Proofs.YthaliljaglldjaaGreat
open Go.RowKit Go.ChangeMaps Go.MapKept
variable {w:World} {p:Nat} {M:WM} {F:Nat→Prop}
abbrev mintT (h n lo:Int):Th:=lt 8 h 0 0 n lo 0 0 0 false
abbrev purseT (h n m:Int):Th:=lt 9 h 0 0 n 0 m 0 0 false
set_option maxRecDepth 8000 in
theorem Get_W (hW:IsW w p M F) {r h n m:Int} (hr:(Lit.int .i64 r).wf = true) (ht:M.at r = some (purseT h n m)) :
 Calls Tryz.prog 98 #[.pointer (some ⟨p,0,none⟩),.int .i64 r] w fun e w'=>e = .returned (.tuple #[.int .i64 n,.int .i64 0])∧Below w.heap.size w w':=by
 have hf:=find_lt hW (q:=9) hr ht plain0 (.inr rfl)
 rw [if_pos rfl] at hf
 have HF:=(show Hid _ from hf)
 clear hf hW ht
 go_enter Tryz.func98,Tryz.ntmps98
 go_wp2_with fail
 refine Calls.mono HF.out ?_
 rintro e w1 ⟨rfl,hb1⟩
 obtain ⟨hst,hb2,hg2⟩:=boxed_what w1 #[.int .u8 9,.int .i64 h,.int .u8 0,.int .i64 0,.string ⟨#[]⟩,.slice none 0 0,.int .i64 0,.slice none 0 0,.int .i64 n,.int .i64 0,.int .i64 m,.int .i64 0,.int .u8 0,.bool false,.slice none 0 0,.slice none 0 0] rfl (by simp [go_sem])
 have HB2:=(show Hid (Below w.heap.size w _) from hb1.trans (hb2.mono hb1.size))
 have HG2:=(show Hid _ from hg2)
 clear hb1 hb2 hg2
 go_upto_region 2 with fail
 clear hst
 revert HB2 HG2
 generalize (w1.alloc _).setRow _ _ = w2
 generalize w1.heap.size = g
 intro HB2 HG2
 have c8:w2.cell? ⟨g,8,none⟩ = some (.int .i64 n):=by rw [cell_blk HG2.out];rfl
 go_wp2_with fail
 go_ret2
 exact ⟨rfl,HB2.out⟩
theorem Grew.then_keeps {F F':Nat→Prop} {a b c:World} (h:Grew F a F' b) (k:Keeps F' b c):Grew F a F' c:=by
 obtain ⟨h1,h2⟩:=h
 refine ⟨⟨k.os.trans h1.os,k.tape.trans h1.tape,k.output.trans h1.output,Nat.le_trans h1.size k.size,fun x hx hF=>(k.block x (Nat.lt_of_lt_of_le hx h1.size) (fun e=>?_)).trans (h1.block x hx hF)⟩,h2⟩
 rcases h2 x e with h | h
 ·exact hF h
 ·omega
theorem Grew.of_below {F F':Nat→Prop} {a b c:World} (h:Below a.heap.size a b) (k:Grew F b F' c):Grew F a F' c:=by
 refine ⟨Below.keeps h k.1,fun x hx=>?_⟩
 rcases k.2 x hx with h' | h'
 ·exact .inl h'
 ·exact .inr (Nat.le_trans h.size h')
def AskPost (w:World) (p:Nat) (M:WM) (F:Nat→Prop) (mi h N lo n:Int) (e:Ending) (w':World):Prop :=
 (n < 0∧e = .returned (.tuple #[.int .i64 0,.int .i64 2])∧Below w.heap.size w w') ∨
 ((0 ≤ n∧9007199254740992 - N < n)∧e = .returned (.tuple #[.int .i64 0,.int .i64 8])∧Below w.heap.size w w') ∨
 ((0 ≤ n∧n ≤ 9007199254740992 - N)∧¬ M.made.getD h.toNat 0 < 512∧e = .returned (.tuple #[.int .i64 0,.int .i64 8])∧Below w.heap.size w w') ∨
 ((0 ≤ n∧n ≤ 9007199254740992 - N)∧M.made.getD h.toNat 0 < 512∧e = .returned (.tuple #[.int .i64 (M.last + 1),.int .i64 0])∧∃ F',IsW w' p ((M.add (purseT h n mi)).set mi (mintT h (N + n) lo)) F'∧Grew F w F' w')
def TakePost (w:World) (p:Nat) (M:WM) (F:Nat→Prop) (r h N mi n:Int) (e:Ending) (w':World):Prop :=
 (n < 0∧e = .returned (.tuple #[.int .i64 0,.int .i64 2])∧Below w.heap.size w w') ∨
 ((0 ≤ n∧N < n)∧e = .returned (.tuple #[.int .i64 0,.int .i64 81])∧Below w.heap.size w w') ∨
 ((0 ≤ n∧n ≤ N)∧¬ M.made.getD h.toNat 0 < 512∧e = .returned (.tuple #[.int .i64 0,.int .i64 8])∧Below w.heap.size w w') ∨
 ((0 ≤ n∧n ≤ N)∧M.made.getD h.toNat 0 < 512∧e = .returned (.tuple #[.int .i64 (M.last + 1),.int .i64 0])∧∃ F',IsW w' p ((M.add (purseT h n mi)).set r (purseT h (N - n) mi)) F'∧Grew F w F' w')
set_option maxHeartbeats 1000000 in
set_option maxRecDepth 8000 in
theorem Ask_W (hW:IsW w p M F) {r h N lo n:Int} (hr:(Lit.int .i64 r).wf = true) (hl:M.last + 1 ≤ 1099511627776) (home:0 ≤ h∧h < M.made.length) (ht:M.at r = some (mintT h N lo)) (hN:0 ≤ N∧N ≤ 9007199254740992) (hlo:0 ≤ lo∧lo ≤ N) :
 Calls Tryz.prog 96 #[.pointer (some ⟨p,0,none⟩),.int .i64 r,.int .i64 n] w (AskPost w p M F r h N lo n):=by
 have hf:=find_lt hW (q:=8) hr ht plain0 (.inl rfl)
 rw [if_pos rfl] at hf
 have HF:=(show Hid _ from hf)
 have HW:=(show Hid (IsW w p M F) from hW)
 have Ht:=(show Hid (M.at r = some _) from ht)
 have Hlo:=(show Hid (0 ≤ lo∧lo ≤ N) from hlo)
 have Hl:=(show Hid (M.last + 1 ≤ 1099511627776) from hl)
 have Hhome:=(show Hid (0 ≤ h∧h < M.made.length) from home)
 obtain ⟨hN0,hN1⟩:=hN
 clear hf hW ht hlo hl home
 go_enter Tryz.func96,Tryz.ntmps96
 go_wp2_with fail
 refine Calls.mono HF.out ?_
 rintro e w1 ⟨rfl,hb1⟩
 obtain ⟨hst,hb2,hg2⟩:=boxed_what w1 #[.int .u8 8,.int .i64 h,.int .u8 0,.int .i64 0,.string ⟨#[]⟩,.slice none 0 0,.int .i64 0,.slice none 0 0,.int .i64 N,.int .i64 lo,.int .i64 0,.int .i64 0,.int .u8 0,.bool false,.slice none 0 0,.slice none 0 0] rfl (by simp [go_sem])
 have HB2:=(show Hid (Below w.heap.size w _) from hb1.trans (hb2.mono hb1.size))
 have HG2:=(show Hid _ from hg2)
 have hgw:w.heap.size ≤ w1.heap.size:=hb1.size
 clear hb1 hb2 hg2
 go_upto_region 2 with fail
 clear hst
 revert HB2 HG2 hgw
 generalize (w1.alloc _).setRow _ _ = w2
 generalize w1.heap.size = g
 intro HB2 HG2 hgw
 have c1:w2.cell? ⟨g,1,none⟩ = some (.int .i64 h):=by rw [cell_blk HG2.out];rfl
 have c8:w2.cell? ⟨g,8,none⟩ = some (.int .i64 N):=by rw [cell_blk HG2.out];rfl
 have c10:w2.cell? ⟨g,10,none⟩ = some (.int .i64 0):=by rw [cell_blk HG2.out];rfl
 have HGF:Hid (¬ F g∧g < w2.heap.size):=⟨fun e=>by have:=HW.out.lt g e;omega,blk_lt HG2.out⟩
 have HW2:=(show Hid (IsW w2 p M F) from HW.out.below HB2.out)
 have Hgw:=(show Hid (w.heap.size ≤ g) from hgw)
 clear hgw
 by_cases h0:n < 0
 ·go_wp2_with fail
  go_ret2
  exact .inl ⟨h0,rfl,HB2.out⟩
 ·have hn0:0 ≤ n:=by omega
  by_cases h1:(9007199254740992 - N) < n
  ·go_wp2_with fail
   go_ret2
   exact .inr (.inl ⟨⟨hn0,h1⟩,rfl,HB2.out⟩)
  ·have hn1:n ≤ (9007199254740992 - N):=by omega
   have hmk:=Make_9 HW2.out Hl.out Hhome.out (n:=n) (tg:=r) ⟨hn0,by omega⟩ hr Ht.out rfl rfl
   have HMK:=(show Hid _ from hmk)
   clear hmk
   go_wp2_with fail
   refine Calls.mono HMK.out ?_
   rintro e w5 (⟨hroom,rfl,F5,hW5,hG5⟩ | ⟨hroom,rfl,hb5⟩)
   ·rw [makeM,if_neg (by simp)] at hW5
    have hnF5:¬ F5 g:=fun e=>by
     rcases hG5.2 g e with h | h
     ·exact HGF.out.1 h
     ·have:=HGF.out.2;omega
    have hg5:=(hG5.1.block g HGF.out.2 HGF.out.1).trans HG2.out
    have HG5:=(show Hid _ from hg5)
    have d8:w5.cell? ⟨g,8,none⟩ = some (.int .i64 N):=by rw [cell_blk hg5];rfl
    have f8:w5.frozen? ⟨g,8,none⟩ = false:=frozen_blk hg5 8
    have hg6:(w5.setCell ⟨g,8,none⟩ (.int .i64 (N + n))).heap[g]? = some (.cells #[.int .u8 8,.int .i64 h,.int .u8 0,.int .i64 0,.string ⟨#[]⟩,.slice none 0 0,.int .i64 0,.slice none 0 0,.int .i64 (N + n),.int .i64 lo,.int .i64 0,.int .i64 0,.int .u8 0,.bool false,.slice none 0 0,.slice none 0 0] 46 (0,0)):=blk_setCell hg5 8 _
    have hld:=loadWhat_blk hg6 rfl
    have hk6:Keeps (fun b=>b = g) w5 (w5.setCell ⟨g,8,none⟩ (.int .i64 (N + n))):=Keeps.setCell w5 _ _ rfl
    have hW6:=hW5.keeps hk6 (fun b hb e=>hnF5 (e ▸ hb))
    have Hml:Hid ((M.add (purseT h n r)).made.length = M.made.length):=made_len M _
    have hlay:=Lay_lt hW6 (r:=r) (n':=N + n) (vk':=0) (vn':=0) hr (WM.add_at_old HW2.out.ok _ Ht.out) plain0 (fun w hW=>form_8 hW h (N + n) lo (sideB_iff.2 (by rw [Hml.out];exact Hhome.out)) (by have:=hn0;have:=hn1;omega) (by have:=Hlo.out;have:=hn0;omega))
    have HLAY:=(show Hid _ from hlay)
    have HG6:Hid (Grew F w F5 (w5.setCell ⟨g,8,none⟩ (.int .i64 (N + n)))):=by
     have h1:Grew F w F5 w5:=Grew.of_below HB2.out hG5
     refine ⟨⟨h1.1.os,h1.1.tape,h1.1.output,Nat.le_trans h1.1.size hk6.size,fun b hb hF=>(hk6.block b (Nat.lt_of_lt_of_le hb h1.1.size) ?_).trans (h1.1.block b hb hF)⟩,h1.2⟩
     rintro rfl
     have:=HB2.out.size
     exact absurd hb (by have:=HGF.out.2;have:=Hgw.out;omega)
    clear hG5 hW5 hg5 hg6 hk6 hW6 hlay hnF5
    go_wp2_with fail
    refine Calls.mono HLAY.out ?_
    rintro e w7 ⟨rfl,hW7,hk7⟩
    have HF7:Hid (∃ F',IsW w7 p ((M.add (purseT h n r)).set r (mintT h (N + n) lo)) F'∧Grew F w F' w7):=⟨F5,hW7,HG6.out.then_keeps hk7⟩
    clear hW7 hk7 hld d8 f8
    go_wp2_with fail
    go_ret2
    exact .inr (.inr (.inr ⟨⟨hn0,hn1⟩,hroom,rfl,HF7.out⟩))
   ·have HB5:=(show Hid (Below w.heap.size w w5) from HB2.out.trans (hb5.mono HB2.out.size))
    clear hb5
    go_wp2_with fail
    go_ret2
    exact .inr (.inr (.inl ⟨⟨hn0,hn1⟩,by omega,rfl,HB5.out⟩))
set_option maxHeartbeats 1000000 in
set_option maxRecDepth 8000 in
theorem Take_W (hW:IsW w p M F) {r h N mi Nm lo n:Int} (hr:(Lit.int .i64 r).wf = true) (hl:M.last + 1 ≤ 1099511627776) (home:0 ≤ h∧h < M.made.length) (ht:M.at r = some (purseT h N mi)) (hmi:M.at mi = some (mintT h Nm lo)) (hN:0 ≤ N∧N ≤ 9007199254740992) :
 Calls Tryz.prog 97 #[.pointer (some ⟨p,0,none⟩),.int .i64 r,.int .i64 n] w (TakePost w p M F r h N mi n):=by
 have hf:=find_lt hW (q:=9) hr ht plain0 (.inr rfl)
 rw [if_pos rfl] at hf
 have HF:=(show Hid _ from hf)
 have HW:=(show Hid (IsW w p M F) from hW)
 have Ht:=(show Hid (M.at r = some _) from ht)
 have Hmi:=(show Hid (M.at mi = some (mintT h Nm lo)) from hmi)
 have Hl:=(show Hid (M.last + 1 ≤ 1099511627776) from hl)
 have Hhome:=(show Hid (0 ≤ h∧h < M.made.length) from home)
 obtain ⟨hN0,hN1⟩:=hN
 clear hf hW ht hmi hl home
 go_enter Tryz.func97,Tryz.ntmps97
 go_wp2_with fail
 refine Calls.mono HF.out ?_
 rintro e w1 ⟨rfl,hb1⟩
 obtain ⟨hst,hb2,hg2⟩:=boxed_what w1 #[.int .u8 9,.int .i64 h,.int .u8 0,.int .i64 0,.string ⟨#[]⟩,.slice none 0 0,.int .i64 0,.slice none 0 0,.int .i64 N,.int .i64 0,.int .i64 mi,.int .i64 0,.int .u8 0,.bool false,.slice none 0 0,.slice none 0 0] rfl (by simp [go_sem])
 have HB2:=(show Hid (Below w.heap.size w _) from hb1.trans (hb2.mono hb1.size))
 have HG2:=(show Hid _ from hg2)
 have hgw:w.heap.size ≤ w1.heap.size:=hb1.size
 clear hb1 hb2 hg2
 go_upto_region 2 with fail
 clear hst
 revert HB2 HG2 hgw
 generalize (w1.alloc _).setRow _ _ = w2
 generalize w1.heap.size = g
 intro HB2 HG2 hgw
 have c1:w2.cell? ⟨g,1,none⟩ = some (.int .i64 h):=by rw [cell_blk HG2.out];rfl
 have c8:w2.cell? ⟨g,8,none⟩ = some (.int .i64 N):=by rw [cell_blk HG2.out];rfl
 have c10:w2.cell? ⟨g,10,none⟩ = some (.int .i64 mi):=by rw [cell_blk HG2.out];rfl
 have HGF:Hid (¬ F g∧g < w2.heap.size):=⟨fun e=>by have:=HW.out.lt g e;omega,blk_lt HG2.out⟩
 have HW2:=(show Hid (IsW w2 p M F) from HW.out.below HB2.out)
 have Hgw:=(show Hid (w.heap.size ≤ g) from hgw)
 clear hgw
 by_cases h0:n < 0
 ·go_wp2_with fail
  go_ret2
  exact .inl ⟨h0,rfl,HB2.out⟩
 ·have hn0:0 ≤ n:=by omega
  by_cases h1:N < n
  ·go_wp2_with fail
   go_ret2
   exact .inr (.inl ⟨⟨hn0,h1⟩,rfl,HB2.out⟩)
  ·have hn1:n ≤ N:=by omega
   have hmk:=Make_9 HW2.out Hl.out Hhome.out (n:=n) (tg:=mi) ⟨hn0,by omega⟩ (HW2.out.ok.at_wf Hmi.out) Hmi.out rfl rfl
   have HMK:=(show Hid _ from hmk)
   clear hmk
   go_wp2_with fail
   refine Calls.mono HMK.out ?_
   rintro e w5 (⟨hroom,rfl,F5,hW5,hG5⟩ | ⟨hroom,rfl,hb5⟩)
   ·rw [makeM,if_neg (by simp)] at hW5
    have hnF5:¬ F5 g:=fun e=>by
     rcases hG5.2 g e with h | h
     ·exact HGF.out.1 h
     ·have:=HGF.out.2;omega
    have hg5:=(hG5.1.block g HGF.out.2 HGF.out.1).trans HG2.out
    have HG5:=(show Hid _ from hg5)
    have d8:w5.cell? ⟨g,8,none⟩ = some (.int .i64 N):=by rw [cell_blk hg5];rfl
    have f8:w5.frozen? ⟨g,8,none⟩ = false:=frozen_blk hg5 8
    have hg6:(w5.setCell ⟨g,8,none⟩ (.int .i64 (N - n))).heap[g]? = some (.cells #[.int .u8 9,.int .i64 h,.int .u8 0,.int .i64 0,.string ⟨#[]⟩,.slice none 0 0,.int .i64 0,.slice none 0 0,.int .i64 (N - n),.int .i64 0,.int .i64 mi,.int .i64 0,.int .u8 0,.bool false,.slice none 0 0,.slice none 0 0] 46 (0,0)):=blk_setCell hg5 8 _
    have hld:=loadWhat_blk hg6 rfl
    have hk6:Keeps (fun b=>b = g) w5 (w5.setCell ⟨g,8,none⟩ (.int .i64 (N - n))):=Keeps.setCell w5 _ _ rfl
    have hW6:=hW5.keeps hk6 (fun b hb e=>hnF5 (e ▸ hb))
    have Hml:Hid ((M.add (purseT h n mi)).made.length = M.made.length):=made_len M _
    have hlay:=Lay_lt hW6 (r:=r) (n':=N - n) (vk':=0) (vn':=0) hr (WM.add_at_old HW2.out.ok _ Ht.out) plain0 (fun w hW=>form_9 hW h (N - n) mi (sideB_iff.2 (by rw [Hml.out];exact Hhome.out)) (by have:=hn0;have:=hn1;omega))
    have HLAY:=(show Hid _ from hlay)
    have HG6:Hid (Grew F w F5 (w5.setCell ⟨g,8,none⟩ (.int .i64 (N - n)))):=by
     have h1:Grew F w F5 w5:=Grew.of_below HB2.out hG5
     refine ⟨⟨h1.1.os,h1.1.tape,h1.1.output,Nat.le_trans h1.1.size hk6.size,fun b hb hF=>(hk6.block b (Nat.lt_of_lt_of_le hb h1.1.size) ?_).trans (h1.1.block b hb hF)⟩,h1.2⟩
     rintro rfl
     have:=HB2.out.size
     exact absurd hb (by have:=HGF.out.2;have:=Hgw.out;omega)
    clear hG5 hW5 hg5 hg6 hk6 hW6 hlay hnF5
    go_wp2_with fail
    refine Calls.mono HLAY.out ?_
    rintro e w7 ⟨rfl,hW7,hk7⟩
    have HF7:Hid (∃ F',IsW w7 p ((M.add (purseT h n mi)).set r (purseT h (N - n) mi)) F'∧Grew F w F' w7):=⟨F5,hW7,HG6.out.then_keeps hk7⟩
    clear hW7 hk7 hld d8 f8
    go_wp2_with fail
    go_ret2
    exact .inr (.inr (.inr ⟨⟨hn0,hn1⟩,hroom,rfl,HF7.out⟩))
   ·have HB5:=(show Hid (Below w.heap.size w w5) from HB2.out.trans (hb5.mono HB2.out.size))
    clear hb5
    go_wp2_with fail
    go_ret2
    exact .inr (.inr (.inl ⟨⟨hn0,hn1⟩,by omega,rfl,HB5.out⟩))
end Go.Proofs.YthaliljaglldjaaGreat
