/- A part of the proof, several texts in one: FnC, Move, R7F1, R7F2, R7F3, R7F4, R7F5, R7F6, R7F7, R7F10, R7F11. -/
import Derived.Test.YthaliljaglldjaaGreatmAB
import Derived.Test.YthaliljaglldjaaGreatmAR
import Derived.Test.YthaliljaglldjaaGreatmAC
import Derived.Deep.QuietTactic
import Derived.BigQuiet
import Derived.Test.YthaliljaglldjaaGreatmAS
import Derived.Test.YthaliljaglldjaaGreatmAN
/- form: a light thing that is none: its amount is none. Printed by gen_formno.py. -/
namespace Go.Proofs.YthaliljaglldjaaGreat
open Go.RowKit Go.ChangeMaps Go.MapKept
variable {w:World} {p:Nat} {M:WM} {F:Nat→Prop}
set_option maxHeartbeats 1000000 in
set_option maxRecDepth 8000 in
theorem formno_3 (hW:IsW w p M F) (h n:Int) (hs:sideB M h = true) (hn:n < 0∨9007199254740992 < n):Calls Tryz.prog 74 #[.pointer (some ⟨p,0,none⟩),.agg #[.int .u8 3,.int .i64 h,.int .u8 0,.int .i64 0,.string ⟨#[]⟩,.slice none 0 0,.int .i64 0,.slice none 0 0,.int .i64 n,.int .i64 0,.int .i64 0,.int .i64 0,.int .u8 0,.bool false,.slice none 0 0,.slice none 0 0]] w fun e w'=>e = .returned (.bool false)∧Below w.heap.size w w':=by
 have hV:∀ w:World,Calls Tryz.prog 161 #[.agg #[.int .u8 0,.int .i64 0,.string ⟨#[]⟩,.slice none 0 0,.int .i64 0]] w fun e w'=>e = .returned (.bool true)∧Below w.heap.size w w':=fun w=>vMay_W w 0 0 (.inl ⟨rfl,rfl⟩)
 have HN:=(show Hid (n < 0∨9007199254740992 < n) from hn)
 clear hn
 go_enter Tryz.func74,Tryz.ntmps74
 go_wp2_with fail
 refine (bare_3 _ h 0 0 n 0 0 0 0 0 ⟨#[]⟩ false none none none none 0 0 0 0 0 0 0 0).mono ?_
 rintro e w1 ⟨rfl,hb1⟩
 have B1:=below_blk hb1 (blk_new _ _)
 obtain ⟨a0,a1,a2,a3,a4,a5,a6,a7,a8,a9,a10,a11,a12,a13,a14,a15⟩:=cells16 B1
 have hz1:w.heap.size < w1.heap.size:=by have:=hb1.size;simp at this;omega
 have HB1:Hid (Below w.heap.size w w1):=((Below.refl _ _).alloc (Nat.le_refl _) _).trans (hb1.mono (by simp;try omega))
 clear hb1
 go_wp2_with fail
 refine (blank0_W _).mono ?_
 rintro e w2 ⟨rfl,hb2⟩
 have B2:=below_blk hb2 (blk_old _ _ B1)
 clear a0 a1 a2 a3 a4 a5 a6 a7 a8 a9 a10 a11 a12 a13 a14 a15
 obtain ⟨a0,a1,a2,a3,a4,a5,a6,a7,a8,a9,a10,a11,a12,a13,a14,a15⟩:=cells16 B2
 have hz2:w.heap.size < w2.heap.size:=by have:=hb2.size;simp at this;omega
 have HB2:Hid (Below w.heap.size w w2):=(HB1.out.alloc (by first | omega | (simp;try omega)) _).trans (hb2.mono (by first | omega | (simp;try omega)))
 clear hb2 B1 HB1 hz1
 go_wp2_with fail
 refine (blank0_W _).mono ?_
 rintro e w3 ⟨rfl,hb3⟩
 have B3:=below_blk hb3 B2
 clear a0 a1 a2 a3 a4 a5 a6 a7 a8 a9 a10 a11 a12 a13 a14 a15
 obtain ⟨a0,a1,a2,a3,a4,a5,a6,a7,a8,a9,a10,a11,a12,a13,a14,a15⟩:=cells16 B3
 have hz3:w.heap.size < w3.heap.size:=by have:=hb3.size;omega
 have HB3:Hid (Below w.heap.size w w3):=HB2.out.trans (hb3.mono (by first | omega | (simp;try omega)))
 clear hb3 B2 HB2 hz2
 go_wp2_with fail
 refine (side_W (hW.below HB3.out) h).mono ?_
 rw [hs]
 rintro e _ ⟨rfl,rfl⟩
 go_wp2_with fail
 refine (hV _).mono ?_
 rintro e w4 ⟨rfl,hb4⟩
 have B4:=below_blk hb4 B3
 clear a0 a1 a2 a3 a4 a5 a6 a7 a8 a9 a10 a11 a12 a13 a14 a15
 obtain ⟨a0,a1,a2,a3,a4,a5,a6,a7,a8,a9,a10,a11,a12,a13,a14,a15⟩:=cells16 B4
 have hz4:w.heap.size < w4.heap.size:=by have:=hb4.size;omega
 have HB4:Hid (Below w.heap.size w w4):=HB3.out.trans (hb4.mono (by first | omega | (simp;try omega)))
 clear hb4 B3 HB3 hz3
 go_wp2_with fail
 refine (vOf_W _).mono ?_
 rintro e w5 ⟨rfl,hb5⟩
 have B5:=below_blk hb5 B4
 clear a0 a1 a2 a3 a4 a5 a6 a7 a8 a9 a10 a11 a12 a13 a14 a15
 obtain ⟨a0,a1,a2,a3,a4,a5,a6,a7,a8,a9,a10,a11,a12,a13,a14,a15⟩:=cells16 B5
 have hz5:w.heap.size < w5.heap.size:=by have:=hb5.size;omega
 have HB5:Hid (Below w.heap.size w w5):=HB4.out.trans (hb5.mono (by first | omega | (simp;try omega)))
 clear hb5 B4 HB4 hz4
 go_wp2_with fail
 by_cases t0:n < 0
 ·have t1:¬ (n ≥ 0):=by omega
  go_rounds 1
  have hB:=HB5.out
  have hZ:w.heap.size ≤ w5.heap.size:=by omega
  go_ret
  exact ⟨rfl,by go_grown⟩
 have t1:n ≥ 0:=by omega
 by_cases t2:n ≤ 9007199254740992
 ·have:=HN.out
  omega
 go_rounds 1
 have hB:=HB5.out
 have hZ:w.heap.size ≤ w5.heap.size:=by omega
 go_ret
 exact ⟨rfl,by go_grown⟩
set_option maxHeartbeats 1000000 in
set_option maxRecDepth 8000 in
theorem formno_8 (hW:IsW w p M F) (h n l:Int) (hs:sideB M h = true) (hn:n < 0∨9007199254740992 < n∨n < l) (hl:0 ≤ l):Calls Tryz.prog 74 #[.pointer (some ⟨p,0,none⟩),.agg #[.int .u8 8,.int .i64 h,.int .u8 0,.int .i64 0,.string ⟨#[]⟩,.slice none 0 0,.int .i64 0,.slice none 0 0,.int .i64 n,.int .i64 l,.int .i64 0,.int .i64 0,.int .u8 0,.bool false,.slice none 0 0,.slice none 0 0]] w fun e w'=>e = .returned (.bool false)∧Below w.heap.size w w':=by
 have hV:∀ w:World,Calls Tryz.prog 161 #[.agg #[.int .u8 0,.int .i64 0,.string ⟨#[]⟩,.slice none 0 0,.int .i64 0]] w fun e w'=>e = .returned (.bool true)∧Below w.heap.size w w':=fun w=>vMay_W w 0 0 (.inl ⟨rfl,rfl⟩)
 have HN:=(show Hid (n < 0∨9007199254740992 < n∨n < l) from hn)
 have HL:=(show Hid (0 ≤ l) from hl)
 clear hl
 clear hn
 go_enter Tryz.func74,Tryz.ntmps74
 go_wp2_with fail
 refine (bare_8 _ h 0 0 n l 0 0 0 0 ⟨#[]⟩ false none none none none 0 0 0 0 0 0 0 0).mono ?_
 rintro e w1 ⟨rfl,hb1⟩
 have B1:=below_blk hb1 (blk_new _ _)
 obtain ⟨a0,a1,a2,a3,a4,a5,a6,a7,a8,a9,a10,a11,a12,a13,a14,a15⟩:=cells16 B1
 have hz1:w.heap.size < w1.heap.size:=by have:=hb1.size;simp at this;omega
 have HB1:Hid (Below w.heap.size w w1):=((Below.refl _ _).alloc (Nat.le_refl _) _).trans (hb1.mono (by simp;try omega))
 clear hb1
 go_wp2_with fail
 refine (blank0_W _).mono ?_
 rintro e w2 ⟨rfl,hb2⟩
 have B2:=below_blk hb2 (blk_old _ _ B1)
 clear a0 a1 a2 a3 a4 a5 a6 a7 a8 a9 a10 a11 a12 a13 a14 a15
 obtain ⟨a0,a1,a2,a3,a4,a5,a6,a7,a8,a9,a10,a11,a12,a13,a14,a15⟩:=cells16 B2
 have hz2:w.heap.size < w2.heap.size:=by have:=hb2.size;simp at this;omega
 have HB2:Hid (Below w.heap.size w w2):=(HB1.out.alloc (by first | omega | (simp;try omega)) _).trans (hb2.mono (by first | omega | (simp;try omega)))
 clear hb2 B1 HB1 hz1
 go_wp2_with fail
 refine (blank0_W _).mono ?_
 rintro e w3 ⟨rfl,hb3⟩
 have B3:=below_blk hb3 B2
 clear a0 a1 a2 a3 a4 a5 a6 a7 a8 a9 a10 a11 a12 a13 a14 a15
 obtain ⟨a0,a1,a2,a3,a4,a5,a6,a7,a8,a9,a10,a11,a12,a13,a14,a15⟩:=cells16 B3
 have hz3:w.heap.size < w3.heap.size:=by have:=hb3.size;omega
 have HB3:Hid (Below w.heap.size w w3):=HB2.out.trans (hb3.mono (by first | omega | (simp;try omega)))
 clear hb3 B2 HB2 hz2
 go_wp2_with fail
 refine (side_W (hW.below HB3.out) h).mono ?_
 rw [hs]
 rintro e _ ⟨rfl,rfl⟩
 go_wp2_with fail
 refine (hV _).mono ?_
 rintro e w4 ⟨rfl,hb4⟩
 have B4:=below_blk hb4 B3
 clear a0 a1 a2 a3 a4 a5 a6 a7 a8 a9 a10 a11 a12 a13 a14 a15
 obtain ⟨a0,a1,a2,a3,a4,a5,a6,a7,a8,a9,a10,a11,a12,a13,a14,a15⟩:=cells16 B4
 have hz4:w.heap.size < w4.heap.size:=by have:=hb4.size;omega
 have HB4:Hid (Below w.heap.size w w4):=HB3.out.trans (hb4.mono (by first | omega | (simp;try omega)))
 clear hb4 B3 HB3 hz3
 go_wp2_with fail
 refine (vOf_W _).mono ?_
 rintro e w5 ⟨rfl,hb5⟩
 have B5:=below_blk hb5 B4
 clear a0 a1 a2 a3 a4 a5 a6 a7 a8 a9 a10 a11 a12 a13 a14 a15
 obtain ⟨a0,a1,a2,a3,a4,a5,a6,a7,a8,a9,a10,a11,a12,a13,a14,a15⟩:=cells16 B5
 have hz5:w.heap.size < w5.heap.size:=by have:=hb5.size;omega
 have HB5:Hid (Below w.heap.size w w5):=HB4.out.trans (hb5.mono (by first | omega | (simp;try omega)))
 clear hb5 B4 HB4 hz4
 go_wp2_with fail
 by_cases t0:n < 0
 ·have t1:¬ (n ≥ 0):=by omega
  go_rounds 1
  have hB:=HB5.out
  have hZ:w.heap.size ≤ w5.heap.size:=by omega
  go_ret
  exact ⟨rfl,by go_grown⟩
 have t1:n ≥ 0:=by omega
 by_cases t2:n ≤ 9007199254740992
 ·have t3:l ≥ 0:=HL.out
  have t4:¬ (l ≤ n):=by have:=HN.out;omega
  go_rounds 1
  have hB:=HB5.out
  have hZ:w.heap.size ≤ w5.heap.size:=by omega
  go_ret
  exact ⟨rfl,by go_grown⟩
 go_rounds 1
 have hB:=HB5.out
 have hZ:w.heap.size ≤ w5.heap.size:=by omega
 go_ret
 exact ⟨rfl,by go_grown⟩
set_option maxHeartbeats 1000000 in
set_option maxRecDepth 8000 in
theorem formno_9 (hW:IsW w p M F) (h n tg:Int) (hs:sideB M h = true) (hn:n < 0∨9007199254740992 < n):Calls Tryz.prog 74 #[.pointer (some ⟨p,0,none⟩),.agg #[.int .u8 9,.int .i64 h,.int .u8 0,.int .i64 0,.string ⟨#[]⟩,.slice none 0 0,.int .i64 0,.slice none 0 0,.int .i64 n,.int .i64 0,.int .i64 tg,.int .i64 0,.int .u8 0,.bool false,.slice none 0 0,.slice none 0 0]] w fun e w'=>e = .returned (.bool false)∧Below w.heap.size w w':=by
 have hV:∀ w:World,Calls Tryz.prog 161 #[.agg #[.int .u8 0,.int .i64 0,.string ⟨#[]⟩,.slice none 0 0,.int .i64 0]] w fun e w'=>e = .returned (.bool true)∧Below w.heap.size w w':=fun w=>vMay_W w 0 0 (.inl ⟨rfl,rfl⟩)
 have HN:=(show Hid (n < 0∨9007199254740992 < n) from hn)
 clear hn
 go_enter Tryz.func74,Tryz.ntmps74
 go_wp2_with fail
 refine (bare_9 _ h 0 0 n 0 tg 0 0 0 ⟨#[]⟩ false none none none none 0 0 0 0 0 0 0 0).mono ?_
 rintro e w1 ⟨rfl,hb1⟩
 have B1:=below_blk hb1 (blk_new _ _)
 obtain ⟨a0,a1,a2,a3,a4,a5,a6,a7,a8,a9,a10,a11,a12,a13,a14,a15⟩:=cells16 B1
 have hz1:w.heap.size < w1.heap.size:=by have:=hb1.size;simp at this;omega
 have HB1:Hid (Below w.heap.size w w1):=((Below.refl _ _).alloc (Nat.le_refl _) _).trans (hb1.mono (by simp;try omega))
 clear hb1
 go_wp2_with fail
 refine (blank0_W _).mono ?_
 rintro e w2 ⟨rfl,hb2⟩
 have B2:=below_blk hb2 (blk_old _ _ B1)
 clear a0 a1 a2 a3 a4 a5 a6 a7 a8 a9 a10 a11 a12 a13 a14 a15
 obtain ⟨a0,a1,a2,a3,a4,a5,a6,a7,a8,a9,a10,a11,a12,a13,a14,a15⟩:=cells16 B2
 have hz2:w.heap.size < w2.heap.size:=by have:=hb2.size;simp at this;omega
 have HB2:Hid (Below w.heap.size w w2):=(HB1.out.alloc (by first | omega | (simp;try omega)) _).trans (hb2.mono (by first | omega | (simp;try omega)))
 clear hb2 B1 HB1 hz1
 go_wp2_with fail
 refine (blank0_W _).mono ?_
 rintro e w3 ⟨rfl,hb3⟩
 have B3:=below_blk hb3 B2
 clear a0 a1 a2 a3 a4 a5 a6 a7 a8 a9 a10 a11 a12 a13 a14 a15
 obtain ⟨a0,a1,a2,a3,a4,a5,a6,a7,a8,a9,a10,a11,a12,a13,a14,a15⟩:=cells16 B3
 have hz3:w.heap.size < w3.heap.size:=by have:=hb3.size;omega
 have HB3:Hid (Below w.heap.size w w3):=HB2.out.trans (hb3.mono (by first | omega | (simp;try omega)))
 clear hb3 B2 HB2 hz2
 go_wp2_with fail
 refine (side_W (hW.below HB3.out) h).mono ?_
 rw [hs]
 rintro e _ ⟨rfl,rfl⟩
 go_wp2_with fail
 refine (hV _).mono ?_
 rintro e w4 ⟨rfl,hb4⟩
 have B4:=below_blk hb4 B3
 clear a0 a1 a2 a3 a4 a5 a6 a7 a8 a9 a10 a11 a12 a13 a14 a15
 obtain ⟨a0,a1,a2,a3,a4,a5,a6,a7,a8,a9,a10,a11,a12,a13,a14,a15⟩:=cells16 B4
 have hz4:w.heap.size < w4.heap.size:=by have:=hb4.size;omega
 have HB4:Hid (Below w.heap.size w w4):=HB3.out.trans (hb4.mono (by first | omega | (simp;try omega)))
 clear hb4 B3 HB3 hz3
 go_wp2_with fail
 refine (vOf_W _).mono ?_
 rintro e w5 ⟨rfl,hb5⟩
 have B5:=below_blk hb5 B4
 clear a0 a1 a2 a3 a4 a5 a6 a7 a8 a9 a10 a11 a12 a13 a14 a15
 obtain ⟨a0,a1,a2,a3,a4,a5,a6,a7,a8,a9,a10,a11,a12,a13,a14,a15⟩:=cells16 B5
 have hz5:w.heap.size < w5.heap.size:=by have:=hb5.size;omega
 have HB5:Hid (Below w.heap.size w w5):=HB4.out.trans (hb5.mono (by first | omega | (simp;try omega)))
 clear hb5 B4 HB4 hz4
 go_wp2_with fail
 by_cases t0:n < 0
 ·have t1:¬ (n ≥ 0):=by omega
  go_rounds 1
  have hB:=HB5.out
  have hZ:w.heap.size ≤ w5.heap.size:=by omega
  go_ret
  exact ⟨rfl,by go_grown⟩
 have t1:n ≥ 0:=by omega
 by_cases t2:n ≤ 9007199254740992
 ·have:=HN.out
  omega
 go_rounds 1
 have hB:=HB5.out
 have hZ:w.heap.size ≤ w5.heap.size:=by omega
 go_ret
 exact ⟨rfl,by go_grown⟩
end Go.Proofs.YthaliljaglldjaaGreat
/- Mint, Move, Of: money. -/
namespace Go.Proofs.YthaliljaglldjaaGreat
open Go.RowKit Go.ChangeMaps Go.MapKept
variable {w:World} {p:Nat} {M:WM} {F:Nat→Prop}
set_option maxRecDepth 8000 in
theorem Mint_W (hW:IsW w p M F) (hl:M.last + 1 ≤ 1099511627776) {h:Int} (home:0 ≤ h∧h < M.made.length) :
 Calls Tryz.prog 95 #[.pointer (some ⟨p,0,none⟩),.int .i64 h] w (MadeL w p M F h (mintT h 0 0)):=by
 have hmk:=Make_8 hW hl home (n:=0) (l:=0) (by decide) (by decide)
 have HMK:=(show Hid _ from hmk)
 clear hmk hW hl home
 go_enter Tryz.func95,Tryz.ntmps95
 go_wp2_with fail
 refine Calls.mono HMK.out ?_
 rintro e w5 (⟨hroom,rfl,h5⟩ | ⟨hroom,rfl,hb5⟩)
 ·have H5:=(show Hid _ from h5)
  have HR:Hid (M.made.getD h.toNat 0 < 512):=hroom
  clear h5 hroom
  go_wp2_with fail
  go_ret2
  exact .inl ⟨HR.out,rfl,H5.out⟩
 ·have H5:=(show Hid (Below w.heap.size w w5) from hb5)
  have HR:Hid (¬ M.made.getD h.toNat 0 < 512):=hroom
  clear hb5 hroom
  go_wp2_with fail
  go_ret2
  exact .inr ⟨by have:=HR.out;omega,rfl,H5.out⟩
def MovePost (w:World) (p:Nat) (M:WM) (F:Nat→Prop) (a h N mi b h' N' mi':Int) (e:Ending) (w':World):Prop :=
 ((a = b∨mi ≠ mi')∧e = .returned (.int .i64 100)∧Below w.heap.size w w') ∨
 (a ≠ b∧mi = mi'∧9007199254740992 - N < N'∧e = .returned (.int .i64 8)∧Below w.heap.size w w') ∨
 (a ≠ b∧mi = mi'∧N' ≤ 9007199254740992 - N∧e = .returned (.int .i64 0)∧IsW w' p ((M.set a (purseT h (N + N') mi)).set b (purseT h' 0 mi')) F∧Keeps F w w')
set_option maxHeartbeats 2000000 in
set_option maxRecDepth 8000 in
theorem Move_W (hW:IsW w p M F) {a h N mi b h' N' mi':Int} (ha:M.at a = some (purseT h N mi)) (hb:M.at b = some (purseT h' N' mi')) (home:0 ≤ h∧h < M.made.length) (home':0 ≤ h'∧h' < M.made.length)
 (hN:0 ≤ N∧N ≤ 9007199254740992) (hN':0 ≤ N'∧N' ≤ 9007199254740992) :
 Calls Tryz.prog 99 #[.pointer (some ⟨p,0,none⟩),.int .i64 a,.int .i64 b] w (MovePost w p M F a h N mi b h' N' mi'):=by
 have hra:=hW.ok.at_wf ha
 have hrb:=hW.ok.at_wf hb
 have hf:=find_lt hW (q:=9) hra ha plain0 (.inr rfl)
 rw [if_pos rfl] at hf
 have HF:=(show Hid _ from hf)
 have HW:=(show Hid (IsW w p M F) from hW)
 have Ha:=(show Hid (M.at a = some (purseT h N mi)) from ha)
 have Hb:=(show Hid (M.at b = some (purseT h' N' mi')) from hb)
 have Hhome:=(show Hid (0 ≤ h∧h < M.made.length) from home)
 have Hhome':=(show Hid (0 ≤ h'∧h' < M.made.length) from home')
 have Hra:=(show Hid _ from hra)
 have Hrb:=(show Hid _ from hrb)
 obtain ⟨hN0,hN1⟩:=hN
 obtain ⟨hM0,hM1⟩:=hN'
 clear hf hW ha hb home home' hra hrb
 go_enter Tryz.func99,Tryz.ntmps99
 go_wp2_with fail
 refine Calls.mono HF.out ?_
 rintro e w1 ⟨rfl,hb1⟩
 obtain ⟨hst,hb2,hg2⟩:=boxed_what w1 #[.int .u8 9,.int .i64 h,.int .u8 0,.int .i64 0,.string ⟨#[]⟩,.slice none 0 0,.int .i64 0,.slice none 0 0,.int .i64 N,.int .i64 0,.int .i64 mi,.int .i64 0,.int .u8 0,.bool false,.slice none 0 0,.slice none 0 0] rfl (by simp [go_sem])
 have HB2:=(show Hid (Below w.heap.size w _) from hb1.trans (hb2.mono hb1.size))
 have HG2:=(show Hid _ from hg2)
 have hgw:w.heap.size ≤ w1.heap.size:=hb1.size
 clear hb1 hb2 hg2
 go_upto_region 2 with fail
 clear hst
 revert HB2 HG2 hgw
 generalize (w1.alloc _).setRow _ _ = w2
 generalize w1.heap.size = g
 intro HB2 HG2 hgw
 have hf2:=find_lt (HW.out.below HB2.out) (q:=9) Hrb.out Hb.out plain0 (.inr rfl)
 rw [if_pos rfl] at hf2
 have HF2:=(show Hid _ from hf2)
 have Hgw:=(show Hid (w.heap.size ≤ g) from hgw)
 clear hf2 HF hgw
 go_wp2_with fail
 refine Calls.mono HF2.out ?_
 rintro e w3 ⟨rfl,hb3⟩
 obtain ⟨hst,hb4,hg4⟩:=boxed_what w3 #[.int .u8 9,.int .i64 h',.int .u8 0,.int .i64 0,.string ⟨#[]⟩,.slice none 0 0,.int .i64 0,.slice none 0 0,.int .i64 N',.int .i64 0,.int .i64 mi',.int .i64 0,.int .u8 0,.bool false,.slice none 0 0,.slice none 0 0] rfl (by simp [go_sem])
 have HB4:=(show Hid (Below w.heap.size w _) from HB2.out.trans ((hb3.trans (hb4.mono hb3.size)).mono HB2.out.size))
 have HG4:=(show Hid _ from hg4)
 have hg3:=below_blk hb3 HG2.out
 have HGA:=(show Hid _ from below_blk hb4 hg3)
 have Hgg:Hid (g < w3.heap.size):=blk_lt hg3
 clear hb3 hb4 hg4 hg3
 go_upto_region 3 with fail
 clear hst
 revert HB4 HG4 HGA Hgg
 generalize (w3.alloc _).setRow _ _ = w4
 generalize w3.heap.size = g'
 intro HB4 HG4 HGA Hgg
 have a8:w4.cell? ⟨g,8,none⟩ = some (.int .i64 N):=by rw [cell_blk HGA.out];rfl
 have a10:w4.cell? ⟨g,10,none⟩ = some (.int .i64 mi):=by rw [cell_blk HGA.out];rfl
 have b8:w4.cell? ⟨g',8,none⟩ = some (.int .i64 N'):=by rw [cell_blk HG4.out];rfl
 have b10:w4.cell? ⟨g',10,none⟩ = some (.int .i64 mi'):=by rw [cell_blk HG4.out];rfl
 by_cases hab:a = b
 ·have e1:(a == b) = true:=by simpa using hab
  go_wp2_with fail
  go_ret
  exact .inl ⟨.inl hab,rfl,HB4.out⟩
 ·have e1:(a == b) = false:=by simpa using hab
  by_cases hmm:mi = mi'
  ·have e2:(mi != mi') = false:=by simpa using hmm
   by_cases h1:9007199254740992 - N < N'
   ·have Hab:=(show Hid (a ≠ b) from hab)
    have Hmm:=(show Hid (mi = mi') from hmm)
    clear hab hmm
    go_wp2_with fail
    go_ret
    exact .inr (.inl ⟨Hab.out,Hmm.out,h1,rfl,HB4.out⟩)
   ·have hn1:N' ≤ 9007199254740992 - N:=by omega
    have Hab:=(show Hid (a ≠ b) from hab)
    have Hmm:=(show Hid (mi = mi') from hmm)
    clear hab hmm
    have fa:=frozen_blk HGA.out 8
    have fb:=frozen_blk HG4.out 8
    have hA5:(w4.setCell ⟨g,8,none⟩ (.int .i64 (N + N'))).heap[g]? = some (.cells #[.int .u8 9,.int .i64 h,.int .u8 0,.int .i64 0,.string ⟨#[]⟩,.slice none 0 0,.int .i64 0,.slice none 0 0,.int .i64 (N + N'),.int .i64 0,.int .i64 mi,.int .i64 0,.int .u8 0,.bool false,.slice none 0 0,.slice none 0 0] 46 (0,0)):=blk_setCell HGA.out 8 _
    have hB5:=blk_other HG4.out ⟨g,8,none⟩ (.int .i64 (N + N')) (show g' ≠ g by have:=Hgg.out;omega)
    have hA6:=blk_other hA5 ⟨g',8,none⟩ (.int .i64 0) (show g ≠ g' by have:=Hgg.out;omega)
    have hB6:((w4.setCell ⟨g,8,none⟩ (.int .i64 (N + N'))).setCell ⟨g',8,none⟩ (.int .i64 0)).heap[g']? = some (.cells #[.int .u8 9,.int .i64 h',.int .u8 0,.int .i64 0,.string ⟨#[]⟩,.slice none 0 0,.int .i64 0,.slice none 0 0,.int .i64 0,.int .i64 0,.int .i64 mi',.int .i64 0,.int .u8 0,.bool false,.slice none 0 0,.slice none 0 0] 46 (0,0)):=blk_setCell hB5 8 _
    have hk6:Keeps (fun x=>x = g∨x = g') w4 ((w4.setCell ⟨g,8,none⟩ (.int .i64 (N + N'))).setCell ⟨g',8,none⟩ (.int .i64 0)) :=
     (Keeps.setCell (S:=fun x=>x = g∨x = g') w4 _ _ (.inl rfl)).trans (Keeps.setCell (S:=fun x=>x = g∨x = g') _ _ _ (.inr rfl)) (fun _ _ h=>h) (fun _ _ h=>h)
    have hgF:∀ x,F x→¬ (x = g∨x = g'):=fun x hx e=>by
     have h1:=HW.out.lt x hx
     have h2:=Hgw.out
     have h3:=Hgg.out
     omega
    have HgF:=(show Hid _ from hgF)
    have hW6:=(HW.out.below HB4.out).keeps hk6 hgF
    have hb6:Below w.heap.size w ((w4.setCell ⟨g,8,none⟩ (.int .i64 (N + N'))).setCell ⟨g',8,none⟩ (.int .i64 0)):=HB4.out.trans (hk6.below HB4.out.size (fun x hx=>by have h2:=Hgw.out;have h3:=Hgg.out;omega))
    have b58:(w4.setCell ⟨g,8,none⟩ (.int .i64 (N + N'))).cell? ⟨g',8,none⟩ = some (.int .i64 N'):=by rw [cell_blk hB5];rfl
    have HB6:=(show Hid (Below w.heap.size w _) from hb6)
    have HW6:=(show Hid (IsW _ p M F) from hW6)
    have HA6:=(show Hid _ from hA6)
    have HB6':=(show Hid _ from hB6)
    clear hA5 hB5 hA6 hB6 hk6 hgF hW6 hb6
    go_upto_region 12 with fail
    clear a8 a10 b8 b10 fa fb b58
    revert HB6 HW6 HA6 HB6'
    generalize (w4.setCell _ _).setCell _ _ = w6
    intro HB6 HW6 HA6 HB6'
    have hld:=loadWhat_blk HA6.out rfl
    have hlay:=Lay_lt HW6.out (r:=a) (n':=N + N') (vk':=0) (vn':=0) (l':=0) (fu':=false) Hra.out Ha.out plain0 (fun w hW=>form_9 hW h (N + N') mi (sideB_iff.2 Hhome.out) (by omega))
    have HLAY:=(show Hid _ from hlay)
    clear hlay
    go_wp2_with fail
    refine Calls.mono HLAY.out ?_
    rintro e w7 ⟨rfl,hW7,hk7⟩
    have hg7:w7.heap[g']? = some (.cells #[.int .u8 9,.int .i64 h',.int .u8 0,.int .i64 0,.string ⟨#[]⟩,.slice none 0 0,.int .i64 0,.slice none 0 0,.int .i64 0,.int .i64 0,.int .i64 mi',.int .i64 0,.int .u8 0,.bool false,.slice none 0 0,.slice none 0 0] 46 (0,0)):=(hk7.block g' (blk_lt HB6'.out) (fun e=>HgF.out g' e (.inr rfl))).trans HB6'.out
    have hld7:=loadWhat_blk hg7 rfl
    have HW7:=(show Hid (IsW w7 p (M.set a (purseT h (N + N') mi)) F) from hW7)
    have HK7:=(show Hid (Keeps F w w7) from Below.keeps HB6.out hk7)
    have hlay2:=Lay_lt HW7.out (r:=b) (n':=0) (vk':=0) (vn':=0) (l':=0) (fu':=false) Hrb.out ((WM.set_at_ne M _ (fun e=>Hab.out e.symm)).trans Hb.out) plain0 (fun w hW=>form_9 hW h' 0 mi' (sideB_iff.2 Hhome'.out) (by omega))
    have HLAY2:=(show Hid _ from hlay2)
    clear hlay2 hW7 hk7 hg7 hld HLAY
    go_wp2_with fail
    refine Calls.mono HLAY2.out ?_
    rintro e w8 ⟨rfl,hW8,hk8⟩
    have HF8:Hid (IsW w8 p ((M.set a (purseT h (N + N') mi)).set b (purseT h' 0 mi')) F∧Keeps F w w8):=⟨hW8,HK7.out.trans hk8 (fun _ _ h=>h) (fun _ _ h=>h)⟩
    clear hW8 hk8 hld7
    go_wp2_with fail
    go_ret
    exact .inr (.inr ⟨Hab.out,Hmm.out,hn1,rfl,HF8.out⟩)
  ·have e2:(mi != mi') = true:=by simpa using hmm
   have Hmm:=(show Hid (mi ≠ mi') from hmm)
   clear hab hmm
   go_wp2_with fail
   go_ret
   exact .inl ⟨.inr Hmm.out,rfl,HB4.out⟩
end Go.Proofs.YthaliljaglldjaaGreat
/- posternref07.form at a thing of the kind 1: yes. (gen_form7.py) -/
namespace Go.Proofs.YthaliljaglldjaaGreat
open Go.RowKit Go.ChangeMaps Go.MapKept
set_option maxHeartbeats 16000000 in
set_option maxRecDepth 20000 in
theorem form7_1 (w:World) (sides:Int) (h:Int) (hh:0 ≤ h∧h < sides) {F:Nat→Prop} (v:Val) (pv:Option Addr) (cv:Nat) (hv:SlAt w F (.slice pv v.l.length cv) v.l) (hwf:v.wf) (hmay:mayV v = true) :
 Calls Tryz.prog 81 #[.agg #[.int .u8 1,.int .i64 h,.int .u8 v.kind,.int .i64 v.n,.string v.s,.slice pv v.l.length cv,.int .i64 v.r,.slice none 0 0,.int .i64 0,.int .i64 0,.int .i64 0,.int .i64 0,.int .u8 0,.bool false,.slice none 0 0,.slice none 0 0],.int .i64 sides] w fun e w'=>e = .returned (.bool true)∧Below w.heap.size w w':=by
 have HM:Hid (∀ w',Below w.heap.size w w'→Calls Tryz.prog 174 #[.agg #[.int .u8 v.kind,.int .i64 v.n,.string v.s,.slice pv v.l.length cv,.int .i64 v.r]] w' fun e w''=>e = .returned (.bool true)∧Below w'.heap.size w' w''):=fun w' hb=>by have h:=may4_W hwf (hv.on hb);rw [hmay] at h;exact h
 have HS:Hid (∀ w',Below w.heap.size w w'→Calls Tryz.prog 178 #[.agg #[.int .u8 v.kind,.int .i64 v.n,.string v.s,.slice pv v.l.length cv,.int .i64 v.r],.agg #[.int .u8 v.kind,.int .i64 v.n,.string v.s,.slice pv v.l.length cv,.int .i64 v.r]] w' fun e w''=>e = .returned (.bool true)∧Below w'.heap.size w' w''):=fun w' hb=>(same4_G v hwf v (.slice pv v.l.length cv) (.slice pv v.l.length cv) w' F F (hv.on hb) (hv.on hb)).mono fun e w'' ⟨B,h1,h2,h3⟩=>by rw [h2.2 rfl] at h1;exact ⟨h1,h3⟩
 obtain ⟨vk,vn,vstr,vl,vr⟩:=v
 clear hv hwf hmay
 simp only at HM HS ⊢
 have hh1:¬ h < 0:=by omega
 have hh2:¬ h ≥ sides:=by omega
 clear hh
 have H5:=(show Hid _ from two_what w #[.int .u8 1,.int .i64 h,.int .u8 vk,.int .i64 vn,.string vstr,.slice pv vl.length cv,.int .i64 vr,.slice none 0 0,.int .i64 0,.int .i64 0,.int .i64 0,.int .i64 0,.int .u8 0,.bool false,.slice none 0 0,.slice none 0 0] #[.int .u8 1,.int .i64 h,.int .u8 vk,.int .i64 vn,.string vstr,.slice pv vl.length cv,.int .i64 vr,.slice none 0 0,.int .i64 0,.int .i64 0,.int .i64 0,.int .i64 0,.int .u8 0,.bool false,.slice none 0 0,.slice none 0 0])
 go_enter Tryz.func81,Tryz.ntmps81
 go_upto_region 51 with fail
 have H5:=(show Hid (_∧_∧_) from H5.out _ (.inl rfl))
 revert H5
 generalize World.alloc (World.alloc w _) _ = w5
 intro H5
 obtain ⟨a0,a1,a2,a3,a4,a5,a6,a7,a8,a9,a10,a11,a12,a13,a14,a15⟩:=cells16 H5.out.2.1
 obtain ⟨b0,b1,b2,b3,b4,b5,b6,b7,b8,b9,b10,b11,b12,b13,b14,b15⟩:=cells16 H5.out.2.2
 go_wp2_with fail
 refine Calls.mono (HM.out w5 H5.out.1) ?_
 rintro e w6 ⟨rfl,hb6⟩
 have H6:=(show Hid (Below w.heap.size w w6∧_∧_) from ⟨H5.out.1.trans (hb6.mono H5.out.1.size),below_blk hb6 H5.out.2.1,below_blk hb6 H5.out.2.2⟩)
 clear hb6 H5
 clear a0 a1 a2 a3 a4 a5 a6 a7 a8 a9 a10 a11 a12 a13 a14 a15 b0 b1 b2 b3 b4 b5 b6 b7 b8 b9 b10 b11 b12 b13 b14 b15
 obtain ⟨a0,a1,a2,a3,a4,a5,a6,a7,a8,a9,a10,a11,a12,a13,a14,a15⟩:=cells16 H6.out.2.1
 obtain ⟨b0,b1,b2,b3,b4,b5,b6,b7,b8,b9,b10,b11,b12,b13,b14,b15⟩:=cells16 H6.out.2.2
 go_wp2_with fail
 refine Calls.mono (HS.out w6 H6.out.1) ?_
 rintro e w7 ⟨rfl,hb7⟩
 have H7:=(show Hid (Below w.heap.size w w7∧_∧_) from ⟨H6.out.1.trans (hb7.mono H6.out.1.size),below_blk hb7 H6.out.2.1,below_blk hb7 H6.out.2.2⟩)
 clear hb7 H6
 clear a0 a1 a2 a3 a4 a5 a6 a7 a8 a9 a10 a11 a12 a13 a14 a15 b0 b1 b2 b3 b4 b5 b6 b7 b8 b9 b10 b11 b12 b13 b14 b15
 obtain ⟨a0,a1,a2,a3,a4,a5,a6,a7,a8,a9,a10,a11,a12,a13,a14,a15⟩:=cells16 H7.out.2.1
 obtain ⟨b0,b1,b2,b3,b4,b5,b6,b7,b8,b9,b10,b11,b12,b13,b14,b15⟩:=cells16 H7.out.2.2
 go_wp2_with fail
 go_ret
 exact ⟨rfl,H7.out.1⟩
end Go.Proofs.YthaliljaglldjaaGreat
/- posternref07.form at a thing of the kind 2: yes. (gen_form7.py) -/
namespace Go.Proofs.YthaliljaglldjaaGreat
open Go.RowKit Go.ChangeMaps Go.MapKept
set_option maxHeartbeats 16000000 in
set_option maxRecDepth 20000 in
theorem form7_2 (w:World) (sides:Int) (h:Int) (hh:0 ≤ h∧h < sides) {F:Nat→Prop} (vs:List Val) (ps:Option Addr) (cs:Nat) (hv:SlAt w F (.slice ps vs.length cs) vs) (hwf:(listV vs).wf) (hmay:mayV (listV vs) = true) (hlen:vs.length ≤ 512) :
 Calls Tryz.prog 81 #[.agg #[.int .u8 2,.int .i64 h,.int .u8 0,.int .i64 0,.string ⟨#[]⟩,.slice none 0 0,.int .i64 0,.slice ps vs.length cs,.int .i64 0,.int .i64 0,.int .i64 0,.int .i64 0,.int .u8 0,.bool false,.slice none 0 0,.slice none 0 0],.int .i64 sides] w fun e w'=>e = .returned (.bool true)∧Below w.heap.size w w':=by
 have HM:Hid (∀ w',Below w.heap.size w w'→Calls Tryz.prog 174 #[.agg #[.int .u8 3,.int .i64 0,.string ⟨#[]⟩,.slice ps vs.length cs,.int .i64 0]] w' fun e w''=>e = .returned (.bool true)∧Below w'.heap.size w' w''):=fun w' hb=>by have h:=may4_W (v:=listV vs) hwf (hv.on hb);rw [hmay] at h;exact h
 have hlz:¬ (vs.length:Int) > 512:=by omega
 clear hv hwf hmay hlen
 have hh1:¬ h < 0:=by omega
 have hh2:¬ h ≥ sides:=by omega
 clear hh
 have H5:=(show Hid _ from two_what w #[.int .u8 2,.int .i64 h,.int .u8 0,.int .i64 0,.string ⟨#[]⟩,.slice none 0 0,.int .i64 0,.slice ps vs.length cs,.int .i64 0,.int .i64 0,.int .i64 0,.int .i64 0,.int .u8 0,.bool false,.slice none 0 0,.slice none 0 0] #[.int .u8 2,.int .i64 h,.int .u8 0,.int .i64 0,.string ⟨#[]⟩,.slice none 0 0,.int .i64 0,.slice none 0 0,.int .i64 0,.int .i64 0,.int .i64 0,.int .i64 0,.int .u8 0,.bool false,.slice none 0 0,.slice none 0 0])
 go_enter Tryz.func81,Tryz.ntmps81
 have HB0:=(show Hid (Below w.heap.size w ((w.alloc (.cells #[.int .u8 2,.int .i64 h,.int .u8 0,.int .i64 0,.string ⟨#[]⟩,.slice none 0 0,.int .i64 0,.slice ps vs.length cs,.int .i64 0,.int .i64 0,.int .i64 0,.int .i64 0,.int .u8 0,.bool false,.slice none 0 0,.slice none 0 0] 46)).alloc (.cells #[.int .u8 2,.int .i64 h,.int .u8 0,.int .i64 0,.string ⟨#[]⟩,.slice none 0 0,.int .i64 0,.slice none 0 0,.int .i64 0,.int .i64 0,.int .i64 0,.int .i64 0,.int .u8 0,.bool false,.slice none 0 0,.slice none 0 0] 46))) from (H5.out _ (.inl rfl)).1)
 have HC0:=(show Hid (_∧_) from (H5.out _ (.inl rfl)).2)
 go_upto_region 16 with fail
 revert HB0 HC0
 generalize World.alloc (World.alloc w _) _ = w3
 intro HB0 HC0
 obtain ⟨a0,a1,a2,a3,a4,a5,a6,a7,a8,a9,a10,a11,a12,a13,a14,a15⟩:=cells16 HC0.out.1
 go_wp2_with fail
 refine (list7_W w3 ps vs.length cs).mono ?_
 rintro e w4 ⟨rfl,hb4⟩
 have HB4:=(show Hid (Below w.heap.size w w4) from HB0.out.trans (hb4.mono HB0.out.size))
 have HC4:=(show Hid (_∧_) from And.intro (below_blk hb4 HC0.out.1) (below_blk hb4 HC0.out.2))
 clear hb4 HB0 HC0 a0 a1 a2 a3 a4 a5 a6 a7 a8 a9 a10 a11 a12 a13 a14 a15
 go_wp2_with fail
 refine Calls.mono (HM.out w4 HB4.out) ?_
 rintro e w5 ⟨rfl,hb5⟩
 have H6:=(show Hid (Below w.heap.size w w5∧_∧_) from ⟨HB4.out.trans (hb5.mono HB4.out.size),below_blk hb5 HC4.out.1,below_blk hb5 HC4.out.2⟩)
 clear hb5 HB4 HC4 H5
 have H5:=H6
 clear H6
 go_upto_region 51 with fail
 obtain ⟨a0,a1,a2,a3,a4,a5,a6,a7,a8,a9,a10,a11,a12,a13,a14,a15⟩:=cells16 H5.out.2.1
 obtain ⟨b0,b1,b2,b3,b4,b5,b6,b7,b8,b9,b10,b11,b12,b13,b14,b15⟩:=cells16 H5.out.2.2
 go_wp2_with fail
 refine (may4_nil w5).mono ?_
 rintro e w6 ⟨rfl,hb6⟩
 have H6:=(show Hid (Below w.heap.size w w6∧_∧_) from ⟨H5.out.1.trans (hb6.mono H5.out.1.size),below_blk hb6 H5.out.2.1,below_blk hb6 H5.out.2.2⟩)
 clear hb6 H5
 clear a0 a1 a2 a3 a4 a5 a6 a7 a8 a9 a10 a11 a12 a13 a14 a15 b0 b1 b2 b3 b4 b5 b6 b7 b8 b9 b10 b11 b12 b13 b14 b15
 obtain ⟨a0,a1,a2,a3,a4,a5,a6,a7,a8,a9,a10,a11,a12,a13,a14,a15⟩:=cells16 H6.out.2.1
 obtain ⟨b0,b1,b2,b3,b4,b5,b6,b7,b8,b9,b10,b11,b12,b13,b14,b15⟩:=cells16 H6.out.2.2
 go_wp2_with fail
 refine (same4_nil w6).mono ?_
 rintro e w7 ⟨rfl,hb7⟩
 have H7:=(show Hid (Below w.heap.size w w7∧_∧_) from ⟨H6.out.1.trans (hb7.mono H6.out.1.size),below_blk hb7 H6.out.2.1,below_blk hb7 H6.out.2.2⟩)
 clear hb7 H6
 clear a0 a1 a2 a3 a4 a5 a6 a7 a8 a9 a10 a11 a12 a13 a14 a15 b0 b1 b2 b3 b4 b5 b6 b7 b8 b9 b10 b11 b12 b13 b14 b15
 obtain ⟨a0,a1,a2,a3,a4,a5,a6,a7,a8,a9,a10,a11,a12,a13,a14,a15⟩:=cells16 H7.out.2.1
 obtain ⟨b0,b1,b2,b3,b4,b5,b6,b7,b8,b9,b10,b11,b12,b13,b14,b15⟩:=cells16 H7.out.2.2
 go_wp2_with fail
 go_ret
 exact ⟨rfl,H7.out.1⟩
end Go.Proofs.YthaliljaglldjaaGreat
/- posternref07.form at a thing of the kind 3: yes. (gen_form7.py) -/
namespace Go.Proofs.YthaliljaglldjaaGreat
open Go.RowKit Go.ChangeMaps Go.MapKept
set_option maxHeartbeats 16000000 in
set_option maxRecDepth 20000 in
theorem form7_3 (w:World) (sides:Int) (h:Int) (hh:0 ≤ h∧h < sides) (n:Int) (hn:0 ≤ n∧n ≤ 9007199254740992) :
 Calls Tryz.prog 81 #[.agg #[.int .u8 3,.int .i64 h,.int .u8 0,.int .i64 0,.string ⟨#[]⟩,.slice none 0 0,.int .i64 0,.slice none 0 0,.int .i64 n,.int .i64 0,.int .i64 0,.int .i64 0,.int .u8 0,.bool false,.slice none 0 0,.slice none 0 0],.int .i64 sides] w fun e w'=>e = .returned (.bool true)∧Below w.heap.size w w':=by
 have hh1:¬ h < 0:=by omega
 have hh2:¬ h ≥ sides:=by omega
 clear hh
 have hn1:¬ n < 0:=by omega
 have hn2:¬ n > 9007199254740992:=by omega
 clear hn
 have H5:=(show Hid _ from two_what w #[.int .u8 3,.int .i64 h,.int .u8 0,.int .i64 0,.string ⟨#[]⟩,.slice none 0 0,.int .i64 0,.slice none 0 0,.int .i64 n,.int .i64 0,.int .i64 0,.int .i64 0,.int .u8 0,.bool false,.slice none 0 0,.slice none 0 0] #[.int .u8 3,.int .i64 h,.int .u8 0,.int .i64 0,.string ⟨#[]⟩,.slice none 0 0,.int .i64 0,.slice none 0 0,.int .i64 n,.int .i64 0,.int .i64 0,.int .i64 0,.int .u8 0,.bool false,.slice none 0 0,.slice none 0 0])
 go_enter Tryz.func81,Tryz.ntmps81
 go_upto_region 51 with fail
 have H5:=(show Hid (_∧_∧_) from H5.out _ (.inl rfl))
 revert H5
 generalize World.alloc (World.alloc w _) _ = w5
 intro H5
 obtain ⟨a0,a1,a2,a3,a4,a5,a6,a7,a8,a9,a10,a11,a12,a13,a14,a15⟩:=cells16 H5.out.2.1
 obtain ⟨b0,b1,b2,b3,b4,b5,b6,b7,b8,b9,b10,b11,b12,b13,b14,b15⟩:=cells16 H5.out.2.2
 go_wp2_with fail
 refine (may4_nil w5).mono ?_
 rintro e w6 ⟨rfl,hb6⟩
 have H6:=(show Hid (Below w.heap.size w w6∧_∧_) from ⟨H5.out.1.trans (hb6.mono H5.out.1.size),below_blk hb6 H5.out.2.1,below_blk hb6 H5.out.2.2⟩)
 clear hb6 H5
 clear a0 a1 a2 a3 a4 a5 a6 a7 a8 a9 a10 a11 a12 a13 a14 a15 b0 b1 b2 b3 b4 b5 b6 b7 b8 b9 b10 b11 b12 b13 b14 b15
 obtain ⟨a0,a1,a2,a3,a4,a5,a6,a7,a8,a9,a10,a11,a12,a13,a14,a15⟩:=cells16 H6.out.2.1
 obtain ⟨b0,b1,b2,b3,b4,b5,b6,b7,b8,b9,b10,b11,b12,b13,b14,b15⟩:=cells16 H6.out.2.2
 go_wp2_with fail
 refine (same4_nil w6).mono ?_
 rintro e w7 ⟨rfl,hb7⟩
 have H7:=(show Hid (Below w.heap.size w w7∧_∧_) from ⟨H6.out.1.trans (hb7.mono H6.out.1.size),below_blk hb7 H6.out.2.1,below_blk hb7 H6.out.2.2⟩)
 clear hb7 H6
 clear a0 a1 a2 a3 a4 a5 a6 a7 a8 a9 a10 a11 a12 a13 a14 a15 b0 b1 b2 b3 b4 b5 b6 b7 b8 b9 b10 b11 b12 b13 b14 b15
 obtain ⟨a0,a1,a2,a3,a4,a5,a6,a7,a8,a9,a10,a11,a12,a13,a14,a15⟩:=cells16 H7.out.2.1
 obtain ⟨b0,b1,b2,b3,b4,b5,b6,b7,b8,b9,b10,b11,b12,b13,b14,b15⟩:=cells16 H7.out.2.2
 go_wp2_with fail
 go_ret
 exact ⟨rfl,H7.out.1⟩
end Go.Proofs.YthaliljaglldjaaGreat
/- posternref07.form at a thing of the kind 4: yes. (gen_form7.py) -/
namespace Go.Proofs.YthaliljaglldjaaGreat
open Go.RowKit Go.ChangeMaps Go.MapKept
set_option maxHeartbeats 16000000 in
set_option maxRecDepth 20000 in
theorem form7_4 (w:World) (sides:Int) (h:Int) (hh:0 ≤ h∧h < sides) {F:Nat→Prop} (vs:List Val) (ps:Option Addr) (cs:Nat) (hv:SlAt w F (.slice ps vs.length cs) vs) (hwf:(listV vs).wf) (hmay:mayV (listV vs) = true) (hlen:vs.length ≤ 512) :
 Calls Tryz.prog 81 #[.agg #[.int .u8 4,.int .i64 h,.int .u8 0,.int .i64 0,.string ⟨#[]⟩,.slice none 0 0,.int .i64 0,.slice ps vs.length cs,.int .i64 0,.int .i64 0,.int .i64 0,.int .i64 0,.int .u8 0,.bool false,.slice none 0 0,.slice none 0 0],.int .i64 sides] w fun e w'=>e = .returned (.bool true)∧Below w.heap.size w w':=by
 have HM:Hid (∀ w',Below w.heap.size w w'→Calls Tryz.prog 174 #[.agg #[.int .u8 3,.int .i64 0,.string ⟨#[]⟩,.slice ps vs.length cs,.int .i64 0]] w' fun e w''=>e = .returned (.bool true)∧Below w'.heap.size w' w''):=fun w' hb=>by have h:=may4_W (v:=listV vs) hwf (hv.on hb);rw [hmay] at h;exact h
 have hlz:¬ (vs.length:Int) > 512:=by omega
 clear hv hwf hmay hlen
 have hh1:¬ h < 0:=by omega
 have hh2:¬ h ≥ sides:=by omega
 clear hh
 have H5:=(show Hid _ from two_what w #[.int .u8 4,.int .i64 h,.int .u8 0,.int .i64 0,.string ⟨#[]⟩,.slice none 0 0,.int .i64 0,.slice ps vs.length cs,.int .i64 0,.int .i64 0,.int .i64 0,.int .i64 0,.int .u8 0,.bool false,.slice none 0 0,.slice none 0 0] #[.int .u8 4,.int .i64 h,.int .u8 0,.int .i64 0,.string ⟨#[]⟩,.slice none 0 0,.int .i64 0,.slice none 0 0,.int .i64 0,.int .i64 0,.int .i64 0,.int .i64 0,.int .u8 0,.bool false,.slice none 0 0,.slice none 0 0])
 go_enter Tryz.func81,Tryz.ntmps81
 have HB0:=(show Hid (Below w.heap.size w ((w.alloc (.cells #[.int .u8 4,.int .i64 h,.int .u8 0,.int .i64 0,.string ⟨#[]⟩,.slice none 0 0,.int .i64 0,.slice ps vs.length cs,.int .i64 0,.int .i64 0,.int .i64 0,.int .i64 0,.int .u8 0,.bool false,.slice none 0 0,.slice none 0 0] 46)).alloc (.cells #[.int .u8 4,.int .i64 h,.int .u8 0,.int .i64 0,.string ⟨#[]⟩,.slice none 0 0,.int .i64 0,.slice none 0 0,.int .i64 0,.int .i64 0,.int .i64 0,.int .i64 0,.int .u8 0,.bool false,.slice none 0 0,.slice none 0 0] 46))) from (H5.out _ (.inl rfl)).1)
 have HC0:=(show Hid (_∧_) from (H5.out _ (.inl rfl)).2)
 go_upto_region 16 with fail
 revert HB0 HC0
 generalize World.alloc (World.alloc w _) _ = w3
 intro HB0 HC0
 obtain ⟨a0,a1,a2,a3,a4,a5,a6,a7,a8,a9,a10,a11,a12,a13,a14,a15⟩:=cells16 HC0.out.1
 go_wp2_with fail
 refine (list7_W w3 ps vs.length cs).mono ?_
 rintro e w4 ⟨rfl,hb4⟩
 have HB4:=(show Hid (Below w.heap.size w w4) from HB0.out.trans (hb4.mono HB0.out.size))
 have HC4:=(show Hid (_∧_) from And.intro (below_blk hb4 HC0.out.1) (below_blk hb4 HC0.out.2))
 clear hb4 HB0 HC0 a0 a1 a2 a3 a4 a5 a6 a7 a8 a9 a10 a11 a12 a13 a14 a15
 go_wp2_with fail
 refine Calls.mono (HM.out w4 HB4.out) ?_
 rintro e w5 ⟨rfl,hb5⟩
 have H6:=(show Hid (Below w.heap.size w w5∧_∧_) from ⟨HB4.out.trans (hb5.mono HB4.out.size),below_blk hb5 HC4.out.1,below_blk hb5 HC4.out.2⟩)
 clear hb5 HB4 HC4 H5
 have H5:=H6
 clear H6
 go_upto_region 51 with fail
 obtain ⟨a0,a1,a2,a3,a4,a5,a6,a7,a8,a9,a10,a11,a12,a13,a14,a15⟩:=cells16 H5.out.2.1
 obtain ⟨b0,b1,b2,b3,b4,b5,b6,b7,b8,b9,b10,b11,b12,b13,b14,b15⟩:=cells16 H5.out.2.2
 go_wp2_with fail
 refine (may4_nil w5).mono ?_
 rintro e w6 ⟨rfl,hb6⟩
 have H6:=(show Hid (Below w.heap.size w w6∧_∧_) from ⟨H5.out.1.trans (hb6.mono H5.out.1.size),below_blk hb6 H5.out.2.1,below_blk hb6 H5.out.2.2⟩)
 clear hb6 H5
 clear a0 a1 a2 a3 a4 a5 a6 a7 a8 a9 a10 a11 a12 a13 a14 a15 b0 b1 b2 b3 b4 b5 b6 b7 b8 b9 b10 b11 b12 b13 b14 b15
 obtain ⟨a0,a1,a2,a3,a4,a5,a6,a7,a8,a9,a10,a11,a12,a13,a14,a15⟩:=cells16 H6.out.2.1
 obtain ⟨b0,b1,b2,b3,b4,b5,b6,b7,b8,b9,b10,b11,b12,b13,b14,b15⟩:=cells16 H6.out.2.2
 go_wp2_with fail
 refine (same4_nil w6).mono ?_
 rintro e w7 ⟨rfl,hb7⟩
 have H7:=(show Hid (Below w.heap.size w w7∧_∧_) from ⟨H6.out.1.trans (hb7.mono H6.out.1.size),below_blk hb7 H6.out.2.1,below_blk hb7 H6.out.2.2⟩)
 clear hb7 H6
 clear a0 a1 a2 a3 a4 a5 a6 a7 a8 a9 a10 a11 a12 a13 a14 a15 b0 b1 b2 b3 b4 b5 b6 b7 b8 b9 b10 b11 b12 b13 b14 b15
 obtain ⟨a0,a1,a2,a3,a4,a5,a6,a7,a8,a9,a10,a11,a12,a13,a14,a15⟩:=cells16 H7.out.2.1
 obtain ⟨b0,b1,b2,b3,b4,b5,b6,b7,b8,b9,b10,b11,b12,b13,b14,b15⟩:=cells16 H7.out.2.2
 go_wp2_with fail
 go_ret
 exact ⟨rfl,H7.out.1⟩
end Go.Proofs.YthaliljaglldjaaGreat
/- posternref07.form at a thing of the kind 5: yes. (gen_form7.py) -/
namespace Go.Proofs.YthaliljaglldjaaGreat
open Go.RowKit Go.ChangeMaps Go.MapKept
set_option maxHeartbeats 16000000 in
set_option maxRecDepth 20000 in
theorem form7_5 (w:World) (sides:Int) (h:Int) (hh:0 ≤ h∧h < sides) :
 Calls Tryz.prog 81 #[.agg #[.int .u8 5,.int .i64 h,.int .u8 0,.int .i64 0,.string ⟨#[]⟩,.slice none 0 0,.int .i64 0,.slice none 0 0,.int .i64 0,.int .i64 0,.int .i64 0,.int .i64 0,.int .u8 0,.bool false,.slice none 0 0,.slice none 0 0],.int .i64 sides] w fun e w'=>e = .returned (.bool true)∧Below w.heap.size w w':=by
 have hh1:¬ h < 0:=by omega
 have hh2:¬ h ≥ sides:=by omega
 clear hh
 have H5:=(show Hid _ from two_what w #[.int .u8 5,.int .i64 h,.int .u8 0,.int .i64 0,.string ⟨#[]⟩,.slice none 0 0,.int .i64 0,.slice none 0 0,.int .i64 0,.int .i64 0,.int .i64 0,.int .i64 0,.int .u8 0,.bool false,.slice none 0 0,.slice none 0 0] #[.int .u8 5,.int .i64 h,.int .u8 0,.int .i64 0,.string ⟨#[]⟩,.slice none 0 0,.int .i64 0,.slice none 0 0,.int .i64 0,.int .i64 0,.int .i64 0,.int .i64 0,.int .u8 0,.bool false,.slice none 0 0,.slice none 0 0])
 go_enter Tryz.func81,Tryz.ntmps81
 go_upto_region 51 with fail
 have H5:=(show Hid (_∧_∧_) from H5.out _ (.inl rfl))
 revert H5
 generalize World.alloc (World.alloc w _) _ = w5
 intro H5
 obtain ⟨a0,a1,a2,a3,a4,a5,a6,a7,a8,a9,a10,a11,a12,a13,a14,a15⟩:=cells16 H5.out.2.1
 obtain ⟨b0,b1,b2,b3,b4,b5,b6,b7,b8,b9,b10,b11,b12,b13,b14,b15⟩:=cells16 H5.out.2.2
 go_wp2_with fail
 refine (may4_nil w5).mono ?_
 rintro e w6 ⟨rfl,hb6⟩
 have H6:=(show Hid (Below w.heap.size w w6∧_∧_) from ⟨H5.out.1.trans (hb6.mono H5.out.1.size),below_blk hb6 H5.out.2.1,below_blk hb6 H5.out.2.2⟩)
 clear hb6 H5
 clear a0 a1 a2 a3 a4 a5 a6 a7 a8 a9 a10 a11 a12 a13 a14 a15 b0 b1 b2 b3 b4 b5 b6 b7 b8 b9 b10 b11 b12 b13 b14 b15
 obtain ⟨a0,a1,a2,a3,a4,a5,a6,a7,a8,a9,a10,a11,a12,a13,a14,a15⟩:=cells16 H6.out.2.1
 obtain ⟨b0,b1,b2,b3,b4,b5,b6,b7,b8,b9,b10,b11,b12,b13,b14,b15⟩:=cells16 H6.out.2.2
 go_wp2_with fail
 refine (same4_nil w6).mono ?_
 rintro e w7 ⟨rfl,hb7⟩
 have H7:=(show Hid (Below w.heap.size w w7∧_∧_) from ⟨H6.out.1.trans (hb7.mono H6.out.1.size),below_blk hb7 H6.out.2.1,below_blk hb7 H6.out.2.2⟩)
 clear hb7 H6
 clear a0 a1 a2 a3 a4 a5 a6 a7 a8 a9 a10 a11 a12 a13 a14 a15 b0 b1 b2 b3 b4 b5 b6 b7 b8 b9 b10 b11 b12 b13 b14 b15
 obtain ⟨a0,a1,a2,a3,a4,a5,a6,a7,a8,a9,a10,a11,a12,a13,a14,a15⟩:=cells16 H7.out.2.1
 obtain ⟨b0,b1,b2,b3,b4,b5,b6,b7,b8,b9,b10,b11,b12,b13,b14,b15⟩:=cells16 H7.out.2.2
 go_wp2_with fail
 go_ret
 exact ⟨rfl,H7.out.1⟩
end Go.Proofs.YthaliljaglldjaaGreat
/- posternref07.form at a thing of the kind 6: yes. (gen_form7.py) -/
namespace Go.Proofs.YthaliljaglldjaaGreat
open Go.RowKit Go.ChangeMaps Go.MapKept
set_option maxHeartbeats 16000000 in
set_option maxRecDepth 20000 in
theorem form7_6 (w:World) (sides:Int) (h:Int) (hh:0 ≤ h∧h < sides) (tg:Int) :
 Calls Tryz.prog 81 #[.agg #[.int .u8 6,.int .i64 h,.int .u8 0,.int .i64 0,.string ⟨#[]⟩,.slice none 0 0,.int .i64 0,.slice none 0 0,.int .i64 0,.int .i64 0,.int .i64 tg,.int .i64 0,.int .u8 0,.bool false,.slice none 0 0,.slice none 0 0],.int .i64 sides] w fun e w'=>e = .returned (.bool true)∧Below w.heap.size w w':=by
 have hh1:¬ h < 0:=by omega
 have hh2:¬ h ≥ sides:=by omega
 clear hh
 have H5:=(show Hid _ from two_what w #[.int .u8 6,.int .i64 h,.int .u8 0,.int .i64 0,.string ⟨#[]⟩,.slice none 0 0,.int .i64 0,.slice none 0 0,.int .i64 0,.int .i64 0,.int .i64 tg,.int .i64 0,.int .u8 0,.bool false,.slice none 0 0,.slice none 0 0] #[.int .u8 6,.int .i64 h,.int .u8 0,.int .i64 0,.string ⟨#[]⟩,.slice none 0 0,.int .i64 0,.slice none 0 0,.int .i64 0,.int .i64 0,.int .i64 tg,.int .i64 0,.int .u8 0,.bool false,.slice none 0 0,.slice none 0 0])
 go_enter Tryz.func81,Tryz.ntmps81
 go_upto_region 51 with fail
 have H5:=(show Hid (_∧_∧_) from H5.out _ (.inl rfl))
 revert H5
 generalize World.alloc (World.alloc w _) _ = w5
 intro H5
 obtain ⟨a0,a1,a2,a3,a4,a5,a6,a7,a8,a9,a10,a11,a12,a13,a14,a15⟩:=cells16 H5.out.2.1
 obtain ⟨b0,b1,b2,b3,b4,b5,b6,b7,b8,b9,b10,b11,b12,b13,b14,b15⟩:=cells16 H5.out.2.2
 go_wp2_with fail
 refine (may4_nil w5).mono ?_
 rintro e w6 ⟨rfl,hb6⟩
 have H6:=(show Hid (Below w.heap.size w w6∧_∧_) from ⟨H5.out.1.trans (hb6.mono H5.out.1.size),below_blk hb6 H5.out.2.1,below_blk hb6 H5.out.2.2⟩)
 clear hb6 H5
 clear a0 a1 a2 a3 a4 a5 a6 a7 a8 a9 a10 a11 a12 a13 a14 a15 b0 b1 b2 b3 b4 b5 b6 b7 b8 b9 b10 b11 b12 b13 b14 b15
 obtain ⟨a0,a1,a2,a3,a4,a5,a6,a7,a8,a9,a10,a11,a12,a13,a14,a15⟩:=cells16 H6.out.2.1
 obtain ⟨b0,b1,b2,b3,b4,b5,b6,b7,b8,b9,b10,b11,b12,b13,b14,b15⟩:=cells16 H6.out.2.2
 go_wp2_with fail
 refine (same4_nil w6).mono ?_
 rintro e w7 ⟨rfl,hb7⟩
 have H7:=(show Hid (Below w.heap.size w w7∧_∧_) from ⟨H6.out.1.trans (hb7.mono H6.out.1.size),below_blk hb7 H6.out.2.1,below_blk hb7 H6.out.2.2⟩)
 clear hb7 H6
 clear a0 a1 a2 a3 a4 a5 a6 a7 a8 a9 a10 a11 a12 a13 a14 a15 b0 b1 b2 b3 b4 b5 b6 b7 b8 b9 b10 b11 b12 b13 b14 b15
 obtain ⟨a0,a1,a2,a3,a4,a5,a6,a7,a8,a9,a10,a11,a12,a13,a14,a15⟩:=cells16 H7.out.2.1
 obtain ⟨b0,b1,b2,b3,b4,b5,b6,b7,b8,b9,b10,b11,b12,b13,b14,b15⟩:=cells16 H7.out.2.2
 go_wp2_with fail
 go_ret
 exact ⟨rfl,H7.out.1⟩
end Go.Proofs.YthaliljaglldjaaGreat
/- posternref07.form at a thing of the kind 7: yes. (gen_form7.py) -/
namespace Go.Proofs.YthaliljaglldjaaGreat
open Go.RowKit Go.ChangeMaps Go.MapKept
set_option maxHeartbeats 16000000 in
set_option maxRecDepth 20000 in
theorem form7_7 (w:World) (sides:Int) (h:Int) (hh:0 ≤ h∧h < sides) {F:Nat→Prop} (v:Val) (pv:Option Addr) (cv:Nat) (hv:SlAt w F (.slice pv v.l.length cv) v.l) (hwf:v.wf) (hmay:mayV v = true) (tg:Int) :
 Calls Tryz.prog 81 #[.agg #[.int .u8 7,.int .i64 h,.int .u8 v.kind,.int .i64 v.n,.string v.s,.slice pv v.l.length cv,.int .i64 v.r,.slice none 0 0,.int .i64 0,.int .i64 0,.int .i64 tg,.int .i64 0,.int .u8 0,.bool false,.slice none 0 0,.slice none 0 0],.int .i64 sides] w fun e w'=>e = .returned (.bool true)∧Below w.heap.size w w':=by
 have HM:Hid (∀ w',Below w.heap.size w w'→Calls Tryz.prog 174 #[.agg #[.int .u8 v.kind,.int .i64 v.n,.string v.s,.slice pv v.l.length cv,.int .i64 v.r]] w' fun e w''=>e = .returned (.bool true)∧Below w'.heap.size w' w''):=fun w' hb=>by have h:=may4_W hwf (hv.on hb);rw [hmay] at h;exact h
 have HS:Hid (∀ w',Below w.heap.size w w'→Calls Tryz.prog 178 #[.agg #[.int .u8 v.kind,.int .i64 v.n,.string v.s,.slice pv v.l.length cv,.int .i64 v.r],.agg #[.int .u8 v.kind,.int .i64 v.n,.string v.s,.slice pv v.l.length cv,.int .i64 v.r]] w' fun e w''=>e = .returned (.bool true)∧Below w'.heap.size w' w''):=fun w' hb=>(same4_G v hwf v (.slice pv v.l.length cv) (.slice pv v.l.length cv) w' F F (hv.on hb) (hv.on hb)).mono fun e w'' ⟨B,h1,h2,h3⟩=>by rw [h2.2 rfl] at h1;exact ⟨h1,h3⟩
 obtain ⟨vk,vn,vstr,vl,vr⟩:=v
 clear hv hwf hmay
 simp only at HM HS ⊢
 have hh1:¬ h < 0:=by omega
 have hh2:¬ h ≥ sides:=by omega
 clear hh
 have H5:=(show Hid _ from two_what w #[.int .u8 7,.int .i64 h,.int .u8 vk,.int .i64 vn,.string vstr,.slice pv vl.length cv,.int .i64 vr,.slice none 0 0,.int .i64 0,.int .i64 0,.int .i64 tg,.int .i64 0,.int .u8 0,.bool false,.slice none 0 0,.slice none 0 0] #[.int .u8 7,.int .i64 h,.int .u8 vk,.int .i64 vn,.string vstr,.slice pv vl.length cv,.int .i64 vr,.slice none 0 0,.int .i64 0,.int .i64 0,.int .i64 tg,.int .i64 0,.int .u8 0,.bool false,.slice none 0 0,.slice none 0 0])
 go_enter Tryz.func81,Tryz.ntmps81
 go_upto_block 0 with fail
 go_cut [7,8,9] (fun a7 a8 a9 wx=>a7 = .bool false∧a8 = .bool false∧a9 = .bool false∧Hid (Below w.heap.size w wx∧wx.heap[w.heap.size]? = some (.cells #[.int .u8 7,.int .i64 h,.int .u8 vk,.int .i64 vn,.string vstr,.slice pv vl.length cv,.int .i64 vr,.slice none 0 0,.int .i64 0,.int .i64 0,.int .i64 tg,.int .i64 0,.int .u8 0,.bool false,.slice none 0 0,.slice none 0 0] 46 (0,0))∧wx.heap[w.heap.size + 1]? = some (.cells #[.int .u8 7,.int .i64 h,.int .u8 vk,.int .i64 vn,.string vstr,.slice pv vl.length cv,.int .i64 vr,.slice none 0 0,.int .i64 0,.int .i64 0,.int .i64 tg,.int .i64 0,.int .u8 0,.bool false,.slice none 0 0,.slice none 0 0] 46 (0,0))))
 case first =>
  go_upto_region 24 with fail
  go_region
  all_goals
   go_wp2_with fail
   go_meet
   case rel=>first | exact ⟨rfl,rfl,rfl,H5.out _ (.inr rfl)⟩ | exact ⟨rfl,rfl,rfl,H5.out _ (.inl rfl)⟩
 clear H5
 obtain ⟨rfl,rfl,rfl,H5⟩:=hcut
 generalize wc = w5 at *
 obtain ⟨a0,a1,a2,a3,a4,a5,a6,a7,a8,a9,a10,a11,a12,a13,a14,a15⟩:=cells16 H5.out.2.1
 obtain ⟨b0,b1,b2,b3,b4,b5,b6,b7,b8,b9,b10,b11,b12,b13,b14,b15⟩:=cells16 H5.out.2.2
 go_wp2_with fail
 refine Calls.mono (HM.out w5 H5.out.1) ?_
 rintro e w6 ⟨rfl,hb6⟩
 have H6:=(show Hid (Below w.heap.size w w6∧_∧_) from ⟨H5.out.1.trans (hb6.mono H5.out.1.size),below_blk hb6 H5.out.2.1,below_blk hb6 H5.out.2.2⟩)
 clear hb6 H5
 clear a0 a1 a2 a3 a4 a5 a6 a7 a8 a9 a10 a11 a12 a13 a14 a15 b0 b1 b2 b3 b4 b5 b6 b7 b8 b9 b10 b11 b12 b13 b14 b15
 obtain ⟨a0,a1,a2,a3,a4,a5,a6,a7,a8,a9,a10,a11,a12,a13,a14,a15⟩:=cells16 H6.out.2.1
 obtain ⟨b0,b1,b2,b3,b4,b5,b6,b7,b8,b9,b10,b11,b12,b13,b14,b15⟩:=cells16 H6.out.2.2
 go_wp2_with fail
 refine Calls.mono (HS.out w6 H6.out.1) ?_
 rintro e w7 ⟨rfl,hb7⟩
 have H7:=(show Hid (Below w.heap.size w w7∧_∧_) from ⟨H6.out.1.trans (hb7.mono H6.out.1.size),below_blk hb7 H6.out.2.1,below_blk hb7 H6.out.2.2⟩)
 clear hb7 H6
 clear a0 a1 a2 a3 a4 a5 a6 a7 a8 a9 a10 a11 a12 a13 a14 a15 b0 b1 b2 b3 b4 b5 b6 b7 b8 b9 b10 b11 b12 b13 b14 b15
 obtain ⟨a0,a1,a2,a3,a4,a5,a6,a7,a8,a9,a10,a11,a12,a13,a14,a15⟩:=cells16 H7.out.2.1
 obtain ⟨b0,b1,b2,b3,b4,b5,b6,b7,b8,b9,b10,b11,b12,b13,b14,b15⟩:=cells16 H7.out.2.2
 go_wp2_with fail
 go_ret
 exact ⟨rfl,H7.out.1⟩
end Go.Proofs.YthaliljaglldjaaGreat
/- posternref07.form at a thing of the kind 10: yes. (gen_form7.py) -/
namespace Go.Proofs.YthaliljaglldjaaGreat
open Go.RowKit Go.ChangeMaps Go.MapKept
set_option maxHeartbeats 16000000 in
set_option maxRecDepth 20000 in
theorem form7_10 (w:World) (sides:Int) (h:Int) (hh:0 ≤ h∧h < sides) :
 Calls Tryz.prog 81 #[.agg #[.int .u8 10,.int .i64 h,.int .u8 0,.int .i64 0,.string ⟨#[]⟩,.slice none 0 0,.int .i64 0,.slice none 0 0,.int .i64 0,.int .i64 0,.int .i64 0,.int .i64 0,.int .u8 0,.bool false,.slice none 0 0,.slice none 0 0],.int .i64 sides] w fun e w'=>e = .returned (.bool true)∧Below w.heap.size w w':=by
 have hh1:¬ h < 0:=by omega
 have hh2:¬ h ≥ sides:=by omega
 clear hh
 have H5:=(show Hid _ from two_what w #[.int .u8 10,.int .i64 h,.int .u8 0,.int .i64 0,.string ⟨#[]⟩,.slice none 0 0,.int .i64 0,.slice none 0 0,.int .i64 0,.int .i64 0,.int .i64 0,.int .i64 0,.int .u8 0,.bool false,.slice none 0 0,.slice none 0 0] #[.int .u8 10,.int .i64 h,.int .u8 0,.int .i64 0,.string ⟨#[]⟩,.slice none 0 0,.int .i64 0,.slice none 0 0,.int .i64 0,.int .i64 0,.int .i64 0,.int .i64 0,.int .u8 0,.bool false,.slice none 0 0,.slice none 0 0])
 go_enter Tryz.func81,Tryz.ntmps81
 go_upto_region 32 with fail
 go_cut [] (fun wx=>Hid (Below w.heap.size w wx∧wx.heap[w.heap.size]? = some (.cells #[.int .u8 10,.int .i64 h,.int .u8 0,.int .i64 0,.string ⟨#[]⟩,.slice none 0 0,.int .i64 0,.slice none 0 0,.int .i64 0,.int .i64 0,.int .i64 0,.int .i64 0,.int .u8 0,.bool false,.slice none 0 0,.slice none 0 0] 46 (0,0))∧wx.heap[w.heap.size + 1]? = some (.cells #[.int .u8 10,.int .i64 h,.int .u8 0,.int .i64 0,.string ⟨#[]⟩,.slice none 0 0,.int .i64 0,.slice none 0 0,.int .i64 0,.int .i64 0,.int .i64 0,.int .i64 0,.int .u8 0,.bool false,.slice none 0 0,.slice none 0 0] 46 (0,0))))
 case first =>
  go_region
  all_goals
   go_wp2_with fail
   go_meet
   case rel=>first | exact H5.out _ (.inr rfl) | exact H5.out _ (.inl rfl)
 have H5:=hcut
 clear hcut
 generalize wc = w5 at *
 obtain ⟨a0,a1,a2,a3,a4,a5,a6,a7,a8,a9,a10,a11,a12,a13,a14,a15⟩:=cells16 H5.out.2.1
 obtain ⟨b0,b1,b2,b3,b4,b5,b6,b7,b8,b9,b10,b11,b12,b13,b14,b15⟩:=cells16 H5.out.2.2
 go_upto_region 51 with fail
 clear a0 a1 a2 a3 a4 a5 a6 a7 a8 a9 a10 a11 a12 a13 a14 a15 b0 b1 b2 b3 b4 b5 b6 b7 b8 b9 b10 b11 b12 b13 b14 b15
 obtain ⟨a0,a1,a2,a3,a4,a5,a6,a7,a8,a9,a10,a11,a12,a13,a14,a15⟩:=cells16 H5.out.2.1
 obtain ⟨b0,b1,b2,b3,b4,b5,b6,b7,b8,b9,b10,b11,b12,b13,b14,b15⟩:=cells16 H5.out.2.2
 go_wp2_with fail
 refine (may4_nil w5).mono ?_
 rintro e w6 ⟨rfl,hb6⟩
 have H6:=(show Hid (Below w.heap.size w w6∧_∧_) from ⟨H5.out.1.trans (hb6.mono H5.out.1.size),below_blk hb6 H5.out.2.1,below_blk hb6 H5.out.2.2⟩)
 clear hb6 H5
 clear a0 a1 a2 a3 a4 a5 a6 a7 a8 a9 a10 a11 a12 a13 a14 a15 b0 b1 b2 b3 b4 b5 b6 b7 b8 b9 b10 b11 b12 b13 b14 b15
 obtain ⟨a0,a1,a2,a3,a4,a5,a6,a7,a8,a9,a10,a11,a12,a13,a14,a15⟩:=cells16 H6.out.2.1
 obtain ⟨b0,b1,b2,b3,b4,b5,b6,b7,b8,b9,b10,b11,b12,b13,b14,b15⟩:=cells16 H6.out.2.2
 go_wp2_with fail
 refine (same4_nil w6).mono ?_
 rintro e w7 ⟨rfl,hb7⟩
 have H7:=(show Hid (Below w.heap.size w w7∧_∧_) from ⟨H6.out.1.trans (hb7.mono H6.out.1.size),below_blk hb7 H6.out.2.1,below_blk hb7 H6.out.2.2⟩)
 clear hb7 H6
 clear a0 a1 a2 a3 a4 a5 a6 a7 a8 a9 a10 a11 a12 a13 a14 a15 b0 b1 b2 b3 b4 b5 b6 b7 b8 b9 b10 b11 b12 b13 b14 b15
 obtain ⟨a0,a1,a2,a3,a4,a5,a6,a7,a8,a9,a10,a11,a12,a13,a14,a15⟩:=cells16 H7.out.2.1
 obtain ⟨b0,b1,b2,b3,b4,b5,b6,b7,b8,b9,b10,b11,b12,b13,b14,b15⟩:=cells16 H7.out.2.2
 go_wp2_with fail
 go_ret
 exact ⟨rfl,H7.out.1⟩
end Go.Proofs.YthaliljaglldjaaGreat
/- posternref07.form at a thing of the kind 11: yes. (gen_form7.py) -/
namespace Go.Proofs.YthaliljaglldjaaGreat
open Go.RowKit Go.ChangeMaps Go.MapKept
set_option maxHeartbeats 16000000 in
set_option maxRecDepth 20000 in
theorem form7_11 (w:World) (sides:Int) (h:Int) (hh:0 ≤ h∧h < sides) (tg:Int) :
 Calls Tryz.prog 81 #[.agg #[.int .u8 11,.int .i64 h,.int .u8 0,.int .i64 0,.string ⟨#[]⟩,.slice none 0 0,.int .i64 0,.slice none 0 0,.int .i64 0,.int .i64 0,.int .i64 tg,.int .i64 0,.int .u8 0,.bool false,.slice none 0 0,.slice none 0 0],.int .i64 sides] w fun e w'=>e = .returned (.bool true)∧Below w.heap.size w w':=by
 have hh1:¬ h < 0:=by omega
 have hh2:¬ h ≥ sides:=by omega
 clear hh
 have H5:=(show Hid _ from two_what w #[.int .u8 11,.int .i64 h,.int .u8 0,.int .i64 0,.string ⟨#[]⟩,.slice none 0 0,.int .i64 0,.slice none 0 0,.int .i64 0,.int .i64 0,.int .i64 tg,.int .i64 0,.int .u8 0,.bool false,.slice none 0 0,.slice none 0 0] #[.int .u8 11,.int .i64 h,.int .u8 0,.int .i64 0,.string ⟨#[]⟩,.slice none 0 0,.int .i64 0,.slice none 0 0,.int .i64 0,.int .i64 0,.int .i64 tg,.int .i64 0,.int .u8 0,.bool false,.slice none 0 0,.slice none 0 0])
 go_enter Tryz.func81,Tryz.ntmps81
 go_upto_region 51 with fail
 have H5:=(show Hid (_∧_∧_) from H5.out _ (.inl rfl))
 revert H5
 generalize World.alloc (World.alloc w _) _ = w5
 intro H5
 obtain ⟨a0,a1,a2,a3,a4,a5,a6,a7,a8,a9,a10,a11,a12,a13,a14,a15⟩:=cells16 H5.out.2.1
 obtain ⟨b0,b1,b2,b3,b4,b5,b6,b7,b8,b9,b10,b11,b12,b13,b14,b15⟩:=cells16 H5.out.2.2
 go_wp2_with fail
 refine (may4_nil w5).mono ?_
 rintro e w6 ⟨rfl,hb6⟩
 have H6:=(show Hid (Below w.heap.size w w6∧_∧_) from ⟨H5.out.1.trans (hb6.mono H5.out.1.size),below_blk hb6 H5.out.2.1,below_blk hb6 H5.out.2.2⟩)
 clear hb6 H5
 clear a0 a1 a2 a3 a4 a5 a6 a7 a8 a9 a10 a11 a12 a13 a14 a15 b0 b1 b2 b3 b4 b5 b6 b7 b8 b9 b10 b11 b12 b13 b14 b15
 obtain ⟨a0,a1,a2,a3,a4,a5,a6,a7,a8,a9,a10,a11,a12,a13,a14,a15⟩:=cells16 H6.out.2.1
 obtain ⟨b0,b1,b2,b3,b4,b5,b6,b7,b8,b9,b10,b11,b12,b13,b14,b15⟩:=cells16 H6.out.2.2
 go_wp2_with fail
 refine (same4_nil w6).mono ?_
 rintro e w7 ⟨rfl,hb7⟩
 have H7:=(show Hid (Below w.heap.size w w7∧_∧_) from ⟨H6.out.1.trans (hb7.mono H6.out.1.size),below_blk hb7 H6.out.2.1,below_blk hb7 H6.out.2.2⟩)
 clear hb7 H6
 clear a0 a1 a2 a3 a4 a5 a6 a7 a8 a9 a10 a11 a12 a13 a14 a15 b0 b1 b2 b3 b4 b5 b6 b7 b8 b9 b10 b11 b12 b13 b14 b15
 obtain ⟨a0,a1,a2,a3,a4,a5,a6,a7,a8,a9,a10,a11,a12,a13,a14,a15⟩:=cells16 H7.out.2.1
 obtain ⟨b0,b1,b2,b3,b4,b5,b6,b7,b8,b9,b10,b11,b12,b13,b14,b15⟩:=cells16 H7.out.2.2
 go_wp2_with fail
 go_ret
 exact ⟨rfl,H7.out.1⟩
end Go.Proofs.YthaliljaglldjaaGreat
