/- Part of the proof. -/
import Derived.Test.YthaliljaglldjaaGreatmAQ
import Derived.Test.YthaliljaglldjaaGreatmAR
namespace Go.Proofs.YthaliljaglldjaaGreat
set_option maxHeartbeats 16000000
set_option maxRecDepth 20000
open Go.RowKit Go.ChangeMaps Go.MapKept
section
variable {w:World} {p:Nat} {M:WM} {F:Nat->Prop}
theorem Make_14 (hW:IsW w p M F) {k h n l tg bi s:Int} {fu:Bool} {c2 c3 c4 c5 c6 c7 c14 c15:Value} (hk:k=14) :
 Calls Tryz.prog 14 #[.pointer (some ⟨p,0,none⟩),.agg #[.int .u8 k,.int .i64 h,c2,c3,c4,c5,c6,c7,.int .i64 n,.int .i64 l,.int .i64 tg,.int .i64 bi,.int .u8 s,.bool fu,c14,c15]] w fun e w'=>e=.returned (.tuple #[.int .i64 0,.int .i64 70])/\Bl w w':=by
 subst hk;have HW:Hid (IsW w p M F):=hW;have hb0:Bl w (w.alloc (.cells #[.int .u8 14,.int .i64 h,c2,c3,c4,c5,c6,c7,.int .i64 n,.int .i64 l,.int .i64 tg,.int .i64 bi,.int .u8 s,.bool fu,c14,c15] 46)):=(Below.refl _ _).alloc (Nat.le_refl _) _;have HB0:=(show Hid _ from hb0);clear hW hb0
 go_enter Tryz.func14,Tryz.ntmps14
 go_wp2_with fail
 refine(none_W (HW.out.below HB0.out)).mono ?_;rintro e _ ⟨rfl,rfl⟩
 go_wp2_with fail
 go_ret2
 exact⟨rfl,HB0.out⟩
theorem Make_form (hW:IsW w p M F) {k h n l tg bi s:Int} {fu:Bool} {c2 c3 c4 c5 c6 c7 c14 c15:Value} (k14:(k==14)=false) (h13:k=13->tg=0) (hform:∀ w1,Bl w w1->Calls Tryz.prog 74 #[.pointer (some ⟨p,0,none⟩),.agg #[.int .u8 k,.int .i64 h,c2,c3,c4,c5,c6,c7,.int .i64 n,.int .i64 l,.int .i64 tg,.int .i64 bi,.int .u8 s,.bool fu,c14,c15]] w1 fun e w'=>e=.returned (.bool false)/\Bl w1 w') :
 Calls Tryz.prog 14 #[.pointer (some ⟨p,0,none⟩),.agg #[.int .u8 k,.int .i64 h,c2,c3,c4,c5,c6,c7,.int .i64 n,.int .i64 l,.int .i64 tg,.int .i64 bi,.int .u8 s,.bool fu,c14,c15]] w fun e w'=>e=.returned (.tuple #[.int .i64 0,.int .i64 70])/\Bl w w':=by
 have HW:Hid (IsW w p M F):=hW;have hb0:Bl w (w.alloc (.cells #[.int .u8 k,.int .i64 h,c2,c3,c4,c5,c6,c7,.int .i64 n,.int .i64 l,.int .i64 tg,.int .i64 bi,.int .u8 s,.bool fu,c14,c15] 46)):=(Below.refl _ _).alloc (Nat.le_refl _) _;have HB0:=(show Hid _ from hb0);have H13:Hid (k=13->tg=0):=h13;have Hform:=(show Hid _ from hform);clear hW hb0 h13 hform
 go_enter Tryz.func14,Tryz.ntmps14
 go_wp2_with fail
 refine(none_W (HW.out.below HB0.out)).mono ?_;rintro e _ ⟨rfl,rfl⟩
 by_cases h13:k=13
 ·have h0:=H13.out h13;subst h13 h0
  go_wp2_with fail
  refine Calls.mono (Hform.out _ HB0.out) ?_;rintro e w1 ⟨rfl,hb1⟩;have HB1:Hid (Bl w w1):=HB0.out.trans (hb1.mono (by simp));clear hb1
  go_wp2_with fail
  go_ret2
  exact⟨rfl,HB1.out⟩
 ·have k13:(k==13)=false:=by simpa using h13
  clear h13
  go_wp2_with fail
  refine Calls.mono (Hform.out _ HB0.out) ?_;rintro e w1 ⟨rfl,hb1⟩;have HB1:Hid (Bl w w1):=HB0.out.trans (hb1.mono (by simp));clear hb1
  go_wp2_with fail
  go_ret2
  exact⟨rfl,HB1.out⟩
theorem Make_refOf (hW:IsW w p M F) {k h n l tg bi s:Int} {fu:Bool} {c2 c3 c4 c5 c6 c7 c14 c15:Value} (k14:(k==14)=false) (h13:k=13->tg=0) (hform:∀ w1,Bl w w1->Calls Tryz.prog 74 #[.pointer (some ⟨p,0,none⟩),.agg #[.int .u8 k,.int .i64 h,c2,c3,c4,c5,c6,c7,.int .i64 n,.int .i64 l,.int .i64 tg,.int .i64 bi,.int .u8 s,.bool fu,c14,c15]] w1 fun e w'=>e=.returned (.bool true)/\Bl w1 w') (hnames:∀ w1,Bl w w1->Calls Tryz.prog 75 #[.pointer (some ⟨p,0,none⟩),.agg #[.int .u8 k,.int .i64 h,c2,c3,c4,c5,c6,c7,.int .i64 n,.int .i64 l,.int .i64 tg,.int .i64 bi,.int .u8 s,.bool fu,c14,c15]] w1 fun e w'=>e=.returned (.bool true)/\Bl w1 w') (tgw:(Lit.int .i64 tg).wf=true) (hA:asksOfB k=true) (hno:M.at tg=none) :
 Calls Tryz.prog 14 #[.pointer (some ⟨p,0,none⟩),.agg #[.int .u8 k,.int .i64 h,c2,c3,c4,c5,c6,c7,.int .i64 n,.int .i64 l,.int .i64 tg,.int .i64 bi,.int .u8 s,.bool fu,c14,c15]] w fun e w'=>e=.returned (.tuple #[.int .i64 0,.int .i64 5])/\Bl w w':=by
 have HW:Hid (IsW w p M F):=hW;have hb0:Bl w (w.alloc (.cells #[.int .u8 k,.int .i64 h,c2,c3,c4,c5,c6,c7,.int .i64 n,.int .i64 l,.int .i64 tg,.int .i64 bi,.int .u8 s,.bool fu,c14,c15] 46)):=(Below.refl _ _).alloc (Nat.le_refl _) _;have HB0:=(show Hid _ from hb0);have H13:Hid (k=13->tg=0):=h13;have Hform:=(show Hid _ from hform);have Hnames:=(show Hid _ from hnames);have Hno:Hid (M.at tg=none):=hno;have HA:Hid (asksOfB k=true):=hA;clear hW hb0 h13 hform hnames hno hA
 go_enter Tryz.func14,Tryz.ntmps14
 go_wp2_with fail
 refine(none_W (HW.out.below HB0.out)).mono ?_;rintro e _ ⟨rfl,rfl⟩
 go_upto_region 3 with fail
 go_cut [27] (fun v wx=>v=.bool false/\Hid (Bl w wx)/\Hid (wx.heap[w.heap.size]? = some (.cells #[.int .u8 k,.int .i64 h,c2,c3,c4,c5,c6,c7,.int .i64 n,.int .i64 l,.int .i64 tg,.int .i64 bi,.int .u8 s,.bool fu,c14,c15] 46 (0,0))))
 case first =>
  by_cases h13:k=13
  ·have h0:=H13.out h13;subst h13 h0
   go_wp2_with fail
   refine Calls.mono (Hform.out _ HB0.out) ?_;rintro e w1 ⟨rfl,hb1⟩;have HB1:Hid (Bl w w1):=HB0.out.trans (hb1.mono (by simp));have B1:=(show Hid _ from below_blk hb1 (blk_new _ _));clear hb1
   go_wp2_with fail
   go_meet
   exact⟨rfl,HB1,B1⟩
  ·have k13:(k==13)=false:=by simpa using h13
   clear h13
   go_wp2_with fail
   refine Calls.mono (Hform.out _ HB0.out) ?_;rintro e w1 ⟨rfl,hb1⟩;have HB1:Hid (Bl w w1):=HB0.out.trans (hb1.mono (by simp));have B1:=(show Hid _ from below_blk hb1 (blk_new _ _));clear hb1
   go_wp2_with fail
   go_meet
   exact⟨rfl,HB1,B1⟩
 obtain⟨rfl,HB1,B1⟩:=hcut;generalize wc=w1 at *;have l1:=loadWhat_blk B1.out rfl
 go_wp2_with fail
 refine Calls.mono (Hnames.out _ HB1.out) ?_;rintro e w2 ⟨rfl,hb2⟩;have HB2:Hid (Bl w w2):=HB1.out.trans (hb2.mono HB1.out.size);have B2:=(show Hid _ from below_blk hb2 B1.out);clear hb2 l1;have c0:w2.cell? ⟨w.heap.size,0,none⟩=some (.int .u8 k):=by rw [cell_blk B2.out];rfl
 have c10:w2.cell? ⟨w.heap.size,10,none⟩=some (.int .i64 tg):=by rw [cell_blk B2.out];rfl
 have c11:w2.cell? ⟨w.heap.size,11,none⟩=some (.int .i64 bi):=by rw [cell_blk B2.out];rfl
 go_wp2_with fail
 refine(asksOf_W k _).mono ?_;rw [HA.out];rintro e _ ⟨rfl,rfl⟩
 go_wp2_with fail
 refine(Is_W (HW.out.below HB2.out) tgw).mono ?_;rw [Hno.out];rintro e _ ⟨rfl,rfl⟩
 go_wp2_with fail
 go_ret2
 exact⟨rfl,HB2.out⟩
theorem Make_refBy (hW:IsW w p M F) {k h n l tg bi s:Int} {fu:Bool} {c2 c3 c4 c5 c6 c7 c14 c15:Value} (k14:(k==14)=false) (h13:k=13->tg=0) (hform:∀ w1,Bl w w1->Calls Tryz.prog 74 #[.pointer (some ⟨p,0,none⟩),.agg #[.int .u8 k,.int .i64 h,c2,c3,c4,c5,c6,c7,.int .i64 n,.int .i64 l,.int .i64 tg,.int .i64 bi,.int .u8 s,.bool fu,c14,c15]] w1 fun e w'=>e=.returned (.bool true)/\Bl w1 w') (hnames:∀ w1,Bl w w1->Calls Tryz.prog 75 #[.pointer (some ⟨p,0,none⟩),.agg #[.int .u8 k,.int .i64 h,c2,c3,c4,c5,c6,c7,.int .i64 n,.int .i64 l,.int .i64 tg,.int .i64 bi,.int .u8 s,.bool fu,c14,c15]] w1 fun e w'=>e=.returned (.bool true)/\Bl w1 w') (tgw:(Lit.int .i64 tg).wf=true) (biw:(Lit.int .i64 bi).wf=true) (hA:asksOfB k=true) (hB:asksByB k=true) (hsome:(M.at tg).isSome=true) (hno:M.at bi=none) :
 Calls Tryz.prog 14 #[.pointer (some ⟨p,0,none⟩),.agg #[.int .u8 k,.int .i64 h,c2,c3,c4,c5,c6,c7,.int .i64 n,.int .i64 l,.int .i64 tg,.int .i64 bi,.int .u8 s,.bool fu,c14,c15]] w fun e w'=>e=.returned (.tuple #[.int .i64 0,.int .i64 5])/\Bl w w':=by
 have HW:Hid (IsW w p M F):=hW;have hb0:Bl w (w.alloc (.cells #[.int .u8 k,.int .i64 h,c2,c3,c4,c5,c6,c7,.int .i64 n,.int .i64 l,.int .i64 tg,.int .i64 bi,.int .u8 s,.bool fu,c14,c15] 46)):=(Below.refl _ _).alloc (Nat.le_refl _) _;have HB0:=(show Hid _ from hb0);have H13:Hid (k=13->tg=0):=h13;have Hform:=(show Hid _ from hform);have Hnames:=(show Hid _ from hnames);have Hno:Hid (M.at bi=none):=hno;have Hso:Hid ((M.at tg).isSome=true):=hsome;have HA:Hid (asksOfB k=true):=hA;have HBy:Hid (asksByB k=true):=hB;clear hW hb0 h13 hform hnames hno hA hB hsome
 go_enter Tryz.func14,Tryz.ntmps14
 go_wp2_with fail
 refine(none_W (HW.out.below HB0.out)).mono ?_;rintro e _ ⟨rfl,rfl⟩
 go_upto_region 3 with fail
 go_cut [27] (fun v wx=>v=.bool false/\Hid (Bl w wx)/\Hid (wx.heap[w.heap.size]? = some (.cells #[.int .u8 k,.int .i64 h,c2,c3,c4,c5,c6,c7,.int .i64 n,.int .i64 l,.int .i64 tg,.int .i64 bi,.int .u8 s,.bool fu,c14,c15] 46 (0,0))))
 case first =>
  by_cases h13:k=13
  ·have h0:=H13.out h13;subst h13 h0
   go_wp2_with fail
   refine Calls.mono (Hform.out _ HB0.out) ?_;rintro e w1 ⟨rfl,hb1⟩;have HB1:Hid (Bl w w1):=HB0.out.trans (hb1.mono (by simp));have B1:=(show Hid _ from below_blk hb1 (blk_new _ _));clear hb1
   go_wp2_with fail
   go_meet
   exact⟨rfl,HB1,B1⟩
  ·have k13:(k==13)=false:=by simpa using h13
   clear h13
   go_wp2_with fail
   refine Calls.mono (Hform.out _ HB0.out) ?_;rintro e w1 ⟨rfl,hb1⟩;have HB1:Hid (Bl w w1):=HB0.out.trans (hb1.mono (by simp));have B1:=(show Hid _ from below_blk hb1 (blk_new _ _));clear hb1
   go_wp2_with fail
   go_meet
   exact⟨rfl,HB1,B1⟩
 obtain⟨rfl,HB1,B1⟩:=hcut;generalize wc=w1 at *;have l1:=loadWhat_blk B1.out rfl
 go_wp2_with fail
 refine Calls.mono (Hnames.out _ HB1.out) ?_;rintro e w2 ⟨rfl,hb2⟩;have HB2:Hid (Bl w w2):=HB1.out.trans (hb2.mono HB1.out.size);have B2:=(show Hid _ from below_blk hb2 B1.out);clear hb2 l1;have c0:w2.cell? ⟨w.heap.size,0,none⟩=some (.int .u8 k):=by rw [cell_blk B2.out];rfl
 have c10:w2.cell? ⟨w.heap.size,10,none⟩=some (.int .i64 tg):=by rw [cell_blk B2.out];rfl
 have c11:w2.cell? ⟨w.heap.size,11,none⟩=some (.int .i64 bi):=by rw [cell_blk B2.out];rfl
 go_wp2_with fail
 refine(asksOf_W k _).mono ?_;rw [HA.out];rintro e _ ⟨rfl,rfl⟩
 go_wp2_with fail
 refine(Is_W (HW.out.below HB2.out) tgw).mono ?_;rw [Hso.out];rintro e _ ⟨rfl,rfl⟩
 go_wp2_with fail
 refine(asksBy_W k _).mono ?_;rw [show (k==15 || k==16)=true from HBy.out];rintro e _ ⟨rfl,rfl⟩
 go_wp2_with fail
 refine(Is_W (HW.out.below HB2.out) biw).mono ?_;rw [Hno.out];rintro e _ ⟨rfl,rfl⟩
 go_wp2_with fail
 go_ret2
 exact⟨rfl,HB2.out⟩
theorem Make_fits (hW:IsW w p M F) {k h n l tg bi s:Int} {fu:Bool} {c2 c3 c4 c5 c6 c7 c14 c15:Value} (k14:(k==14)=false) (h13:k=13->tg=0) (hform:∀ w1,Bl w w1->Calls Tryz.prog 74 #[.pointer (some ⟨p,0,none⟩),.agg #[.int .u8 k,.int .i64 h,c2,c3,c4,c5,c6,c7,.int .i64 n,.int .i64 l,.int .i64 tg,.int .i64 bi,.int .u8 s,.bool fu,c14,c15]] w1 fun e w'=>e=.returned (.bool true)/\Bl w1 w') (hnames:∀ w1,Bl w w1->Calls Tryz.prog 75 #[.pointer (some ⟨p,0,none⟩),.agg #[.int .u8 k,.int .i64 h,c2,c3,c4,c5,c6,c7,.int .i64 n,.int .i64 l,.int .i64 tg,.int .i64 bi,.int .u8 s,.bool fu,c14,c15]] w1 fun e w'=>e=.returned (.bool true)/\Bl w1 w') (hfits:∀ w1,Bl w w1->Calls Tryz.prog 78 #[.pointer (some ⟨p,0,none⟩),.int .i64 0,.agg #[.int .u8 k,.int .i64 h,c2,c3,c4,c5,c6,c7,.int .i64 n,.int .i64 l,.int .i64 tg,.int .i64 bi,.int .u8 s,.bool fu,c14,c15]] w1 fun e w'=>e=.returned (.bool false)/\Bl w1 w') (tgw:(Lit.int .i64 tg).wf=true) (biw:(Lit.int .i64 bi).wf=true) (hA:asksOfB k=true->(M.at tg).isSome=true) (hB:asksByB k=true->(M.at bi).isSome=true) :
 Calls Tryz.prog 14 #[.pointer (some ⟨p,0,none⟩),.agg #[.int .u8 k,.int .i64 h,c2,c3,c4,c5,c6,c7,.int .i64 n,.int .i64 l,.int .i64 tg,.int .i64 bi,.int .u8 s,.bool fu,c14,c15]] w fun e w'=>e=.returned (.tuple #[.int .i64 0,.int .i64 70])/\Bl w w':=by
 have HW:Hid (IsW w p M F):=hW;have hb0:Bl w (w.alloc (.cells #[.int .u8 k,.int .i64 h,c2,c3,c4,c5,c6,c7,.int .i64 n,.int .i64 l,.int .i64 tg,.int .i64 bi,.int .u8 s,.bool fu,c14,c15] 46)):=(Below.refl _ _).alloc (Nat.le_refl _) _;have HB0:=(show Hid _ from hb0);have H13:Hid (k=13->tg=0):=h13;have Hform:=(show Hid _ from hform);have Hnames:=(show Hid _ from hnames);have Hfits:=(show Hid _ from hfits);have HAo:Hid (asksOfB k=true->(M.at tg).isSome=true):=hA;have HBo:Hid (asksByB k=true->(M.at bi).isSome=true):=hB;clear hW hb0 h13 hform hnames hfits hA hB
 go_enter Tryz.func14,Tryz.ntmps14
 go_wp2_with fail
 refine(none_W (HW.out.below HB0.out)).mono ?_;rintro e _ ⟨rfl,rfl⟩
 go_upto_region 3 with fail
 go_cut [27] (fun v wx=>v=.bool false/\Hid (Bl w wx)/\Hid (wx.heap[w.heap.size]? = some (.cells #[.int .u8 k,.int .i64 h,c2,c3,c4,c5,c6,c7,.int .i64 n,.int .i64 l,.int .i64 tg,.int .i64 bi,.int .u8 s,.bool fu,c14,c15] 46 (0,0))))
 case first =>
  by_cases h13:k=13
  ·have h0:=H13.out h13;subst h13 h0
   go_wp2_with fail
   refine Calls.mono (Hform.out _ HB0.out) ?_;rintro e w1 ⟨rfl,hb1⟩;have HB1:Hid (Bl w w1):=HB0.out.trans (hb1.mono (by simp));have B1:=(show Hid _ from below_blk hb1 (blk_new _ _));clear hb1
   go_wp2_with fail
   go_meet
   exact⟨rfl,HB1,B1⟩
  ·have k13:(k==13)=false:=by simpa using h13
   clear h13
   go_wp2_with fail
   refine Calls.mono (Hform.out _ HB0.out) ?_;rintro e w1 ⟨rfl,hb1⟩;have HB1:Hid (Bl w w1):=HB0.out.trans (hb1.mono (by simp));have B1:=(show Hid _ from below_blk hb1 (blk_new _ _));clear hb1
   go_wp2_with fail
   go_meet
   exact⟨rfl,HB1,B1⟩
 obtain⟨rfl,HB1,B1⟩:=hcut;generalize wc=w1 at *
 go_upto_region 5 with fail
 go_cut [55] (fun v wx=>v=.bool false/\Hid (Bl w wx)/\Hid (wx.heap[w.heap.size]? = some (.cells #[.int .u8 k,.int .i64 h,c2,c3,c4,c5,c6,c7,.int .i64 n,.int .i64 l,.int .i64 tg,.int .i64 bi,.int .u8 s,.bool fu,c14,c15] 46 (0,0))))
 case first =>
  have l1:=loadWhat_blk B1.out rfl
  go_wp2_with fail
  refine Calls.mono (Hnames.out _ HB1.out) ?_;rintro e w2 ⟨rfl,hb2⟩;have HB2:Hid (Bl w w2):=HB1.out.trans (hb2.mono HB1.out.size);have B2:=(show Hid _ from below_blk hb2 B1.out);clear hb2 l1;have c0:w2.cell? ⟨w.heap.size,0,none⟩=some (.int .u8 k):=by rw [cell_blk B2.out];rfl
  have c10:w2.cell? ⟨w.heap.size,10,none⟩=some (.int .i64 tg):=by rw [cell_blk B2.out];rfl
  have c11:w2.cell? ⟨w.heap.size,11,none⟩=some (.int .i64 bi):=by rw [cell_blk B2.out];rfl
  go_wp2_with fail
  refine(asksOf_W k _).mono ?_;have hA:=HAo.out;generalize asksOfB k=A at hA;have HA:=(show Hid (A=true->(M.at tg).isSome=true)from hA);clear hA;rintro e _ ⟨rfl,rfl⟩
  cases A
  ·go_wp2_with fail
   refine(asksBy_W k _).mono ?_;have hB:=HBo.out;unfold asksByB at hB;generalize (k==15 || k==16)=B at hB;have HB:=(show Hid (B=true->(M.at bi).isSome=true)from hB);clear hB;rintro e _ ⟨rfl,rfl⟩
   cases B
   ·go_wp2_with fail
    go_meet
    exact⟨rfl,HB2,B2⟩
   ·go_wp2_with fail
    refine(Is_W (HW.out.below HB2.out) biw).mono ?_;rw [HB.out (by simp)];rintro e _ ⟨rfl,rfl⟩
    go_wp2_with fail
    go_meet
    exact⟨rfl,HB2,B2⟩
  ·go_wp2_with fail
   refine(Is_W (HW.out.below HB2.out) tgw).mono ?_;rw [HA.out (by simp)];rintro e _ ⟨rfl,rfl⟩
   go_wp2_with fail
   refine(asksBy_W k _).mono ?_;have hB:=HBo.out;unfold asksByB at hB;generalize (k==15 || k==16)=B at hB;have HB:=(show Hid (B=true->(M.at bi).isSome=true)from hB);clear hB;rintro e _ ⟨rfl,rfl⟩
   cases B
   ·go_wp2_with fail
    go_meet
    exact⟨rfl,HB2,B2⟩
   ·go_wp2_with fail
    refine(Is_W (HW.out.below HB2.out) biw).mono ?_;rw [HB.out (by simp)];rintro e _ ⟨rfl,rfl⟩
    go_wp2_with fail
    go_meet
    exact⟨rfl,HB2,B2⟩
 obtain⟨rfl,HB2,B2⟩:=hcut;clear HB1 B1;generalize wc=w2 at *;have l2:=loadWhat_blk B2.out rfl
 go_wp2_with fail
 refine Calls.mono (Hfits.out _ HB2.out) ?_;rintro e w3 ⟨rfl,hb3⟩;have HB3:Hid (Bl w w3):=HB2.out.trans (hb3.mono HB2.out.size);clear hb3 l2 B2 HB2
 go_wp2_with fail
 go_ret2
 exact⟨rfl,HB3.out⟩
theorem Lay_no (hW:IsW w p M F) {r k h vk vn n l tg bi s vk' vn' n' l':Int} {fu':Bool} (hr:(Lit.int .i64 r).wf=true) (ht:M.at r=some (lt k h vk vn n l tg bi s false))
 (hform:∀ w,IsW w p M F->Calls Tryz.prog 74 #[.pointer (some ⟨p,0,none⟩),.agg (wr k h vk' vn' n' l' tg bi s fu')] w fun e w'=>e=.returned (.bool false)/\Bl w w') :
 Calls Tryz.prog 107 #[.pointer (some ⟨p,0,none⟩),.int .i64 r,.agg (wr k h vk' vn' n' l' tg bi s fu')] w fun e w'=>e=.returned (.int .i64 70)/\Bl w w':=by
 have hB0:Bl w (w.alloc (.cells (wr k h vk' vn' n' l' tg bi s fu') 46)):=(Below.refl _ _).alloc (Nat.le_refl _) _;have b0:=blk_new w (.cells (wr k h vk' vn' n' l' tg bi s fu') 46);obtain⟨wa,hwa⟩:∃ wa,wa=w.alloc (.cells (wr k h vk' vn' n' l' tg bi s fu') 46):=⟨_,rfl⟩;have HB0:Hid (Bl w wa):=by rw [hwa];exact hB0
 have Hb0:Hid (wa.heap[w.heap.size]? = some (.cells (wr k h vk' vn' n' l' tg bi s fu') 46 (0,0))):=by rw [hwa];exact b0
 have Hwa:=(show Hid _ from hwa);have HW:Hid (IsW w p M F):=hW;have Hf:=(show Hid _ from hform);have Ht:Hid (M.at r=some (lt k h vk vn n l tg bi s false)):=ht;obtain⟨pa,pc,cg,cc,mg,mc,tb,fb,fn,bl,hV⟩:=hW;have HV:=(show Hid _ from hV)
 have ds:Hid (∀ w',Bl wa w'->w'.cell? ⟨w.heap.size,0,none⟩=some (.int .u8 k)/\w'.cell? ⟨w.heap.size,1,none⟩=some (.int .i64 h)/\w'.cell? ⟨w.heap.size,10,none⟩=some (.int .i64 tg)/\w'.cell? ⟨w.heap.size,11,none⟩=some (.int .i64 bi)/\w'.cell? ⟨w.heap.size,12,none⟩=some (.int .u8 s) /\
  w'.cell? ⟨bl r,0,none⟩=some (.int .u8 k)/\w'.cell? ⟨bl r,1,none⟩=some (.int .i64 h)/\w'.cell? ⟨bl r,10,none⟩=some (.int .i64 tg)/\w'.cell? ⟨bl r,11,none⟩=some (.int .i64 bi)/\w'.cell? ⟨bl r,12,none⟩=some (.int .u8 s)/\w'.cell? ⟨bl r,13,none⟩=some (.bool false) /\
  (ldW (.pointer (some ⟨w.heap.size,0,none⟩))).run Tryz.prog w'=.ok (.value (.agg (wr k h vk' vn' n' l' tg bi s fu'))) w'/\IsW w' p M F):=fun w' hb=>by
  have hbl:=(HV.out.below (HB0.out.trans (hb.mono HB0.out.size))).blk r _ Ht.out;obtain⟨q0,q1,-,-,q10,q11,q12,q13⟩:=thc_cell hbl.1;have hg:=below_blk hb Hb0.out;exact⟨by rw [cell_blk hg];rfl,by rw [cell_blk hg];rfl,by rw [cell_blk hg];rfl,by rw [cell_blk hg];rfl,by rw [cell_blk hg];rfl,q0,q1,q10,q11,q12,q13,loadWhat_blk hg rfl,HW.out.below (HB0.out.trans (hb.mono HB0.out.size))⟩
 clear hV hB0 b0 hform ht hwa
 go_enter Tryz.func107,Tryz.ntmps107
 go_wp2_with fail
 rw [<- Hwa.out];have hWa:=HW.out.below HB0.out;refine(none_W hWa).mono ?_;rintro e _ ⟨rfl,rfl⟩
 go_wp2_with fail
 refine(Is_W hWa hr).mono ?_;rw [Ht.out];rintro e _ ⟨rfl,rfl⟩;have c2:=(HV.out.below HB0.out).c2;have hlk:=(HV.out.below HB0.out).look hr;rw [Ht.out]at hlk;simp only [Option.map_some]at hlk;clear hWa
 go_wp2_with fail
 refine region_class (C:=fun w'=>Bl wa w') (by kernel_rfl) (by kernel_rfl) below_drew ?_
 repeat (first
  | go_big_quiet_step (fail)
  | quiet_step (fail)
  | (refine wpQuiet_step (fun K hK=>?_);go_simp;first
   | (refine hK _ ?_;clear hK K)
   | (apply Exists.intro
      refine⟨fun w' hC=>?_,hK _ ?_⟩
      ·obtain⟨q1,q2,q3,q4,q5,q6,q7,q8,q9,q10,q11,q12,q13⟩:=ds.out w' hC
       first
        | exact rfl
        | (go_simp;exact rfl)
        | (go_simp;exact⟨rfl,rfl⟩)
        | exact(Hf.out w' q13).mono fun e w'' ⟨he,hb⟩=>⟨he,hC.trans (hb.mono hC.size)⟩
      clear hK K)))
 refine wpQuiet_nil ?_;intro w5 hC5;have HB5:=(show Hid (Bl wa w5)from hC5);have HF:Hid (Bl w w5):=HB0.out.trans (HB5.out.mono HB0.out.size);clear hC5 c2 hlk
 go_wp2_with fail
 go_ret
 exact⟨rfl,HF.out⟩
end
section
variable {w:World} {p:Nat} {M:WM} {F:Nat->Prop}
theorem bare_big (w:World) (k:Int) (hk:16<k) (h:Int):Calls Tryz.prog 159 #[.agg (wr k h 0 0 0 0 0 0 0 false)] w fun e w'=>e=.returned (.agg (wr k h 0 0 0 0 0 0 0 false))/\Below w.heap.size w w':=by
 have b0:(k==0)=false:=by simpa using (show ¬ k=0 by omega)
 have b1:(k==1)=false:=by simpa using (show ¬ k=1 by omega)
 have b2:(k==2)=false:=by simpa using (show ¬ k=2 by omega)
 have b3:(k==3)=false:=by simpa using (show ¬ k=3 by omega)
 have b4:(k==4)=false:=by simpa using (show ¬ k=4 by omega)
 have b5:(k==5)=false:=by simpa using (show ¬ k=5 by omega)
 have b6:(k==6)=false:=by simpa using (show ¬ k=6 by omega)
 have b7:(k==7)=false:=by simpa using (show ¬ k=7 by omega)
 have b8:(k==8)=false:=by simpa using (show ¬ k=8 by omega)
 have b9:(k==9)=false:=by simpa using (show ¬ k=9 by omega)
 have b10:(k==10)=false:=by simpa using (show ¬ k=10 by omega)
 have b11:(k==11)=false:=by simpa using (show ¬ k=11 by omega)
 have b12:(k==12)=false:=by simpa using (show ¬ k=12 by omega)
 have b13:(k==13)=false:=by simpa using (show ¬ k=13 by omega)
 have b14:(k==14)=false:=by simpa using (show ¬ k=14 by omega)
 have b15:(k==15)=false:=by simpa using (show ¬ k=15 by omega)
 have b16:(k==16)=false:=by simpa using (show ¬ k=16 by omega)
 clear hk
 go_enter Tryz.func159,Tryz.ntmps159
 go_wp2
 refine bodyPost_ret (results_What rfl _ _ _ _ _ rfl (blk_at1 _ _ _ _ rfl) rfl) rfl ⟨rfl,by go_grown⟩
theorem formno_0 (h:Int):Calls Tryz.prog 74 #[.pointer (some ⟨p,0,none⟩),.agg (wr 0 h 0 0 0 0 0 0 0 false)] w fun e w'=>e=.returned (.bool false)/\Below w.heap.size w w':=by
 go_enter Tryz.func74,Tryz.ntmps74
 go_wp2_with fail
 refine(bare_0 _ h 0 0 0 0 0 0 0 0 ⟨#[]⟩ false none none none none 0 0 0 0 0 0 0 0).mono ?_;rintro e w1 ⟨rfl,hb1⟩;have B1:=below_blk hb1 (blk_new _ _);have aa:=cells16 B1;have hz1:w.heap.size<w1.heap.size:=by have:=hb1.size;simp at this;omega
 have HB1:Hid (Below w.heap.size w w1):=((Below.refl _ _).alloc (Nat.le_refl _) _).trans (hb1.mono (by simp;try omega));clear hb1
 go_wp2_with fail
 have hB:=HB1.out;have hZ:w.heap.size≤w1.heap.size:=by omega
 go_ret
 exact⟨rfl,by go_grown⟩
theorem formno_big (k h:Int) (hk:16<k):Calls Tryz.prog 74 #[.pointer (some ⟨p,0,none⟩),.agg (wr k h 0 0 0 0 0 0 0 false)] w fun e w'=>e=.returned (.bool false)/\Below w.heap.size w w':=by
 have b0:(k==0)=false:=by simpa using (show ¬ k=0 by omega)
 have HK:=(show Hid (16<k)from hk);clear hk
 go_enter Tryz.func74,Tryz.ntmps74
 go_wp2_with fail
 refine(bare_big _ k HK.out h).mono ?_;rintro e w1 ⟨rfl,hb1⟩;have B1:=below_blk hb1 (blk_new _ _);have aa:=cells16 B1;have hz1:w.heap.size<w1.heap.size:=by have:=hb1.size;simp at this;omega
 have HB1:Hid (Below w.heap.size w w1):=((Below.refl _ _).alloc (Nat.le_refl _) _).trans (hb1.mono (by simp;try omega));clear hb1;have hk:k > 16:=HK.out
 go_wp2_with fail
 have hB:=HB1.out;have hZ:w.heap.size≤w1.heap.size:=by omega
 go_ret
 exact⟨rfl,by go_grown⟩
theorem formno_13ne (h n tg:Int) (fu:Bool) (hn:n≠0):Calls Tryz.prog 74 #[.pointer (some ⟨p,0,none⟩),.agg (wr 13 h 0 0 n 0 tg 0 0 fu)] w fun e w'=>e=.returned (.bool false)/\Below w.heap.size w w':=by
 have hn1:(n != 0)=true:=by simpa using hn
 clear hn
 go_enter Tryz.func74,Tryz.ntmps74
 go_wp2_with fail
 refine(bare_13 _ h 0 0 n 0 tg 0 0 0 ⟨#[]⟩ fu none none none none 0 0 0 0 0 0 0 0).mono ?_;rintro e w1 ⟨rfl,hb1⟩;have B1:=below_blk hb1 (blk_new _ _);have aa:=cells16 B1;have hz1:w.heap.size<w1.heap.size:=by have:=hb1.size;simp at this;omega
 have HB1:Hid (Below w.heap.size w w1):=((Below.refl _ _).alloc (Nat.le_refl _) _).trans (hb1.mono (by simp;try omega));clear hb1
 go_wp2_with fail
 have hB:=HB1.out;have hZ:w.heap.size≤w1.heap.size:=by omega
 go_ret
 exact⟨rfl,by go_grown⟩
theorem formno_14ne (n tg s:Int) (hn:n≠0):Calls Tryz.prog 74 #[.pointer (some ⟨p,0,none⟩),.agg (wr 14 0 0 0 n 0 tg 0 s false)] w fun e w'=>e=.returned (.bool false)/\Below w.heap.size w w':=by
 have hn1:(n != 0)=true:=by simpa using hn
 clear hn
 go_enter Tryz.func74,Tryz.ntmps74
 go_wp2_with fail
 refine(bare_14 _ 0 0 0 n 0 tg 0 0 s ⟨#[]⟩ false none none none none 0 0 0 0 0 0 0 0).mono ?_;rintro e w1 ⟨rfl,hb1⟩;have B1:=below_blk hb1 (blk_new _ _);have aa:=cells16 B1;have hz1:w.heap.size<w1.heap.size:=by have:=hb1.size;simp at this;omega
 have HB1:Hid (Below w.heap.size w w1):=((Below.refl _ _).alloc (Nat.le_refl _) _).trans (hb1.mono (by simp;try omega));clear hb1
 go_wp2_with fail
 have hB:=HB1.out;have hZ:w.heap.size≤w1.heap.size:=by omega
 go_ret
 exact⟨rfl,by go_grown⟩
theorem formno_15ne (h n tg bi:Int) (hn:n≠0):Calls Tryz.prog 74 #[.pointer (some ⟨p,0,none⟩),.agg (wr 15 h 0 0 n 0 tg bi 0 false)] w fun e w'=>e=.returned (.bool false)/\Below w.heap.size w w':=by
 have hn1:(n != 0)=true:=by simpa using hn
 clear hn
 go_enter Tryz.func74,Tryz.ntmps74
 go_wp2_with fail
 refine(bare_15 _ h 0 0 n 0 tg bi 0 0 ⟨#[]⟩ false none none none none 0 0 0 0 0 0 0 0).mono ?_;rintro e w1 ⟨rfl,hb1⟩;have B1:=below_blk hb1 (blk_new _ _);have aa:=cells16 B1;have hz1:w.heap.size<w1.heap.size:=by have:=hb1.size;simp at this;omega
 have HB1:Hid (Below w.heap.size w w1):=((Below.refl _ _).alloc (Nat.le_refl _) _).trans (hb1.mono (by simp;try omega));clear hb1
 go_wp2_with fail
 have hB:=HB1.out;have hZ:w.heap.size≤w1.heap.size:=by omega
 go_ret
 exact⟨rfl,by go_grown⟩
theorem formno_16ne (h n tg bi:Int) (hn:n≠0):Calls Tryz.prog 74 #[.pointer (some ⟨p,0,none⟩),.agg (wr 16 h 0 0 n 0 tg bi 0 false)] w fun e w'=>e=.returned (.bool false)/\Below w.heap.size w w':=by
 have hn1:(n != 0)=true:=by simpa using hn
 clear hn
 go_enter Tryz.func74,Tryz.ntmps74
 go_wp2_with fail
 refine(bare_16 _ h 0 0 n 0 tg bi 0 0 ⟨#[]⟩ false none none none none 0 0 0 0 0 0 0 0).mono ?_;rintro e w1 ⟨rfl,hb1⟩;have B1:=below_blk hb1 (blk_new _ _);have aa:=cells16 B1;have hz1:w.heap.size<w1.heap.size:=by have:=hb1.size;simp at this;omega
 have HB1:Hid (Below w.heap.size w w1):=((Below.refl _ _).alloc (Nat.le_refl _) _).trans (hb1.mono (by simp;try omega));clear hb1
 go_wp2_with fail
 have hB:=HB1.out;have hZ:w.heap.size≤w1.heap.size:=by omega
 go_ret
 exact⟨rfl,by go_grown⟩
theorem bare_n (w:World) (k h n:Int) (hk:k=1\/k=2\/k=4\/k=5\/k=10\/k=12\/k=13):Calls Tryz.prog 159 #[.agg (wr k h 0 0 n 0 0 0 0 false)] w fun e w'=>e=.returned (.agg (wr k h 0 0 0 0 0 0 0 false))/\Bl w w':=by
 rcases hk with rfl | rfl | rfl | rfl | rfl | rfl | rfl
 ·exact bare_1 _ h 0 0 n 0 0 0 0 0 ⟨#[]⟩ false none none none none 0 0 0 0 0 0 0 0
 ·exact bare_2 _ h 0 0 n 0 0 0 0 0 ⟨#[]⟩ false none none none none 0 0 0 0 0 0 0 0
 ·exact bare_4 _ h 0 0 n 0 0 0 0 0 ⟨#[]⟩ false none none none none 0 0 0 0 0 0 0 0
 ·exact bare_5 _ h 0 0 n 0 0 0 0 0 ⟨#[]⟩ false none none none none 0 0 0 0 0 0 0 0
 ·exact bare_10 _ h 0 0 n 0 0 0 0 0 ⟨#[]⟩ false none none none none 0 0 0 0 0 0 0 0
 ·exact bare_12 _ h 0 0 n 0 0 0 0 0 ⟨#[]⟩ false none none none none 0 0 0 0 0 0 0 0
 ·exact bare_13 _ h 0 0 n 0 0 0 0 0 ⟨#[]⟩ false none none none none 0 0 0 0 0 0 0 0
theorem form_ne (k h n:Int) (hn:n≠0) (hk:k=1\/k=2\/k=4\/k=5\/k=10\/k=12\/k=13):Calls Tryz.prog 74 #[.pointer (some ⟨p,0,none⟩),.agg (wr k h 0 0 n 0 0 0 0 false)] w fun e w'=>e=.returned (.bool false)/\Below w.heap.size w w':=by
 have hn1:(n != 0)=true:=by simpa using hn
 have HK:Hid (k=1\/k=2\/k=4\/k=5\/k=10\/k=12\/k=13):=hk;have b0:(k==0)=false:=by simpa using (show ¬ k=0 by omega)
 have b16:¬ k > 16:=by omega
 clear hn hk
 go_enter Tryz.func74,Tryz.ntmps74
 go_wp2_with fail
 refine(bare_n _ k h n HK.out).mono ?_;rintro e w1 ⟨rfl,hb1⟩;have B1:=below_blk hb1 (blk_new _ _);have aa:=cells16 B1;have hz1:w.heap.size<w1.heap.size:=by have:=hb1.size;simp at this;omega
 have HB1:Hid (Below w.heap.size w w1):=((Below.refl _ _).alloc (Nat.le_refl _) _).trans (hb1.mono (by simp;try omega));clear hb1
 go_wp2_with fail
 have hB:=HB1.out;have hZ:w.heap.size≤w1.heap.size:=by omega
 go_ret
 exact⟨rfl,by go_grown⟩
end
section
variable {w:World} {p:Nat} {M:WM} {F:Nat->Prop}
theorem bare_zero (w:World) (k h:Int) (hk:k=1\/k=2\/k=3\/k=4\/k=5\/k=6\/k=7\/k=8\/k=9\/k=10\/k=11\/k=12\/k=13\/k=15\/k=16):Calls Tryz.prog 159 #[.agg (wr k h 0 0 0 0 0 0 0 false)] w fun e w'=>e=.returned (.agg (wr k h 0 0 0 0 0 0 0 false))/\Bl w w':=by
 rcases hk with rfl | rfl | rfl | rfl | rfl | rfl | rfl | rfl | rfl | rfl | rfl | rfl | rfl | rfl | rfl
 ·exact bare_1 _ h 0 0 0 0 0 0 0 0 ⟨#[]⟩ false none none none none 0 0 0 0 0 0 0 0
 ·exact bare_2 _ h 0 0 0 0 0 0 0 0 ⟨#[]⟩ false none none none none 0 0 0 0 0 0 0 0
 ·exact bare_3 _ h 0 0 0 0 0 0 0 0 ⟨#[]⟩ false none none none none 0 0 0 0 0 0 0 0
 ·exact bare_4 _ h 0 0 0 0 0 0 0 0 ⟨#[]⟩ false none none none none 0 0 0 0 0 0 0 0
 ·exact bare_5 _ h 0 0 0 0 0 0 0 0 ⟨#[]⟩ false none none none none 0 0 0 0 0 0 0 0
 ·exact bare_6 _ h 0 0 0 0 0 0 0 0 ⟨#[]⟩ false none none none none 0 0 0 0 0 0 0 0
 ·exact bare_7 _ h 0 0 0 0 0 0 0 0 ⟨#[]⟩ false none none none none 0 0 0 0 0 0 0 0
 ·exact bare_8 _ h 0 0 0 0 0 0 0 0 ⟨#[]⟩ false none none none none 0 0 0 0 0 0 0 0
 ·exact bare_9 _ h 0 0 0 0 0 0 0 0 ⟨#[]⟩ false none none none none 0 0 0 0 0 0 0 0
 ·exact bare_10 _ h 0 0 0 0 0 0 0 0 ⟨#[]⟩ false none none none none 0 0 0 0 0 0 0 0
 ·exact bare_11 _ h 0 0 0 0 0 0 0 0 ⟨#[]⟩ false none none none none 0 0 0 0 0 0 0 0
 ·exact bare_12 _ h 0 0 0 0 0 0 0 0 ⟨#[]⟩ false none none none none 0 0 0 0 0 0 0 0
 ·exact bare_13 _ h 0 0 0 0 0 0 0 0 ⟨#[]⟩ false none none none none 0 0 0 0 0 0 0 0
 ·exact bare_15 _ h 0 0 0 0 0 0 0 0 ⟨#[]⟩ false none none none none 0 0 0 0 0 0 0 0
 ·exact bare_16 _ h 0 0 0 0 0 0 0 0 ⟨#[]⟩ false none none none none 0 0 0 0 0 0 0 0
theorem form_nohome (hW:IsW w p M F) (k h:Int) (hs:sideB M h=false) (hk:k=1\/k=2\/k=3\/k=4\/k=5\/k=6\/k=7\/k=8\/k=9\/k=10\/k=11\/k=12\/k=13\/k=15\/k=16):Calls Tryz.prog 74 #[.pointer (some ⟨p,0,none⟩),.agg (wr k h 0 0 0 0 0 0 0 false)] w fun e w'=>e=.returned (.bool false)/\Below w.heap.size w w':=by
 have HK:Hid (k=1\/k=2\/k=3\/k=4\/k=5\/k=6\/k=7\/k=8\/k=9\/k=10\/k=11\/k=12\/k=13\/k=15\/k=16):=hk;have b0:(k==0)=false:=by simpa using (show ¬ k=0 by omega)
 have b16:¬ k > 16:=by omega
 have b14:(k != 14)=true:=by simpa using (show ¬ k=14 by omega)
 clear hk
 go_enter Tryz.func74,Tryz.ntmps74
 go_wp2_with fail
 refine(bare_zero _ k h HK.out).mono ?_;rintro e w1 ⟨rfl,hb1⟩;have B1:=below_blk hb1 (blk_new _ _);have aa:=cells16 B1;have hz1:w.heap.size<w1.heap.size:=by have:=hb1.size;simp at this;omega
 have HB1:Hid (Below w.heap.size w w1):=((Below.refl _ _).alloc (Nat.le_refl _) _).trans (hb1.mono (by simp;try omega));clear hb1
 go_wp2_with fail
 refine(blank0_W _).mono ?_;rintro e w2 ⟨rfl,hb2⟩;have B2:=below_blk hb2 (blk_old _ _ B1);clear aa;have aa:=cells16 B2;have hz2:w.heap.size<w2.heap.size:=by have:=hb2.size;simp at this;omega
 have HB2:Hid (Below w.heap.size w w2):=(HB1.out.alloc (by first | omega | (simp;try omega)) _).trans (hb2.mono (by first | omega | (simp;try omega)));clear hb2 B1 HB1 hz1
 go_wp2_with fail
 refine(blank0_W _).mono ?_;rintro e w3 ⟨rfl,hb3⟩;have B3:=below_blk hb3 B2;clear aa;have aa:=cells16 B3;have hz3:w.heap.size<w3.heap.size:=by have:=hb3.size;omega
 have HB3:Hid (Below w.heap.size w w3):=HB2.out.trans (hb3.mono (by first | omega | (simp;try omega)));clear hb3 B2 HB2 hz2
 go_wp2_with fail
 refine(side_W (hW.below HB3.out) h).mono ?_;rw [hs];rintro e _ ⟨rfl,rfl⟩
 go_wp2_with fail
 have hB:=HB3.out;have hZ:w.heap.size≤w3.heap.size:=by omega
 go_ret
 exact⟨rfl,by go_grown⟩
theorem form_plain0 (hW:IsW w p M F) (k h:Int) (hs:sideB M h=true) (hk:k=1\/k=2\/k=4\/k=5\/k=6\/k=7\/k=11\/k=13\/k=15\/k=16):Calls Tryz.prog 74 #[.pointer (some ⟨p,0,none⟩),.agg (wr k h 0 0 0 0 0 0 0 false)] w fun e w'=>e=.returned (.bool true)/\Below w.heap.size w w':=by
 have hV:∀ w:World,Calls Tryz.prog 161 #[.agg #[.int .u8 0,.int .i64 0,.string ⟨#[]⟩,.slice none 0 0,.int .i64 0]] w fun e w'=>e=.returned (.bool true)/\Below w.heap.size w w':=fun w=>vMay_W w 0 0 (.inl ⟨rfl,rfl⟩);have HK:Hid (k=1\/k=2\/k=3\/k=4\/k=5\/k=6\/k=7\/k=8\/k=9\/k=10\/k=11\/k=12\/k=13\/k=15\/k=16):=by show k=1\/k=2\/k=3\/k=4\/k=5\/k=6\/k=7\/k=8\/k=9\/k=10\/k=11\/k=12\/k=13\/k=15\/k=16;omega
 have b0:(k==0)=false:=by simpa using (show ¬ k=0 by omega)
 have b3:(k==3)=false:=by simpa using (show ¬ k=3 by omega)
 have b8:(k==8)=false:=by simpa using (show ¬ k=8 by omega)
 have b9:(k==9)=false:=by simpa using (show ¬ k=9 by omega)
 have b10:(k==10)=false:=by simpa using (show ¬ k=10 by omega)
 have b12:(k==12)=false:=by simpa using (show ¬ k=12 by omega)
 have b14:(k==14)=false:=by simpa using (show ¬ k=14 by omega)
 have b16:¬ k > 16:=by omega
 have c14:(k != 14)=true:=by simpa using (show ¬ k=14 by omega)
 clear hk
 go_enter Tryz.func74,Tryz.ntmps74
 go_wp2_with fail
 refine(bare_zero _ k h HK.out).mono ?_;rintro e w1 ⟨rfl,hb1⟩;have B1:=below_blk hb1 (blk_new _ _);have aa:=cells16 B1;have hz1:w.heap.size<w1.heap.size:=by have:=hb1.size;simp at this;omega
 have HB1:Hid (Below w.heap.size w w1):=((Below.refl _ _).alloc (Nat.le_refl _) _).trans (hb1.mono (by simp;try omega));clear hb1
 go_wp2_with fail
 refine(blank0_W _).mono ?_;rintro e w2 ⟨rfl,hb2⟩;have B2:=below_blk hb2 (blk_old _ _ B1);clear aa;have aa:=cells16 B2;have hz2:w.heap.size<w2.heap.size:=by have:=hb2.size;simp at this;omega
 have HB2:Hid (Below w.heap.size w w2):=(HB1.out.alloc (by first | omega | (simp;try omega)) _).trans (hb2.mono (by first | omega | (simp;try omega)));clear hb2 B1 HB1 hz1
 go_wp2_with fail
 refine(blank0_W _).mono ?_;rintro e w3 ⟨rfl,hb3⟩;have B3:=below_blk hb3 B2;clear aa;have aa:=cells16 B3;have hz3:w.heap.size<w3.heap.size:=by have:=hb3.size;omega
 have HB3:Hid (Below w.heap.size w w3):=HB2.out.trans (hb3.mono (by first | omega | (simp;try omega)));clear hb3 B2 HB2 hz2
 go_wp2_with fail
 refine(side_W (hW.below HB3.out) h).mono ?_;rw [hs];rintro e _ ⟨rfl,rfl⟩
 go_wp2_with fail
 refine(hV _).mono ?_;rintro e w4 ⟨rfl,hb4⟩;have B4:=below_blk hb4 B3;clear aa;have aa:=cells16 B4;have hz4:w.heap.size<w4.heap.size:=by have:=hb4.size;omega
 have HB4:Hid (Below w.heap.size w w4):=HB3.out.trans (hb4.mono (by first | omega | (simp;try omega)));clear hb4 B3 HB3 hz3
 go_wp2_with fail
 refine(vOf_W _).mono ?_;rintro e w5 ⟨rfl,hb5⟩;have B5:=below_blk hb5 B4;clear aa;have aa:=cells16 B5;have hz5:w.heap.size<w5.heap.size:=by have:=hb5.size;omega
 have HB5:Hid (Below w.heap.size w w5):=HB4.out.trans (hb5.mono (by first | omega | (simp;try omega)));clear hb5 B4 HB4 hz4
 go_wp2_with fail
 go_rounds 1
 have hB:=HB5.out;have hZ:w.heap.size≤w5.heap.size:=by omega
 go_ret
 exact⟨rfl,by go_grown⟩
end
end Go.Proofs.YthaliljaglldjaaGreat
