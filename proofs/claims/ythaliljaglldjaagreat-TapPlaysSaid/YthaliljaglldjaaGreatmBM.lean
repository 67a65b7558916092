/- Part of the proof. -/
import Derived.Test.YthaliljaglldjaaGreatmBL
namespace Go.Proofs.YthaliljaglldjaaGreat
set_option maxHeartbeats 16000000
set_option maxRecDepth 20000
open Go.RowKit Go.ChangeMaps Go.MapKept
section
variable {w:World} {p q:Nat} {M:WM} {F G:Nat->Prop}
theorem nilv_wf:Val.wf ⟨0,0,⟨#[]⟩,[],0⟩:=nil_wf
theorem nilv_may:mayV ⟨0,0,⟨#[]⟩,[],0⟩=true:=by rfl
theorem form7_zero (w:World) (sides k h:Int) (hh:0≤h/\h<sides) (hk:k=1\/k=2\/k=3\/k=4\/k=5\/k=6\/k=7\/k=8\/k=9\/k=10\/k=11\/k=12\/k=13\/k=15\/k=16):Calls Tryz.prog 81 #[.agg (wr k h 0 0 0 0 0 0 0 false),.int .i64 sides] w fun e w'=>e=.returned (.bool true)/\Bl w w':=by
 rcases hk with rfl | rfl | rfl | rfl | rfl | rfl | rfl | rfl | rfl | rfl | rfl | rfl | rfl | rfl | rfl
 ·have:=form7_1 w sides h hh ⟨0,0,⟨#[]⟩,[],0⟩ none 0 (SlAt.nil w (fun _=>False) _ _) nilv_wf nilv_may;exact this
 ·have:=form7_2 w sides h hh [] none 0 (SlAt.nil w (fun _=>False) _ _) nilL_wf nilL_may (Nat.zero_le _);exact this
 ·have:=form7_3 w sides h hh 0 (by decide);exact this
 ·have:=form7_4 w sides h hh [] none 0 (SlAt.nil w (fun _=>False) _ _) nilL_wf nilL_may (Nat.zero_le _);exact this
 ·have:=form7_5 w sides h hh;exact this
 ·have:=form7_6 w sides h hh 0;exact this
 ·have:=form7_7 w sides h hh ⟨0,0,⟨#[]⟩,[],0⟩ none 0 (SlAt.nil w (fun _=>False) _ _) nilv_wf nilv_may 0;exact this
 ·have:=form7_8 w sides h hh 0 (by decide) 0 (by decide);exact this
 ·have:=form7_9 w sides h hh 0 (by decide) 0;exact this
 ·have:=form7_10 w sides h hh;exact this
 ·have:=form7_11 w sides h hh 0;exact this
 ·have:=form7_12 w sides h hh;exact this
 ·have:=form7_13 w sides h hh 0 false;exact this
 ·have:=form7_15 w sides h hh 0 0;exact this
 ·have:=form7_16 w sides h hh 0 0;exact this
theorem form_zero (hW:IsW w p M F) (k h:Int) (hs:sideB M h=true) (hk:k=1\/k=2\/k=3\/k=4\/k=5\/k=6\/k=7\/k=8\/k=9\/k=10\/k=11\/k=12\/k=13\/k=15\/k=16):Calls Tryz.prog 74 #[.pointer (some ⟨p,0,none⟩),.agg (wr k h 0 0 0 0 0 0 0 false)] w fun e w'=>e=.returned (.bool true)/\Bl w w':=by
 by_cases h3:k=3
 ·subst h3;exact form_3 hW h 0 hs (by decide)
 by_cases h8:k=8
 ·subst h8;exact form_8 hW h 0 0 hs (by decide) (by decide)
 by_cases h9:k=9
 ·subst h9;exact form_9 hW h 0 0 hs (by decide)
 by_cases h10:k=10
 ·subst h10;exact form_10a hW h hs
 by_cases h12:k=12
 ·subst h12;exact form_12 hW h hs
 exact form_plain0 hW k h hs (by omega)
theorem Make_z (hW:IsW w p M F) (_hl:M.last+1≤1099511627776) {k h:Int} (home:0≤h/\h<M.made.length) (hk:k=1\/k=2\/k=3\/k=4\/k=5\/k=8\/k=10\/k=12\/k=13) (ha:M.made.getD h.toNat 0<512->AddOk M (lt k h 0 0 0 0 0 0 0 false)) :
 Calls Tryz.prog 14 #[.pointer (some ⟨p,0,none⟩),.agg (wr k h 0 0 0 0 0 0 0 false)] w (MadeL w p M F h (lt k h 0 0 0 0 0 0 0 false)):=by
 refine(Make_G hW (MakeIn.light hW plain0 (fun w hW=>form_zero hW k h (sideB_iff.2 home) (by omega)) (fun w _=>?_) (by simpa using (show ¬ k=14 by omega)) (fun _=>rfl) rfl rfl home (fun e=>?_) (fun e=>?_) ha)).mono fun _ _ h=>h.light
 ·rcases hk with rfl | rfl | rfl | rfl | rfl | rfl | rfl | rfl | rfl
  ·exact fits_1 w _ 0 h 0 0 0 0 0 0 0 false
  ·exact fits_2 w _ 0 h 0 0 0 0 0 0 0 false
  ·exact fits_3 w _ 0 h 0 0 0 0 0 0 0 false
  ·exact fits_4 w _ 0 h 0 0 0 0 0 0 0 false
  ·exact fits_5 w _ 0 h 0 0 0 0 0 0 0 false
  ·exact fits_8 w _ 0 h 0 0 0 0 0 0 0 false
  ·exact fits_10 w _ 0 h 0 0 0 0 0 0 0 false
  ·exact fits_12 w _ 0 h 0 0 0 0 0 0 0 false
  ·exact fits_13 w _ 0 h false
 ·rcases hk with rfl | rfl | rfl | rfl | rfl | rfl | rfl | rfl | rfl <;> cases e
 ·rcases hk with rfl | rfl | rfl | rfl | rfl | rfl | rfl | rfl | rfl <;> cases e
theorem rMake_13 {N:WM} {w:World} {G:Nat->Prop} (hR:IsR w q N G) (hN:RGood N) {h:Int} (hh:0≤h/\h<N.made.length) :
 Calls Tryz.prog 15 #[.pointer (some ⟨q,0,none⟩),.agg (thc (lt 13 h 0 0 0 0 0 0 0 false))] w (MadeLR w q N G h (lt 13 h 0 0 0 0 0 0 0 false)) :=
 (make7_13 (F:=fun _=>False) hR hN.ok.len hN.last hN.mades (lt 13 h 0 0 0 0 0 0 0 false) (SlAt.nil _ _ _ _) (SlAt.nil _ _ _ _) rfl rfl (depV_may (by rfl)) (fun x hx=>by cases hx) (Nat.zero_le _) (fun b h=>h.elim) hh rfl rfl 0
  (fun w' hb=>form7_13 w' N.made.length h hh 0 false) fun w' hb =>
  askedq_13 (hR.below hb) hN.ok (lt 13 h 0 0 0 0 0 0 0 false) 0 rfl rfl [] (Nat.zero_le _) (fun w2 hb2=>refs7_lt w2 13 h 0 0 0 0 0 false) fun x hx=>by cases hx).mono fun e w' h=>h.light
theorem form7_ne (w:World) (sides k h n:Int) (hh:0≤h/\h<sides) (hn0:n≠0) (hk:k=1\/k=2\/k=4\/k=5\/k=10\/k=12\/k=13):Calls Tryz.prog 81 #[.agg (wr k h 0 0 n 0 0 0 0 false),.int .i64 sides] w fun e w'=>e=.returned (.bool false)/\Bl w w':=by
 by_cases hn:0≤n/\n≤9007199254740992
 ·rcases hk with rfl | rfl | rfl | rfl | rfl | rfl | rfl
  ·have:=form7_1_ne w sides h hh n hn hn0;exact this
  ·have:=form7_2_ne w sides h hh [] none 0 (SlAt.nil w (fun _=>False) _ _) nilL_wf nilL_may (Nat.zero_le _) n hn hn0;exact this
  ·have:=form7_4_ne w sides h hh [] none 0 (SlAt.nil w (fun _=>False) _ _) nilL_wf nilL_may (Nat.zero_le _) n hn hn0;exact this
  ·have:=form7_5_ne w sides h hh n hn hn0;exact this
  ·have:=form7_10_ne w sides h hh n hn hn0;exact this
  ·have:=form7_12_ne w sides h hh n hn hn0;exact this
  ·have:=form7_13_ne w sides h hh n hn hn0 0 false;exact this
 ·rcases hk with rfl | rfl | rfl | rfl | rfl | rfl | rfl
  ·have:=form7_1_out w sides h hh n (by omega);exact this
  ·have:=form7_2_out w sides h hh [] none 0 (SlAt.nil w (fun _=>False) _ _) nilL_wf nilL_may (Nat.zero_le _) n (by omega);exact this
  ·have:=form7_4_out w sides h hh [] none 0 (SlAt.nil w (fun _=>False) _ _) nilL_wf nilL_may (Nat.zero_le _) n (by omega);exact this
  ·have:=form7_5_out w sides h hh n (by omega);exact this
  ·have:=form7_10_out w sides h hh n (by omega);exact this
  ·have:=form7_12_out w sides h hh n (by omega);exact this
  ·have:=form7_13_out w sides h hh n (by omega) 0 false;exact this
end
end Go.Proofs.YthaliljaglldjaaGreat
