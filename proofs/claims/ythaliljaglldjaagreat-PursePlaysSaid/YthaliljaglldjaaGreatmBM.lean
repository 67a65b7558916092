/- A part of the proof, several texts in one: PyC, DrP. -/
import Derived.Test.YthaliljaglldjaaGreatmBL
import Derived.Test.YthaliljaglldjaaGreatmAN
import Derived.Test.YthaliljaglldjaaGreatmAM
import Derived.Test.YthaliljaglldjaaGreatmAT
import Derived.Test.YthaliljaglldjaaGreatmBD
/- PursePlays: Mint, Make and Lay, in the program's world and then in the document's. -/
namespace Go.Proofs.YthaliljaglldjaaGreat
open Go.RowKit Go.ChangeMaps Go.MapKept
variable {w:World} {p q:Nat} {M:WM} {F G:Nat→Prop}
theorem nilv_wf:Val.wf ⟨0,0,⟨#[]⟩,[],0⟩:=nil_wf
theorem nilv_may:mayV ⟨0,0,⟨#[]⟩,[],0⟩ = true:=by rfl
set_option maxRecDepth 8000 in
theorem form7_zero (w:World) (sides k h:Int) (hh:0 ≤ h∧h < sides) (hk:k = 1∨k = 2∨k = 3∨k = 4∨k = 5∨k = 6∨k = 7∨k = 8∨k = 9∨k = 10∨k = 11∨k = 12∨k = 13∨k = 15∨k = 16):Calls Tryz.prog 81 #[.agg #[.int .u8 k,.int .i64 h,.int .u8 0,.int .i64 0,.string ⟨#[]⟩,.slice none 0 0,.int .i64 0,.slice none 0 0,.int .i64 0,.int .i64 0,.int .i64 0,.int .i64 0,.int .u8 0,.bool false,.slice none 0 0,.slice none 0 0],.int .i64 sides] w fun e w'=>e = .returned (.bool true)∧Below w.heap.size w w':=by
 rcases hk with rfl | rfl | rfl | rfl | rfl | rfl | rfl | rfl | rfl | rfl | rfl | rfl | rfl | rfl | rfl
 ·have:=form7_1 w sides h hh ⟨0,0,⟨#[]⟩,[],0⟩ none 0 (SlAt.nil w (fun _=>False) _ _) nilv_wf nilv_may
  exact this
 ·have:=form7_2 w sides h hh [] none 0 (SlAt.nil w (fun _=>False) _ _) nilL_wf nilL_may (Nat.zero_le _)
  exact this
 ·have:=form7_3 w sides h hh 0 (by decide)
  exact this
 ·have:=form7_4 w sides h hh [] none 0 (SlAt.nil w (fun _=>False) _ _) nilL_wf nilL_may (Nat.zero_le _)
  exact this
 ·have:=form7_5 w sides h hh
  exact this
 ·have:=form7_6 w sides h hh 0
  exact this
 ·have:=form7_7 w sides h hh ⟨0,0,⟨#[]⟩,[],0⟩ none 0 (SlAt.nil w (fun _=>False) _ _) nilv_wf nilv_may 0
  exact this
 ·have:=form7_8 w sides h hh 0 (by decide) 0 (by decide)
  exact this
 ·have:=form7_9 w sides h hh 0 (by decide) 0
  exact this
 ·have:=form7_10 w sides h hh
  exact this
 ·have:=form7_11 w sides h hh 0
  exact this
 ·have:=form7_12 w sides h hh
  exact this
 ·have:=form7_13 w sides h hh 0 false
  exact this
 ·have:=form7_15 w sides h hh 0 0
  exact this
 ·have:=form7_16 w sides h hh 0 0
  exact this
set_option maxRecDepth 8000 in
theorem form_zero (hW:IsW w p M F) (k h:Int) (hs:sideB M h = true) (hk:k = 1∨k = 2∨k = 3∨k = 4∨k = 5∨k = 6∨k = 7∨k = 8∨k = 9∨k = 10∨k = 11∨k = 12∨k = 13∨k = 15∨k = 16):Calls Tryz.prog 74 #[.pointer (some ⟨p,0,none⟩),.agg #[.int .u8 k,.int .i64 h,.int .u8 0,.int .i64 0,.string ⟨#[]⟩,.slice none 0 0,.int .i64 0,.slice none 0 0,.int .i64 0,.int .i64 0,.int .i64 0,.int .i64 0,.int .u8 0,.bool false,.slice none 0 0,.slice none 0 0]] w fun e w'=>e = .returned (.bool true)∧Below w.heap.size w w':=by
 by_cases h3:k = 3
 ·subst h3;exact form_3 hW h 0 hs (by decide)
 by_cases h8:k = 8
 ·subst h8;exact form_8 hW h 0 0 hs (by decide) (by decide)
 by_cases h9:k = 9
 ·subst h9;exact form_9 hW h 0 0 hs (by decide)
 by_cases h10:k = 10
 ·subst h10;exact form_10a hW h hs
 by_cases h12:k = 12
 ·subst h12;exact form_12 hW h hs
 exact form_plain0 hW k h hs (by omega)
theorem Make_z (hW:IsW w p M F) (_hl:M.last + 1 ≤ 1099511627776) {k h:Int} (home:0 ≤ h∧h < M.made.length) (hk:k = 1∨k = 2∨k = 3∨k = 4∨k = 5∨k = 8∨k = 10∨k = 12∨k = 13) (ha:M.made.getD h.toNat 0 < 512→AddOk M (lt k h 0 0 0 0 0 0 0 false)) :
 Calls Tryz.prog 14 #[.pointer (some ⟨p,0,none⟩),.agg #[.int .u8 k,.int .i64 h,.int .u8 0,.int .i64 0,.string ⟨#[]⟩,.slice none 0 0,.int .i64 0,.slice none 0 0,.int .i64 0,.int .i64 0,.int .i64 0,.int .i64 0,.int .u8 0,.bool false,.slice none 0 0,.slice none 0 0]] w (MadeL w p M F h (lt k h 0 0 0 0 0 0 0 false)):=by
 refine (Make_G hW (MakeIn.light hW plain0 (fun w hW=>form_zero hW k h (sideB_iff.2 home) (by omega)) (fun w _=>?_) (by simpa using (show ¬ k = 14 by omega)) (fun _=>rfl) rfl rfl home (fun e=>?_) (fun e=>?_) ha)).mono fun _ _ h=>h.light
 ·rcases hk with rfl | rfl | rfl | rfl | rfl | rfl | rfl | rfl | rfl
  ·exact fits_1 w _ 0 h 0 0 0 0 0 0 0 false
  ·exact fits_2 w _ 0 h 0 0 0 0 0 0 0 false
  ·exact fits_3 w _ 0 h 0 0 0 0 0 0 0 false
  ·exact fits_4 w _ 0 h 0 0 0 0 0 0 0 false
  ·exact fits_5 w _ 0 h 0 0 0 0 0 0 0 false
  ·exact fits_8 w _ 0 h 0 0 0 0 0 0 0 false
  ·exact fits_10 w _ 0 h 0 0 0 0 0 0 0 false
  ·exact fits_12 w _ 0 h 0 0 0 0 0 0 0 false
  ·exact fits_13 w _ 0 h false
 ·rcases hk with rfl | rfl | rfl | rfl | rfl | rfl | rfl | rfl | rfl <;> cases e
 ·rcases hk with rfl | rfl | rfl | rfl | rfl | rfl | rfl | rfl | rfl <;> cases e
theorem Two2.made {f g:FuncId} {a b:Array Value} (S:PS w p q M F G) {h:Int} {t:Th} (h15:t.kind ≠ 15) (h1:Calls Tryz.prog f a w (MadeL w p M F h t)) (h2:∀ w',IsR w' q M G→Calls Tryz.prog g b w' (MadeLR w' q M G h t))
 (hP:M.made.getD h.toNat 0 < 512→PP (M.add t)):Two2 w p q M F G f a g b:=by
 refine h1.mono ?_
 rintro e w5 (⟨hr,rfl,F',hW,hg⟩ | ⟨hr,rfl,hb⟩)
 ·refine ⟨_,_,rfl,hg.1.mono fun _ _ h=>.inl h,fun w5' hb'=>(h2 w5' (S.R5 (hg.on hb'))).mono ?_⟩
  rintro e w6 (⟨kr,rfl,G',hR,hg6⟩ | ⟨kr,-⟩)
  ·have e1:makeM M t = M.add t:=by unfold makeM;rw [if_neg h15]
   rw [e1] at hW
   exact ⟨rfl,S.two (hW.below hb') (hg.on hb') hR hg6 (hP hr) (Int.le_refl _)⟩
  ·exact absurd hr kr
 ·refine ⟨_,_,rfl,Keeps.of_below hb,fun w5' hb'=>(h2 w5' (S.R.below (hb.trans (hb'.mono hb.size)))).mono ?_⟩
  rintro e w6 (⟨kr,-⟩ | ⟨kr,rfl,hb6⟩)
  ·exact absurd kr hr
  ·exact ⟨rfl,S.same ((hb.trans (hb'.mono hb.size)).trans (hb6.mono (Nat.le_trans hb.size hb'.size)))⟩
set_option maxHeartbeats 1000000 in
set_option maxRecDepth 8000 in
theorem Mint_no (hW:IsW w p M F) {h:Int} (hs:sideB M h = false) :
 Calls Tryz.prog 95 #[.pointer (some ⟨p,0,none⟩),.int .i64 h] w fun e w'=>e = .returned (.tuple #[.int .i64 0,.int .i64 2])∧Below w.heap.size w w':=by
 have HMK:Hid (Calls Tryz.prog 14 #[.pointer (some ⟨p,0,none⟩),.agg #[.int .u8 8,.int .i64 h,.int .u8 0,.int .i64 0,.string ⟨#[]⟩,.slice none 0 0,.int .i64 0,.slice none 0 0,.int .i64 0,.int .i64 0,.int .i64 0,.int .i64 0,.int .u8 0,.bool false,.slice none 0 0,.slice none 0 0]] w fun e w'=>e = .returned (.tuple #[.int .i64 0,.int .i64 70])∧Below w.heap.size w w') :=
  Make_form hW rfl (fun e=>absurd e (by decide)) fun w1 hb=>form_nohome (hW.below hb) 8 h hs (by decide)
 clear hW hs
 go_enter Tryz.func95,Tryz.ntmps95
 go_wp2_with fail
 refine Calls.mono HMK.out ?_
 rintro e w5 ⟨rfl,hb⟩
 have H5:=(show Hid (Below w.heap.size w w5) from hb)
 clear hb
 go_wp2_with fail
 go_ret2
 exact ⟨rfl,H5.out⟩
theorem mint2 (S:PS w p q M F G) (hl:M.last + 1 ≤ 100000) (h:Int) :
 Two2 w p q M F G 95 #[.pointer (some ⟨p,0,none⟩),.int .i64 h] 101 #[.pointer (some ⟨q,0,none⟩),.int .i64 h]:=by
 have hQ:=S.pp.qok (by omega)
 cases hs:sideB M h with
 | false =>
   have hh:h < 0∨h ≥ M.made.length:=by have:=mt sideB_iff.2 (by rw [hs];decide);omega
   exact Two2.below S (Mint_no S.W hs) fun w' hb=>mintq_no (S.R.below hb) S.pp.ok.made hh
 | true =>
   have hh:=sideB_iff.1 hs
   refine Two2.made S (t:=mintT h 0 0) (by show (8:Int) ≠ 15;decide) (Mint_W S.W (by omega) hh) (fun w' hR=>mintq_W hR hQ.good S.pp.ok.made hh) fun hr=>?_
   exact S.pp.add (S.pp.addOk hl (t:=mintT h 0 0) rfl (by decide) rfl hh hr (by decide) (fun e=>absurd e (by decide))) (.inr (.inr (.inl ⟨h,0,0,rfl,by decide,by decide⟩)))
theorem rMake_13 {N:WM} {w:World} {G:Nat→Prop} (hR:IsR w q N G) (hN:RGood N) {h:Int} (hh:0 ≤ h∧h < N.made.length) :
 Calls Tryz.prog 15 #[.pointer (some ⟨q,0,none⟩),.agg (thc (lt 13 h 0 0 0 0 0 0 0 false))] w (MadeLR w q N G h (lt 13 h 0 0 0 0 0 0 0 false)) :=
 (make7_13 (F:=fun _=>False) hR hN.ok.len hN.last hN.mades (lt 13 h 0 0 0 0 0 0 0 false) (SlAt.nil _ _ _ _) (SlAt.nil _ _ _ _) rfl rfl (depV_may (by rfl)) (fun x hx=>by cases hx) (Nat.zero_le _) (fun b h=>h.elim) hh rfl rfl 0
  (fun w' hb=>form7_13 w' N.made.length h hh 0 false) fun w' hb =>
  askedq_13 (hR.below hb) hN.ok (lt 13 h 0 0 0 0 0 0 0 false) 0 rfl rfl [] (Nat.zero_le _) (fun w2 hb2=>refs7_lt w2 13 h 0 0 0 0 0 false) fun x hx=>by cases hx).mono fun e w' h=>h.light
set_option maxRecDepth 8000 in
theorem make2 (S:PS w p q M F G) (hl:M.last + 1 ≤ 100000) {k:Int} (h:Int) (hk:0 ≤ k∧k ≤ 255) :
 Two2 w p q M F G 14 #[.pointer (some ⟨p,0,none⟩),.agg #[.int .u8 k,.int .i64 h,.int .u8 0,.int .i64 0,.string ⟨#[]⟩,.slice none 0 0,.int .i64 0,.slice none 0 0,.int .i64 0,.int .i64 0,.int .i64 0,.int .i64 0,.int .u8 0,.bool false,.slice none 0 0,.slice none 0 0]] 15 #[.pointer (some ⟨q,0,none⟩),.agg (thc (lt k h 0 0 0 0 0 0 0 false))]:=by
 have hQ:=S.pp.qok (by omega)
 by_cases h14:k = 14
 ·refine Two2.below S (Make_14 S.W h14) fun w' hb=>?_
  subst h14
  by_cases h0:h = 0
  ·subst h0
   exact make7_14 (S.R.below hb) _ rfl fun w2 hb2=>form7_14 w2 M.made.length 0 0
  ·exact make7_no (S.R.below hb) _ ⟨by show (0:Int) ≤ 14;decide,by show (14:Int) ≤ 255;decide⟩ fun w2 hb2=>form7_14_home w2 M.made.length h h0 0 0
 have k14:(k == 14) = false:=by simpa using h14
 by_cases hbad:k < 1∨k > 16
 ·refine Two2.below S (Make_form S.W k14 (fun _=>rfl) fun w1 hb=>?_) fun w' hb=>make7_no (S.R.below hb) _ hk fun w2 hb2=>form7_kind w2 M.made.length k h hk hbad
  by_cases h0:k = 0
  ·subst h0
   exact formno_0 h
  ·exact formno_big k h (by omega)
 have hks:k = 1∨k = 2∨k = 3∨k = 4∨k = 5∨k = 6∨k = 7∨k = 8∨k = 9∨k = 10∨k = 11∨k = 12∨k = 13∨k = 15∨k = 16:=by omega
 cases hs:sideB M h with
 | false =>
   have hh:h < 0∨h ≥ M.made.length:=by have:=mt sideB_iff.2 (by rw [hs];decide);omega
   exact Two2.below S (Make_form S.W k14 (fun _=>rfl) fun w1 hb=>form_nohome (S.W.below hb) k h hs hks) fun w' hb=>make7_no (S.R.below hb) _ hk fun w2 hb2=>form7_home w2 M.made.length k h (by omega) h14 hh
 | true =>
   have hh:=sideB_iff.1 hs
   have hN0:M.at 0 = none:=S.pp.ok.none_zero
   by_cases hrf:k = 6∨k = 7∨k = 9∨k = 11∨k = 15∨k = 16
   ·refine Two2.below S (Make_refOf S.W k14 (fun _=>rfl) (fun w1 hb=>form_zero (S.W.below hb) k h hs hks) (fun w1 hb=>names_W w1 _ k h 0 0 0 0 0 0 0 false plain0) rfl ?_ hN0) fun w' hb=>?_
    ·rcases hrf with rfl | rfl | rfl | rfl | rfl | rfl <;> rfl
    ·refine make7_ref (S.R.below hb) _ hk ⟨by show k ≠ 13;omega,h14⟩ (aE:=5) (by decide) (fun w2 hb2=>askedq_ref ((S.R.below hb).below hb2) hQ.good.ok (lt k h 0 0 0 0 0 0 0 false) 0 hrf hN0 [] (Nat.zero_le _) (fun w3 hb3=>refs7_lt w3 k h 0 0 0 0 0 false) fun x hx=>by cases hx) fun w2 hb2=>form7_zero w2 M.made.length k h hh hks
   ·have hadd:M.made.getD h.toNat 0 < 512→AddOk M (lt k h 0 0 0 0 0 0 0 false):=fun hr=>S.pp.addOk hl rfl (by omega) rfl hh hr (by omega) (fun e=>absurd e (by omega))
    have hpt:PThing M (lt k h 0 0 0 0 0 0 0 false):=by
     by_cases h3:k = 3
     ·subst h3
      exact .inr (.inl ⟨h,0,rfl,by decide,by decide⟩)
     by_cases h8:k = 8
     ·subst h8
      exact .inr (.inr (.inl ⟨h,0,0,rfl,by decide,by decide⟩))
     exact .inl ⟨k,h,rfl,by omega⟩
    refine Two2.made S (t:=lt k h 0 0 0 0 0 0 0 false) (by show k ≠ 15;omega) ?_ (fun w' hR=>?_) fun hr=>S.pp.add (hadd hr) hpt
    ·exact Make_z S.W (by omega) hh (by omega) hadd
    ·by_cases h13:k = 13
     ·subst h13
      exact rMake_13 hR hQ.good hh
     ·exact rMake_lt hR hQ.good hk (by omega) hh fun w2 hb2=>form7_zero w2 M.made.length k h hh hks
theorem form7_ne (w:World) (sides k h n:Int) (hh:0 ≤ h∧h < sides) (hn0:n ≠ 0) (hk:k = 1∨k = 2∨k = 4∨k = 5∨k = 10∨k = 12∨k = 13):Calls Tryz.prog 81 #[.agg #[.int .u8 k,.int .i64 h,.int .u8 0,.int .i64 0,.string ⟨#[]⟩,.slice none 0 0,.int .i64 0,.slice none 0 0,.int .i64 n,.int .i64 0,.int .i64 0,.int .i64 0,.int .u8 0,.bool false,.slice none 0 0,.slice none 0 0],.int .i64 sides] w fun e w'=>e = .returned (.bool false)∧Below w.heap.size w w':=by
 by_cases hn:0 ≤ n∧n ≤ 9007199254740992
 ·rcases hk with rfl | rfl | rfl | rfl | rfl | rfl | rfl
  ·have:=form7_1_ne w sides h hh n hn hn0
   exact this
  ·have:=form7_2_ne w sides h hh [] none 0 (SlAt.nil w (fun _=>False) _ _) nilL_wf nilL_may (Nat.zero_le _) n hn hn0
   exact this
  ·have:=form7_4_ne w sides h hh [] none 0 (SlAt.nil w (fun _=>False) _ _) nilL_wf nilL_may (Nat.zero_le _) n hn hn0
   exact this
  ·have:=form7_5_ne w sides h hh n hn hn0
   exact this
  ·have:=form7_10_ne w sides h hh n hn hn0
   exact this
  ·have:=form7_12_ne w sides h hh n hn hn0
   exact this
  ·have:=form7_13_ne w sides h hh n hn hn0 0 false
   exact this
 ·rcases hk with rfl | rfl | rfl | rfl | rfl | rfl | rfl
  ·have:=form7_1_out w sides h hh n (by omega)
   exact this
  ·have:=form7_2_out w sides h hh [] none 0 (SlAt.nil w (fun _=>False) _ _) nilL_wf nilL_may (Nat.zero_le _) n (by omega)
   exact this
  ·have:=form7_4_out w sides h hh [] none 0 (SlAt.nil w (fun _=>False) _ _) nilL_wf nilL_may (Nat.zero_le _) n (by omega)
   exact this
  ·have:=form7_5_out w sides h hh n (by omega)
   exact this
  ·have:=form7_10_out w sides h hh n (by omega)
   exact this
  ·have:=form7_12_out w sides h hh n (by omega)
   exact this
  ·have:=form7_13_out w sides h hh n (by omega) 0 false
   exact this
theorem Two1.laid (S:PS w p q M F G) (hl:M.last ≤ 100000) {r k h n l tg n':Int} (hr:(Lit.int .i64 r).wf = true) (ht:M.at r = some (lt k h 0 0 n l tg 0 0 false))
 (h1:∀ w',IsW w' p M F→Calls Tryz.prog 74 #[.pointer (some ⟨p,0,none⟩),.agg #[.int .u8 k,.int .i64 h,.int .u8 0,.int .i64 0,.string ⟨#[]⟩,.slice none 0 0,.int .i64 0,.slice none 0 0,.int .i64 n',.int .i64 l,.int .i64 tg,.int .i64 0,.int .u8 0,.bool false,.slice none 0 0,.slice none 0 0]] w' fun e w''=>e = .returned (.bool true)∧Below w'.heap.size w' w'')
 (h2:∀ w',Calls Tryz.prog 81 #[.agg (thc (lt k h 0 0 n' l tg 0 0 false)),.int .i64 M.made.length] w' fun e w''=>e = .returned (.bool true)∧Below w'.heap.size w' w'')
 (hP:PThing M (lt k h 0 0 n' l tg 0 0 false)) :
 Two1 0 w p q M F G 107 #[.pointer (some ⟨p,0,none⟩),.int .i64 r,.agg #[.int .u8 k,.int .i64 h,.int .u8 0,.int .i64 0,.string ⟨#[]⟩,.slice none 0 0,.int .i64 0,.slice none 0 0,.int .i64 n',.int .i64 l,.int .i64 tg,.int .i64 0,.int .u8 0,.bool false,.slice none 0 0,.slice none 0 0]] 108 #[.pointer (some ⟨q,0,none⟩),.int .i64 r,.agg (thc (lt k h 0 0 n' l tg 0 0 false))]:=by
 refine (Lay_lt S.W hr ht plain0 h1).mono ?_
 rintro e w5 ⟨rfl,hW,hk⟩
 have hg:Grew F w F w5:=⟨hk,fun b h=>.inl h⟩
 refine ⟨rfl,hk.mono fun _ _ h=>.inl h,fun w5' hb'=>(rLay_lt (S.R5 (hg.on hb')) (S.pp.qok hl) ht fun w' _=>h2 w').mono ?_⟩
 rintro e w6 ⟨rfl,G',hR,hg6⟩
 exact ⟨rfl,S.two (hW.below hb') (hg.on hb') hR hg6 (S.pp.set ⟨ht,rfl,rfl,fun _=>rfl,(S.pp.ok.wf r _ ht).tgt,rfl,rfl⟩ hP) (by show M.last ≤ M.last + 1;omega),hg6.1⟩
theorem Two1.nolay (S:PS w p q M F G) (hl:M.last ≤ 100000) {r k h n l tg n':Int} (hr:(Lit.int .i64 r).wf = true) (ht:M.at r = some (lt k h 0 0 n l tg 0 0 false))
 (h1:∀ w',IsW w' p M F→Calls Tryz.prog 74 #[.pointer (some ⟨p,0,none⟩),.agg #[.int .u8 k,.int .i64 h,.int .u8 0,.int .i64 0,.string ⟨#[]⟩,.slice none 0 0,.int .i64 0,.slice none 0 0,.int .i64 n',.int .i64 l,.int .i64 tg,.int .i64 0,.int .u8 0,.bool false,.slice none 0 0,.slice none 0 0]] w' fun e w''=>e = .returned (.bool false)∧Below w'.heap.size w' w'')
 (h2:∀ w',Calls Tryz.prog 81 #[.agg (thc (lt k h 0 0 n' l tg 0 0 false)),.int .i64 M.made.length] w' fun e w''=>e = .returned (.bool false)∧Below w'.heap.size w' w'') :
 Two1 70 w p q M F G 107 #[.pointer (some ⟨p,0,none⟩),.int .i64 r,.agg #[.int .u8 k,.int .i64 h,.int .u8 0,.int .i64 0,.string ⟨#[]⟩,.slice none 0 0,.int .i64 0,.slice none 0 0,.int .i64 n',.int .i64 l,.int .i64 tg,.int .i64 0,.int .u8 0,.bool false,.slice none 0 0,.slice none 0 0]] 108 #[.pointer (some ⟨q,0,none⟩),.int .i64 r,.agg (thc (lt k h 0 0 n' l tg 0 0 false))] :=
 Two1.below S (Lay_no S.W hr ht h1) fun _ hb=>lay7_no (S.R.below hb) (S.pp.qok hl).good.ok ht fun w2 _=>h2 w2
def layX (k n l:Int):Int:=if k = 3∨k = 8∨k = 9 then (if n < 0∨9007199254740992 < n∨n < l then 70 else 0) else if n = 0 then 0 else 70
set_option maxRecDepth 8000 in
theorem lay2 (S:PS w p q M F G) (hl:M.last ≤ 100000) {r k h n l tg:Int} (n':Int) (hr:(Lit.int .i64 r).wf = true) (ht:M.at r = some (lt k h 0 0 n l tg 0 0 false)) :
 Two1 (layX k n' l) w p q M F G 107 #[.pointer (some ⟨p,0,none⟩),.int .i64 r,.agg #[.int .u8 k,.int .i64 h,.int .u8 0,.int .i64 0,.string ⟨#[]⟩,.slice none 0 0,.int .i64 0,.slice none 0 0,.int .i64 n',.int .i64 l,.int .i64 tg,.int .i64 0,.int .u8 0,.bool false,.slice none 0 0,.slice none 0 0]] 108 #[.pointer (some ⟨q,0,none⟩),.int .i64 r,.agg (thc (lt k h 0 0 n' l tg 0 0 false))]:=by
 have hh:0 ≤ h∧h < M.made.length:=S.pp.home ht
 have hs:=sideB_iff.2 hh
 have hP:=S.pp.at ht
 rcases hP with ⟨k',h',e,hk⟩ | ⟨h',n1,e,hn⟩ | ⟨h',n1,l1,e,hl1,hn⟩ | ⟨h',n1,m,e,hn,hm⟩ <;> cases e
 ·by_cases hn0:n' = 0
  ·subst hn0
   have ex:layX k 0 0 = 0:=by unfold layX;rw [if_neg (by omega),if_pos rfl]
   rw [ex]
   exact Two1.laid S hl hr ht (fun w' hW=>form_zero hW k h hs (by omega)) (fun w'=>form7_zero w' M.made.length k h hh (by omega)) (.inl ⟨k,h,rfl,hk⟩)
  ·have ex:layX k n' 0 = 70:=by unfold layX;rw [if_neg (by omega),if_neg hn0]
   rw [ex]
   exact Two1.nolay S hl hr ht (fun w' hW=>form_ne k h n' hn0 hk) (fun w'=>form7_ne w' M.made.length k h n' hh hn0 hk)
 ·by_cases hn1:n' < 0
  ·have ex:layX 3 n' 0 = 70:=by unfold layX;rw [if_pos (by decide),if_pos (by omega)]
   rw [ex]
   exact Two1.nolay S hl hr ht (fun w' hW=>formno_3 hW h n' hs (.inl hn1)) (fun w'=>form7_3_out w' M.made.length h hh n' (.inl hn1))
  by_cases hn2:9007199254740992 < n'
  ·have ex:layX 3 n' 0 = 70:=by unfold layX;rw [if_pos (by decide),if_pos (by omega)]
   rw [ex]
   exact Two1.nolay S hl hr ht (fun w' hW=>formno_3 hW h n' hs (.inr hn2)) (fun w'=>form7_3_out w' M.made.length h hh n' (.inr hn2))
  have ex:layX 3 n' 0 = 0:=by unfold layX;rw [if_pos (by decide),if_neg (by omega)]
  rw [ex]
  exact Two1.laid S hl hr ht (fun w' hW=>form_3 hW h n' hs (by omega)) (fun w'=>form7_3 w' M.made.length h hh n' (by omega)) (.inr (.inl ⟨h,n',rfl,by omega,by omega⟩))
 ·by_cases hn1:n' < 0
  ·have ex:layX 8 n' l = 70:=by unfold layX;rw [if_pos (by decide),if_pos (by omega)]
   rw [ex]
   exact Two1.nolay S hl hr ht (fun w' hW=>formno_8 hW h n' l hs (.inl hn1) (by omega)) (fun w'=>form7_8_lost w' M.made.length h hh n' l (by omega))
  by_cases hn2:9007199254740992 < n'
  ·have ex:layX 8 n' l = 70:=by unfold layX;rw [if_pos (by decide),if_pos (by omega)]
   rw [ex]
   exact Two1.nolay S hl hr ht (fun w' hW=>formno_8 hW h n' l hs (.inr (.inl hn2)) (by omega)) (fun w'=>form7_8_out w' M.made.length h hh n' (.inr hn2) l (by omega))
  by_cases hn3:n' < l
  ·have ex:layX 8 n' l = 70:=by unfold layX;rw [if_pos (by decide),if_pos (by omega)]
   rw [ex]
   exact Two1.nolay S hl hr ht (fun w' hW=>formno_8 hW h n' l hs (.inr (.inr hn3)) (by omega)) (fun w'=>form7_8_lost w' M.made.length h hh n' l (by omega))
  have ex:layX 8 n' l = 0:=by unfold layX;rw [if_pos (by decide),if_neg (by omega)]
  rw [ex]
  exact Two1.laid S hl hr ht (fun w' hW=>form_8 hW h n' l hs (by omega) (by omega)) (fun w'=>form7_8 w' M.made.length h hh n' (by omega) l (by omega)) (.inr (.inr (.inl ⟨h,n',l,rfl,by omega,by omega⟩)))
 ·by_cases hn1:n' < 0
  ·have ex:layX 9 n' 0 = 70:=by unfold layX;rw [if_pos (by decide),if_pos (by omega)]
   rw [ex]
   exact Two1.nolay S hl hr ht (fun w' hW=>formno_9 hW h n' tg hs (.inl hn1)) (fun w'=>form7_9_out w' M.made.length h hh n' (.inl hn1) tg)
  by_cases hn2:9007199254740992 < n'
  ·have ex:layX 9 n' 0 = 70:=by unfold layX;rw [if_pos (by decide),if_pos (by omega)]
   rw [ex]
   exact Two1.nolay S hl hr ht (fun w' hW=>formno_9 hW h n' tg hs (.inr hn2)) (fun w'=>form7_9_out w' M.made.length h hh n' (.inr hn2) tg)
  have ex:layX 9 n' 0 = 0:=by unfold layX;rw [if_pos (by decide),if_neg (by omega)]
  rw [ex]
  exact Two1.laid S hl hr ht (fun w' hW=>form_9 hW h n' tg hs (by omega)) (fun w'=>form7_9 w' M.made.length h hh n' (by omega) tg) (.inr (.inr (.inr ⟨h,n',tg,rfl,by omega,hm⟩)))
end Go.Proofs.YthaliljaglldjaaGreat
/- posternref07.in; a whole entry loaded and stored. Printed by gen_drop7.py. -/
namespace Go.Proofs.YthaliljaglldjaaGreat
open Go.RowKit Go.ChangeMaps Go.MapKept
def inB (l:List Int) (r:Int):Bool:=l.contains r
set_option maxHeartbeats 2000000 in
set_option maxRecDepth 8000 in
theorem in7_W {w:World} {pa:Option Addr} {c:Nat} {l:List Int} (hA:IntArg .i64 w pa l) (hl:l.length ≤ 1000000) (r:Int) :
 Calls Tryz.prog 196 #[.slice pa l.length c,.int .i64 r] w fun e w'=>e = .returned (.bool (inB l r))∧Below w.heap.size w w':=by
 obtain ⟨n,hn⟩:∃ n,n = l.length:=⟨_,rfl⟩
 have HA:Hid (IntArg .i64 w pa l∧n = l.length∧n ≤ 1000000):=⟨hA,hn,by omega⟩
 rw [← hn]
 clear hA hl hn
 go_enter Tryz.func196,Tryz.ntmps196
 go_wp2_with fail
 go_loopw [5] (fun vi wr=>∃ i:Nat,vi = .int .i64 i∧i ≤ n∧Hid (Below w.heap.size w wr∧∀ j x,j < i→l[j]? = some x→x ≠ r)) (fun vi _=>n - (intOf vi).toNat)
 case atStart=>exact ⟨0,rfl,Nat.zero_le _,Below.refl _ _,fun j x h=>absurd h (Nat.not_lt_zero j)⟩
 case round =>
  obtain ⟨i,rfl,hi,HB⟩:=hrel
  by_cases hin:i < n
  ·have hiz:(i:Int) < (n:Int):=by omega
   have hi0:(0:Int) ≤ (i:Int):=by omega
   obtain ⟨x,hx⟩:∃ x,l[i]? = some x:=⟨_,List.getElem?_eq_getElem (by have:=HA.out.2.1;omega)⟩
   obtain ⟨b,o,rfl,hc⟩:∃ b o,pa = some ⟨b,o,none⟩∧wr.cell? ⟨b,o + i,none⟩ = some (.int .i64 x):=by
    rcases HA.out.1 with h | ⟨b,o,h1,h2,h3⟩
    ·rw [h] at hx;simp at hx
    ·exact ⟨b,o,h1,(HB.out.1.cell (p:=⟨b,o + i,none⟩) h2).trans (h3 i x hx)⟩
   have hwi:wrap64 ((i:Int) + 1) = (i:Int) + 1:=by have:=HA.out.2.2;unfold wrap64;omega
   by_cases hr:x = r
   ·have hrb:(x == r) = true:=by simpa using hr
    have HR:Hid (inB l r = true):=by show l.contains r = true;rw [← hr];exact List.contains_iff_mem.2 (List.mem_of_getElem? hx)
    have hr':x = r:=hr
    clear hx hr
    go_wp2_with fail
    go_ret
    exact ⟨by rw [HR.out];rfl,HB.out.1⟩
   ·have hrb:(x == r) = false:=by simpa using hr
    have HB2:Hid (Below w.heap.size w wr∧∀ j x,j < i + 1→l[j]? = some x→x ≠ r):=⟨HB.out.1,fun j y hj hy=>by
     by_cases e:j = i
     ·subst e
      rw [hx] at hy
      cases hy
      exact hr
     ·exact HB.out.2 j y (by omega) hy⟩
    have hr':¬ x = r:=hr
    clear hx hr
    go_wp2_with fail
    go_roundw
    case rel=>exact ⟨i + 1,by go_num,by omega,HB2.out⟩
    case measure=>rw [hwi];clear hwi;simp [intOf];omega
  ·have hiz:¬ (i:Int) < (n:Int):=by omega
   obtain rfl:i = n:=by omega
   have hkk:¬ (i:Int) < (i:Int):=by omega
   have HR:Hid (inB l r = false):=by
    show l.contains r = false
    cases e:l.contains r with
    | false=>rfl
    | true =>
      obtain ⟨j,hj,ej⟩:=List.getElem_of_mem (List.contains_iff_mem.1 e)
      exact absurd ej (HB.out.2 j _ (by have:=HA.out.2.1;omega) (List.getElem?_eq_getElem hj))
   go_wp2_with fail
   go_ret
   exact ⟨by rw [HR.out];rfl,HB.out.1⟩
theorem sizeEntry:(Tryz.prog.info? 117).map (·.size) = some 17:=by kernel_rfl
def ldE (a:Value):Sem Next:=do pure (.value (← Instr.loadAt 117 a))
def stE (a x:Value):Sem Next:=do Instr.storeAt 117 a x;pure .skip
theorem execOp_ldE (ρ:Operand→Value) (d:Option Tmp) (a:Operand) (ty:TypeId) (pos:String) (af:Array Edge) (g:Option (Nat × Bool)) :
 execOp ρ { dst:=d,op:=.load 117 a,type:=ty,pos:=pos,after:=af,guard:=g } = ldE (ρ a):=rfl
theorem execOp_stE (ρ:Operand→Value) (d:Option Tmp) (a x:Operand) (ty:TypeId) (pos:String) (af:Array Edge) (g:Option (Nat × Bool)) :
 execOp ρ { dst:=d,op:=.store 117 a x,type:=ty,pos:=pos,after:=af,guard:=g } = stE (ρ a) (ρ x):=rfl
theorem ldE_mid {w:World} {b o:Nat} {cs:Array Value} (hs:cs.size = 17) (h:∀ k v,cs[k]? = some v→w.cell? ⟨b,o + k,none⟩ = some v):(ldE (.pointer (some ⟨b,o,none⟩))).run Tryz.prog w = .ok (.value (.agg cs)) w:=by
 have:=run_loadAt_mid w b o 117 cs.toList _ (fun k v hv=>h k v (by simpa using hv)) Tryz.underlying117 rfl (by rw [Array.length_toList,hs];exact sizeEntry)
 simp only [ldE,Sem.run_bind,this,Result.andThen,Sem.run_pure,Array.toArray_toList]
theorem ldE_blk {w:World} {b:Nat} {cs:Array Value} {fr:Nat × Nat} (hg:w.heap[b]? = some (.cells cs 117 fr)) (hs:cs.size = 17):(ldE (.pointer (some ⟨b,0,none⟩))).run Tryz.prog w = .ok (.value (.agg cs)) w:=by
 have:=run_loadAt_blk hg Tryz.underlying117 rfl (by rw [hs];exact sizeEntry)
 simp only [ldE,Sem.run_bind,this,Result.andThen,Sem.run_pure]
theorem stE_blk {w:World} {b:Nat} {c c':Array Value} (hg:w.heap[b]? = some (.cells c 117 (0,0))) (hs:c.size = 17) (hs':c'.size = 17) (h1:c'.all (·.oneCell') = true) :
 (stE (.pointer (some ⟨b,0,none⟩)) (.agg c')).run Tryz.prog w = .ok .skip (w.setRow b c'):=by
 have:=run_storeAt_blk (P:=Tryz.prog) hg (by rw [hs'];exact sizeEntry) (by rw [hs,hs']) h1
 simp only [stE,Sem.run_bind,this,Result.andThen,Sem.run_pure]
theorem boxed_ent (w1:World) (xs:Array Value) (hs:xs.size = 17) (h1:xs.all (·.oneCell') = true) :
 ∃ w2,(stE (.pointer (some ⟨w1.heap.size,0,none⟩)) (.agg xs)).run Tryz.prog (w1.alloc (.cells #[.int .i64 0,.int .u8 0,.int .i64 0,.int .u8 0,.int .i64 0,.string ⟨#[]⟩,.slice none 0 0,.int .i64 0,.slice none 0 0,.int .i64 0,.int .i64 0,.int .i64 0,.int .i64 0,.int .u8 0,.bool false,.slice none 0 0,.slice none 0 0] 117)) = .ok .skip w2 ∧
   Below w1.heap.size w1 w2∧w2.heap[w1.heap.size]? = some (.cells xs 117 (0,0))∧w2.heap.size = w1.heap.size + 1 :=
 ⟨_,stE_blk (blk_new _ _) rfl hs h1,Below.setRow ((Below.refl _ w1).alloc (Nat.le_refl _) _) (Nat.le_refl _) _,heap_setRow_at (blk_new _ _),by simp [World.setRow]⟩
end Go.Proofs.YthaliljaglldjaaGreat
