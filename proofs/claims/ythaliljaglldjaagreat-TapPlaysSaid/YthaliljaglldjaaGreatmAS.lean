/- Part of the proof. -/
import Derived.Test.YthaliljaglldjaaGreatmAR
import Derived.Test.YthaliljaglldjaaGreatmAQ
namespace Go.Proofs.YthaliljaglldjaaGreat
set_option maxHeartbeats 16000000
set_option maxRecDepth 20000
open Go.RowKit Go.ChangeMaps Go.MapKept
section
variable {w:World} {p:Nat} {M:WM} {F:Nat->Prop}
theorem form_12 (hW:IsW w p M F) (h:Int) (hs:sideB M h=true):Calls Tryz.prog 74 #[.pointer (some ⟨p,0,none⟩),.agg (wr 12 h 0 0 0 0 0 0 0 false)] w fun e w'=>e=.returned (.bool true)/\Below w.heap.size w w':=by
 have hV:∀ w:World,Calls Tryz.prog 161 #[.agg #[.int .u8 0,.int .i64 0,.string ⟨#[]⟩,.slice none 0 0,.int .i64 0]] w fun e w'=>e=.returned (.bool true)/\Below w.heap.size w w':=fun w=>vMay_W w 0 0 (.inl ⟨rfl,rfl⟩)
 go_enter Tryz.func74,Tryz.ntmps74
 go_wp2_with fail
 refine(bare_12 _ h 0 0 0 0 0 0 0 0 ⟨#[]⟩ false none none none none 0 0 0 0 0 0 0 0).mono ?_;rintro e w1 ⟨rfl,hb1⟩;have B1:=below_blk hb1 (blk_new _ _);have aa:=cells16 B1;have hz1:w.heap.size<w1.heap.size:=by have:=hb1.size;simp at this;omega
 have HB1:Hid (Below w.heap.size w w1):=((Below.refl _ _).alloc (Nat.le_refl _) _).trans (hb1.mono (by simp;try omega));clear hb1
 go_wp2_with fail
 refine(blank0_W _).mono ?_;rintro e w2 ⟨rfl,hb2⟩;have B2:=below_blk hb2 (blk_old _ _ B1);clear aa;have aa:=cells16 B2;have hz2:w.heap.size<w2.heap.size:=by have:=hb2.size;simp at this;omega
 have HB2:Hid (Below w.heap.size w w2):=(HB1.out.alloc (by first | omega | (simp;try omega)) _).trans (hb2.mono (by first | omega | (simp;try omega)));clear hb2 B1 HB1 hz1
 go_wp2_with fail
 refine(blank0_W _).mono ?_;rintro e w3 ⟨rfl,hb3⟩;have B3:=below_blk hb3 B2;clear aa;have aa:=cells16 B3;have hz3:w.heap.size<w3.heap.size:=by have:=hb3.size;omega
 have HB3:Hid (Below w.heap.size w w3):=HB2.out.trans (hb3.mono (by first | omega | (simp;try omega)));clear hb3 B2 HB2 hz2
 go_wp2_with fail
 refine(side_W (hW.below HB3.out) h).mono ?_;rw [hs];rintro e _ ⟨rfl,rfl⟩
 go_wp2_with fail
 refine(hV _).mono ?_;rintro e w4 ⟨rfl,hb4⟩;have B4:=below_blk hb4 B3;clear aa;have aa:=cells16 B4;have hz4:w.heap.size<w4.heap.size:=by have:=hb4.size;omega
 have HB4:Hid (Below w.heap.size w w4):=HB3.out.trans (hb4.mono (by first | omega | (simp;try omega)));clear hb4 B3 HB3 hz3
 go_wp2_with fail
 refine(vOf_W _).mono ?_;rintro e w5 ⟨rfl,hb5⟩;have B5:=below_blk hb5 B4;clear aa;have aa:=cells16 B5;have hz5:w.heap.size<w5.heap.size:=by have:=hb5.size;omega
 have HB5:Hid (Below w.heap.size w w5):=HB4.out.trans (hb5.mono (by first | omega | (simp;try omega)));clear hb5 B4 HB4 hz4
 go_wp2_with fail
 go_rounds 1
 go_rounds 1
 have hB:=HB5.out;have hZ:w.heap.size≤w5.heap.size:=by omega
 go_ret
 exact⟨rfl,by go_grown⟩
theorem form_13 (hW:IsW w p M F) (h tg:Int) (fu:Bool) (hs:sideB M h=true):Calls Tryz.prog 74 #[.pointer (some ⟨p,0,none⟩),.agg (wr 13 h 0 0 0 0 tg 0 0 fu)] w fun e w'=>e=.returned (.bool true)/\Below w.heap.size w w':=by
 have hV:∀ w:World,Calls Tryz.prog 161 #[.agg #[.int .u8 0,.int .i64 0,.string ⟨#[]⟩,.slice none 0 0,.int .i64 0]] w fun e w'=>e=.returned (.bool true)/\Below w.heap.size w w':=fun w=>vMay_W w 0 0 (.inl ⟨rfl,rfl⟩)
 go_enter Tryz.func74,Tryz.ntmps74
 go_wp2_with fail
 refine(bare_13 _ h 0 0 0 0 tg 0 0 0 ⟨#[]⟩ fu none none none none 0 0 0 0 0 0 0 0).mono ?_;rintro e w1 ⟨rfl,hb1⟩;have B1:=below_blk hb1 (blk_new _ _);have aa:=cells16 B1;have hz1:w.heap.size<w1.heap.size:=by have:=hb1.size;simp at this;omega
 have HB1:Hid (Below w.heap.size w w1):=((Below.refl _ _).alloc (Nat.le_refl _) _).trans (hb1.mono (by simp;try omega));clear hb1
 go_wp2_with fail
 refine(blank0_W _).mono ?_;rintro e w2 ⟨rfl,hb2⟩;have B2:=below_blk hb2 (blk_old _ _ B1);clear aa;have aa:=cells16 B2;have hz2:w.heap.size<w2.heap.size:=by have:=hb2.size;simp at this;omega
 have HB2:Hid (Below w.heap.size w w2):=(HB1.out.alloc (by first | omega | (simp;try omega)) _).trans (hb2.mono (by first | omega | (simp;try omega)));clear hb2 B1 HB1 hz1
 go_wp2_with fail
 refine(blank0_W _).mono ?_;rintro e w3 ⟨rfl,hb3⟩;have B3:=below_blk hb3 B2;clear aa;have aa:=cells16 B3;have hz3:w.heap.size<w3.heap.size:=by have:=hb3.size;omega
 have HB3:Hid (Below w.heap.size w w3):=HB2.out.trans (hb3.mono (by first | omega | (simp;try omega)));clear hb3 B2 HB2 hz2
 go_wp2_with fail
 refine(side_W (hW.below HB3.out) h).mono ?_;rw [hs];rintro e _ ⟨rfl,rfl⟩
 go_wp2_with fail
 refine(hV _).mono ?_;rintro e w4 ⟨rfl,hb4⟩;have B4:=below_blk hb4 B3;clear aa;have aa:=cells16 B4;have hz4:w.heap.size<w4.heap.size:=by have:=hb4.size;omega
 have HB4:Hid (Below w.heap.size w w4):=HB3.out.trans (hb4.mono (by first | omega | (simp;try omega)));clear hb4 B3 HB3 hz3
 go_wp2_with fail
 refine(vOf_W _).mono ?_;rintro e w5 ⟨rfl,hb5⟩;have B5:=below_blk hb5 B4;clear aa;have aa:=cells16 B5;have hz5:w.heap.size<w5.heap.size:=by have:=hb5.size;omega
 have HB5:Hid (Below w.heap.size w w5):=HB4.out.trans (hb5.mono (by first | omega | (simp;try omega)));clear hb5 B4 HB4 hz4
 go_wp2_with fail
 go_rounds 1
 have hB:=HB5.out;have hZ:w.heap.size≤w5.heap.size:=by omega
 go_ret
 exact⟨rfl,by go_grown⟩
theorem form_15 (hW:IsW w p M F) (h tg bi:Int) (hs:sideB M h=true):Calls Tryz.prog 74 #[.pointer (some ⟨p,0,none⟩),.agg (wr 15 h 0 0 0 0 tg bi 0 false)] w fun e w'=>e=.returned (.bool true)/\Below w.heap.size w w':=by
 have hV:∀ w:World,Calls Tryz.prog 161 #[.agg #[.int .u8 0,.int .i64 0,.string ⟨#[]⟩,.slice none 0 0,.int .i64 0]] w fun e w'=>e=.returned (.bool true)/\Below w.heap.size w w':=fun w=>vMay_W w 0 0 (.inl ⟨rfl,rfl⟩)
 go_enter Tryz.func74,Tryz.ntmps74
 go_wp2_with fail
 refine(bare_15 _ h 0 0 0 0 tg bi 0 0 ⟨#[]⟩ false none none none none 0 0 0 0 0 0 0 0).mono ?_;rintro e w1 ⟨rfl,hb1⟩;have B1:=below_blk hb1 (blk_new _ _);have aa:=cells16 B1;have hz1:w.heap.size<w1.heap.size:=by have:=hb1.size;simp at this;omega
 have HB1:Hid (Below w.heap.size w w1):=((Below.refl _ _).alloc (Nat.le_refl _) _).trans (hb1.mono (by simp;try omega));clear hb1
 go_wp2_with fail
 refine(blank0_W _).mono ?_;rintro e w2 ⟨rfl,hb2⟩;have B2:=below_blk hb2 (blk_old _ _ B1);clear aa;have aa:=cells16 B2;have hz2:w.heap.size<w2.heap.size:=by have:=hb2.size;simp at this;omega
 have HB2:Hid (Below w.heap.size w w2):=(HB1.out.alloc (by first | omega | (simp;try omega)) _).trans (hb2.mono (by first | omega | (simp;try omega)));clear hb2 B1 HB1 hz1
 go_wp2_with fail
 refine(blank0_W _).mono ?_;rintro e w3 ⟨rfl,hb3⟩;have B3:=below_blk hb3 B2;clear aa;have aa:=cells16 B3;have hz3:w.heap.size<w3.heap.size:=by have:=hb3.size;omega
 have HB3:Hid (Below w.heap.size w w3):=HB2.out.trans (hb3.mono (by first | omega | (simp;try omega)));clear hb3 B2 HB2 hz2
 go_wp2_with fail
 refine(side_W (hW.below HB3.out) h).mono ?_;rw [hs];rintro e _ ⟨rfl,rfl⟩
 go_wp2_with fail
 refine(hV _).mono ?_;rintro e w4 ⟨rfl,hb4⟩;have B4:=below_blk hb4 B3;clear aa;have aa:=cells16 B4;have hz4:w.heap.size<w4.heap.size:=by have:=hb4.size;omega
 have HB4:Hid (Below w.heap.size w w4):=HB3.out.trans (hb4.mono (by first | omega | (simp;try omega)));clear hb4 B3 HB3 hz3
 go_wp2_with fail
 refine(vOf_W _).mono ?_;rintro e w5 ⟨rfl,hb5⟩;have B5:=below_blk hb5 B4;clear aa;have aa:=cells16 B5;have hz5:w.heap.size<w5.heap.size:=by have:=hb5.size;omega
 have HB5:Hid (Below w.heap.size w w5):=HB4.out.trans (hb5.mono (by first | omega | (simp;try omega)));clear hb5 B4 HB4 hz4
 go_wp2_with fail
 go_rounds 1
 have hB:=HB5.out;have hZ:w.heap.size≤w5.heap.size:=by omega
 go_ret
 exact⟨rfl,by go_grown⟩
theorem form_16 (hW:IsW w p M F) (h tg bi:Int) (hs:sideB M h=true):Calls Tryz.prog 74 #[.pointer (some ⟨p,0,none⟩),.agg (wr 16 h 0 0 0 0 tg bi 0 false)] w fun e w'=>e=.returned (.bool true)/\Below w.heap.size w w':=by
 have hV:∀ w:World,Calls Tryz.prog 161 #[.agg #[.int .u8 0,.int .i64 0,.string ⟨#[]⟩,.slice none 0 0,.int .i64 0]] w fun e w'=>e=.returned (.bool true)/\Below w.heap.size w w':=fun w=>vMay_W w 0 0 (.inl ⟨rfl,rfl⟩)
 go_enter Tryz.func74,Tryz.ntmps74
 go_wp2_with fail
 refine(bare_16 _ h 0 0 0 0 tg bi 0 0 ⟨#[]⟩ false none none none none 0 0 0 0 0 0 0 0).mono ?_;rintro e w1 ⟨rfl,hb1⟩;have B1:=below_blk hb1 (blk_new _ _);have aa:=cells16 B1;have hz1:w.heap.size<w1.heap.size:=by have:=hb1.size;simp at this;omega
 have HB1:Hid (Below w.heap.size w w1):=((Below.refl _ _).alloc (Nat.le_refl _) _).trans (hb1.mono (by simp;try omega));clear hb1
 go_wp2_with fail
 refine(blank0_W _).mono ?_;rintro e w2 ⟨rfl,hb2⟩;have B2:=below_blk hb2 (blk_old _ _ B1);clear aa;have aa:=cells16 B2;have hz2:w.heap.size<w2.heap.size:=by have:=hb2.size;simp at this;omega
 have HB2:Hid (Below w.heap.size w w2):=(HB1.out.alloc (by first | omega | (simp;try omega)) _).trans (hb2.mono (by first | omega | (simp;try omega)));clear hb2 B1 HB1 hz1
 go_wp2_with fail
 refine(blank0_W _).mono ?_;rintro e w3 ⟨rfl,hb3⟩;have B3:=below_blk hb3 B2;clear aa;have aa:=cells16 B3;have hz3:w.heap.size<w3.heap.size:=by have:=hb3.size;omega
 have HB3:Hid (Below w.heap.size w w3):=HB2.out.trans (hb3.mono (by first | omega | (simp;try omega)));clear hb3 B2 HB2 hz2
 go_wp2_with fail
 refine(side_W (hW.below HB3.out) h).mono ?_;rw [hs];rintro e _ ⟨rfl,rfl⟩
 go_wp2_with fail
 refine(hV _).mono ?_;rintro e w4 ⟨rfl,hb4⟩;have B4:=below_blk hb4 B3;clear aa;have aa:=cells16 B4;have hz4:w.heap.size<w4.heap.size:=by have:=hb4.size;omega
 have HB4:Hid (Below w.heap.size w w4):=HB3.out.trans (hb4.mono (by first | omega | (simp;try omega)));clear hb4 B3 HB3 hz3
 go_wp2_with fail
 refine(vOf_W _).mono ?_;rintro e w5 ⟨rfl,hb5⟩;have B5:=below_blk hb5 B4;clear aa;have aa:=cells16 B5;have hz5:w.heap.size<w5.heap.size:=by have:=hb5.size;omega
 have HB5:Hid (Below w.heap.size w w5):=HB4.out.trans (hb5.mono (by first | omega | (simp;try omega)));clear hb5 B4 HB4 hz4
 go_wp2_with fail
 go_rounds 1
 have hB:=HB5.out;have hZ:w.heap.size≤w5.heap.size:=by omega
 go_ret
 exact⟨rfl,by go_grown⟩
end
section
variable {w:World} {p:Nat} {M:WM} {F:Nat->Prop}
theorem MakeIn.light (hW:IsW w p M F) {k h vk vn n l tg bi s:Int} {fu:Bool} (hp:Plain vk vn)
 (hform:∀ w,IsW w p M F->Calls Tryz.prog 74 #[.pointer (some ⟨p,0,none⟩),.agg (wr k h vk vn n l tg bi s fu)] w fun e w'=>e=.returned (.bool true)/\Bl w w')
 (hfits:∀ w,IsW w p M F->Calls Tryz.prog 78 #[.pointer (some ⟨p,0,none⟩),.int .i64 0,.agg (wr k h vk vn n l tg bi s fu)] w fun e w'=>e=.returned (.bool true)/\Bl w w')
 (k14:(k==14)=false) (k13:k=13->tg=0) (tgw:(Lit.int .i64 tg).wf=true) (biw:(Lit.int .i64 bi).wf=true) (home:0≤h/\h<M.made.length)
 (hA:asksOfB k=true->(M.at tg).isSome=true) (hB:asksByB k=true->(M.at bi).isSome=true) (add:M.made.getD h.toNat 0<512->AddOk M (lt k h vk vn n l tg bi s fu)) :
 MakeIn w p M F k h n l tg bi s fu (.int .u8 vk) (.int .i64 vn) (.string ⟨#[]⟩) (.slice none 0 0) (.int .i64 0) (.slice none 0 0) (.slice none 0 0) (.slice none 0 0) (fun t=>t=lt k h vk vn n l tg bi s fu) where
 form w1 hb:=hform w1 (hW.below hb)
 names w1 hb:=names_W w1 _ k h vk vn n l tg bi s fu hp
 fits w1 hb:=hfits w1 (hW.below hb)
 own w1 hb:=(ownWhat_W w1 k h vk vn n l tg bi s fu hp).mono fun e w' h=>⟨_,rfl,h.1,h.2,deep_lt _ _ _ _ _ _ _ _ _ _ _ _⟩
 k14:=k14
 k13:=k13
 tgw:=tgw
 biw:=biw
 home:=home
 hA:=hA
 hB:=hB
 add hr t ht:=by subst ht;exact⟨rfl,rfl,rfl,add hr⟩
def MadeL (w:World) (p:Nat) (M:WM) (F:Nat->Prop) (h:Int) (t:Th) (e:Ending) (w':World):Prop :=
 (M.made.getD h.toNat 0<512/\e=.returned (.tuple #[.int .i64 (M.last+1),.int .i64 0])/\∃ F',IsW w' p (makeM M t) F'/\Grew F w F' w') \/
 (¬ M.made.getD h.toNat 0<512/\e=.returned (.tuple #[.int .i64 0,.int .i64 8])/\Bl w w')
theorem MadeG.light {h:Int} {t:Th} {e:Ending} {w':World} (hm:MadeG w p M F h (fun u=>u=t) e w'):MadeL w p M F h t e w':=by
 rcases hm with ⟨h1,h2,u,F',rfl,h4,h5⟩ | h
 ·exact .inl ⟨h1,h2,F',h4,h5⟩
 ·exact .inr h
theorem plain0:Plain 0 0:=.inl ⟨rfl,rfl⟩
section
variable (hW:IsW w p M F) (hl:M.last+1≤1099511627776) {h:Int} (home:0≤h/\h<M.made.length)
include hW hl home
theorem Make_1 {vk vn:Int} (hp:Plain vk vn):Calls Tryz.prog 14 #[.pointer (some ⟨p,0,none⟩),.agg (wr 1 h vk vn 0 0 0 0 0 false)] w (MadeL w p M F h (lt 1 h vk vn 0 0 0 0 0 false)) :=
 (Make_G hW (MakeIn.light hW hp (fun w hW=>form_1 hW h vk vn (sideB_iff.2 home) hp) (fun w _=>fits_1 w _ 0 h vk vn 0 0 0 0 0 false) rfl (fun e=>absurd e (by decide)) rfl rfl home (fun e=>absurd e (by decide)) (fun e=>absurd e (by decide)) fun hr=>{
  wf:=⟨by show (1:Int)≤1/\(1:Int)≤16;decide,rfl,rfl,by show (0:Int)≤0/\(0:Int)≤255;decide⟩
  last:=hl
  home:=fun _=>home
  made:=fun _=>hr
  wrap:=fun e=>absurd (show wrapsB 1=true from e) (by decide)
  gate:=fun e=>absurd (show (1:Int)=15 from e) (by decide)
  purse:=fun e=>absurd (show (1:Int)=9 from e) (by decide)
  facet:=fun e=>absurd (show (1:Int)=14 from e) (by decide) })).mono fun _ _ h=>h.light
theorem Make_3 {n:Int} (hn:0≤n/\n≤9007199254740992):Calls Tryz.prog 14 #[.pointer (some ⟨p,0,none⟩),.agg (wr 3 h 0 0 n 0 0 0 0 false)] w (MadeL w p M F h (lt 3 h 0 0 n 0 0 0 0 false)) :=
 (Make_G hW (MakeIn.light hW plain0 (fun w hW=>form_3 hW h n (sideB_iff.2 home) hn) (fun w _=>fits_3 w _ 0 h 0 0 n 0 0 0 0 false) rfl (fun e=>absurd e (by decide)) rfl rfl home (fun e=>absurd e (by decide)) (fun e=>absurd e (by decide)) fun hr=>{
  wf:=⟨by show (1:Int)≤3/\(3:Int)≤16;decide,rfl,rfl,by show (0:Int)≤0/\(0:Int)≤255;decide⟩
  last:=hl
  home:=fun _=>home
  made:=fun _=>hr
  wrap:=fun e=>absurd (show wrapsB 3=true from e) (by decide)
  gate:=fun e=>absurd (show (3:Int)=15 from e) (by decide)
  purse:=fun e=>absurd (show (3:Int)=9 from e) (by decide)
  facet:=fun e=>absurd (show (3:Int)=14 from e) (by decide) })).mono fun _ _ h=>h.light
theorem Make_16 {tg bi:Int} {u v:Th} (tgw:(Lit.int .i64 tg).wf=true) (biw:(Lit.int .i64 bi).wf=true) (hu:M.at bi=some u) (hu3:u.kind=3) (huh:u.home=h) (hv:M.at tg=some v):Calls Tryz.prog 14 #[.pointer (some ⟨p,0,none⟩),.agg (wr 16 h 0 0 0 0 tg bi 0 false)] w (MadeL w p M F h (lt 16 h 0 0 0 0 tg bi 0 false)) :=
 (Make_G hW (MakeIn.light hW plain0 (fun w hW=>form_16 hW h tg bi (sideB_iff.2 home)) (fun w hW=>fits_16 hW tgw biw hu hu3 huh hv) rfl (fun e=>absurd e (by decide)) tgw biw home (fun _=>by rw [hv];rfl) (fun _=>by rw [hu];rfl) fun hr=>{
  wf:=⟨by show (1:Int)≤16/\(16:Int)≤16;decide,tgw,biw,by show (0:Int)≤0/\(0:Int)≤255;decide⟩
  last:=hl
  home:=fun _=>home
  made:=fun _=>hr
  wrap:=fun _=>⟨v,hv⟩
  gate:=fun e=>absurd (show (16:Int)=15 from e) (by decide)
  purse:=fun e=>absurd (show (16:Int)=9 from e) (by decide)
  facet:=fun e=>absurd (show (16:Int)=14 from e) (by decide) })).mono fun _ _ h=>h.light
theorem Make_15 {tg bi:Int} {u v:Th} (tgw:(Lit.int .i64 tg).wf=true) (biw:(Lit.int .i64 bi).wf=true) (hu:M.at bi=some u) (hu13:u.kind=13) (huh:u.home=h) (hu0:u.tgt=0) (hv:M.at tg=some v):Calls Tryz.prog 14 #[.pointer (some ⟨p,0,none⟩),.agg (wr 15 h 0 0 0 0 tg bi 0 false)] w (MadeL w p M F h (lt 15 h 0 0 0 0 tg bi 0 false)) :=
 (Make_G hW (MakeIn.light hW plain0 (fun w hW=>form_15 hW h tg bi (sideB_iff.2 home)) (fun w hW=>fits_15 hW tgw biw hu hu13 huh hu0 hv) rfl (fun e=>absurd e (by decide)) tgw biw home (fun _=>by rw [hv];rfl) (fun _=>by rw [hu];rfl) fun hr=>{
  wf:=⟨by show (1:Int)≤15/\(15:Int)≤16;decide,tgw,biw,by show (0:Int)≤0/\(0:Int)≤255;decide⟩
  last:=hl
  home:=fun _=>home
  made:=fun _=>hr
  wrap:=fun _=>⟨v,hv⟩
  gate:=fun _=>⟨u,hu,hu13⟩
  purse:=fun e=>absurd (show (15:Int)=9 from e) (by decide)
  facet:=fun e=>absurd (show (15:Int)=14 from e) (by decide) })).mono fun _ _ h=>h.light
end
end
section
variable {w:World} {p:Nat} {M:WM} {F:Nat->Prop}
theorem Grew.then_keeps {F F':Nat->Prop} {a b c:World} (h:Grew F a F' b) (k:Keeps F' b c):Grew F a F' c:=by
 obtain⟨h1,h2⟩:=h;refine⟨⟨k.os.trans h1.os,k.tape.trans h1.tape,k.output.trans h1.output,Nat.le_trans h1.size k.size,fun x hx hF=>(k.block x (Nat.lt_of_lt_of_le hx h1.size) (fun e=>?_)).trans (h1.block x hx hF)⟩,h2⟩
 rcases h2 x e with h | h
 ·exact hF h
 ·omega
end
end Go.Proofs.YthaliljaglldjaaGreat
