/- Part of the proof. -/
import Derived.Test.YthaliljaglldjaaGreatmBD
import Derived.Defers
namespace Go.Proofs.YthaliljaglldjaaGreat
set_option maxHeartbeats 16000000
set_option maxRecDepth 100000
open Go.RowKit Go.ChangeMaps Go.MapKept
section
def dableF (M:WM):Nat->Int->Int
 | 0,_=>0
 | f+1,r=>match M.at r with
   | none=>0
   | some t=>if t.kind=14 then t.set else if t.kind=15\/t.kind=16 then dableF M f t.tgt else canM t.kind
def DAble (M:WM) (r v:Int):Prop:=∃ f0,∀ f,f0≤f->dableF M f r=v
theorem DAble.none {M:WM} {r v:Int} (h:DAble M r v) (hr:M.at r=none):v=0:=by
 obtain⟨f,h⟩:=h;have:=h (f+1) (by omega)
 simpa [dableF,hr]using this.symm
theorem DAble.facet {M:WM} {r v:Int} {t:Th} (h:DAble M r v) (hr:M.at r=some t) (hk:t.kind=14):v=t.set:=by
 obtain⟨f,h⟩:=h;have:=h (f+1) (by omega)
 simpa [dableF,hr,hk]using this.symm
theorem DAble.wrap {M:WM} {r v:Int} {t:Th} (h:DAble M r v) (hr:M.at r=some t) (hk:t.kind=15\/t.kind=16):DAble M t.tgt v:=by
 obtain⟨f,h⟩:=h;refine⟨f,fun g hg=>?_⟩;have:=h (g+1) (by omega);have h14:t.kind≠14:=by omega
 simpa [dableF,hr,hk,h14]using this
theorem DAble.base {M:WM} {r v:Int} {t:Th} (h:DAble M r v) (hr:M.at r=some t) (h14:¬ t.kind=14) (hk:¬ (t.kind=15\/t.kind=16)):v=canM t.kind:=by
 obtain⟨f,h⟩:=h;have:=h (f+1) (by omega)
 simpa [dableF,hr,hk,h14]using this.symm
theorem DAble.mk_none {M:WM} {r:Int} (hr:M.at r=.none):DAble M r 0:=⟨1,fun f hf=>by obtain⟨g,rfl⟩:∃ g,f=g+1:=⟨f - 1,by omega⟩;simp [dableF,hr]⟩
theorem DAble.mk_facet {M:WM} {r:Int} {t:Th} (hr:M.at r=some t) (hk:t.kind=14):DAble M r t.set:=⟨1,fun f hf=>by obtain⟨g,rfl⟩:∃ g,f=g+1:=⟨f - 1,by omega⟩;simp [dableF,hr,hk]⟩
theorem DAble.mk_wrap {M:WM} {r v:Int} {t:Th} (hr:M.at r=some t) (hk:t.kind=15\/t.kind=16) (h:DAble M t.tgt v):DAble M r v:=by
 obtain⟨f0,h⟩:=h;have h14:t.kind≠14:=by omega
 exact⟨f0+1,fun f hf=>by obtain⟨g,rfl⟩:∃ g,f=g+1:=⟨f - 1,by omega⟩;simp [dableF,hr,hk,h14,h g (by omega)]⟩
theorem DAble.mk_base {M:WM} {r:Int} {t:Th} (hr:M.at r=some t) (h14:¬ t.kind=14) (hk:¬ (t.kind=15\/t.kind=16)):DAble M r (canM t.kind) :=
 ⟨1,fun f hf=>by obtain⟨g,rfl⟩:∃ g,f=g+1:=⟨f - 1,by omega⟩;simp [dableF,hr,hk,h14]⟩
theorem able7_W {w:World} {q:Nat} {N:WM} {G:Nat->Prop} (hR:IsR w q N G) (hN:ROk N) (hok:N.ok) {r v:Int} (hv:DAble N r v) :
 Calls Tryz.prog 52 #[.pointer (some ⟨q,0,none⟩),.int .i64 r] w fun e w'=>e=.returned (.int .u8 v)/\Bl w w':=by
 obtain⟨rk,-,hrk⟩:=hok.wrap;generalize hm:rk r=m
 induction m using Nat.strongRecOn generalizing w r v with
 | ind m ih =>
   subst hm;have HA:=(show Hid _ from at7_W hR hN.len r (fun x hx=>(hN.kd x hx).1));have hone:=hN.one r
   cases ht:N.at r with
   | none =>
     obtain rfl:=hv.none ht;have ha:at7 N r=lt 0 0 0 0 0 0 0 0 0 false:=by unfold at7;rw [ht];rfl
     rw [ha,ht]at HA;rw [ha]at hone;clear hR hv ih hrk ha ht
     go_enter Tryz.func52,Tryz.ntmps52
     go_wp2_with fail
     refine Calls.mono HA.out ?_;rintro e w1 ⟨rfl,hb1⟩;obtain⟨w2,hst,hb2,hg2,-⟩:=boxed_what' w1 (thc (lt 0 0 0 0 0 0 0 0 0 false)) rfl hone;have HB2:=(show Hid (Bl w w2)from hb1.trans (hb2.mono hb1.size));clear hb1 hb2 hg2 hone HA
     go_wp2_with fail
     go_ret
     exact⟨rfl,HB2.out⟩
   | some t =>
     have ha:at7 N r=t:=by unfold at7;rw [ht];rfl
     rw [ha,ht]at HA;rw [ha]at hone;have hkr:=(hok.wf r t ht).kind
     have HW:Hid (t.kind=15\/t.kind=16->∀ w1,Bl w w1->Calls Tryz.prog 52 #[.pointer (some ⟨q,0,none⟩),.int .i64 t.tgt] w1 fun e w'=>e=.returned (.int .u8 v)/\Bl w1 w'):=fun hk w1 hb =>
      ih _ (hrk r t ht (by rcases hk with h | h <;> simp [wrapsB,h])).2 (hR.below hb) (hv.wrap ht hk) rfl
     have HV:Hid (¬ (t.kind=15\/t.kind=16)->v=if t.kind=14 then t.set else canM t.kind):=fun hk=>by
      split
      ·rename_i h14
       exact hv.facet ht h14
      ·rename_i h14
       exact hv.base ht h14 hk
     clear hR hv ih hrk ha ht
     go_enter Tryz.func52,Tryz.ntmps52
     go_wp2_with fail
     refine Calls.mono HA.out ?_;rintro e w1 ⟨rfl,hb1⟩;obtain⟨w2,hst,hb2,hg2,-⟩:=boxed_what' w1 (thc t) rfl hone;have k0:w2.cell? ⟨w1.heap.size,0,none⟩=some (.int .u8 t.kind):=by rw [cell_blk hg2];rfl
     have k10:w2.cell? ⟨w1.heap.size,10,none⟩=some (.int .i64 t.tgt):=by rw [cell_blk hg2];rfl
     have k12:w2.cell? ⟨w1.heap.size,12,none⟩=some (.int .u8 t.set):=by rw [cell_blk hg2];rfl
     have HB2:=(show Hid (Bl w w2)from hb1.trans (hb2.mono hb1.size));clear hb1 hb2 hg2 hone HA;have hks:t.kind=1\/t.kind=2\/t.kind=3\/t.kind=4\/t.kind=5\/t.kind=6\/t.kind=7\/t.kind=8\/t.kind=9\/t.kind=10\/t.kind=11\/t.kind=12\/t.kind=13\/t.kind=14\/t.kind=15\/t.kind=16:=by omega
     generalize t.kind=k at k0 HW HV hks hkr;clear hkr
     by_cases h5:k=15\/k=16
     ·have HC:=(show Hid _ from HW.out h5 w2 HB2.out);clear HW HV hks
      rcases h5 with rfl | rfl
      ·go_wp2_with fail
       refine Calls.mono HC.out ?_;rintro e w3 ⟨rfl,hb3⟩;have HB3:=(show Hid (Bl w w3)from HB2.out.trans (hb3.mono HB2.out.size));clear hb3
       go_wp2_with fail
       go_ret
       exact⟨rfl,HB3.out⟩
      ·go_wp2_with fail
       refine Calls.mono HC.out ?_;rintro e w3 ⟨rfl,hb3⟩;have HB3:=(show Hid (Bl w w3)from HB2.out.trans (hb3.mono HB2.out.size));clear hb3
       go_wp2_with fail
       go_ret
       exact⟨rfl,HB3.out⟩
     ·have hv':=HV.out h5;have HE:Hid (v=if k=14 then t.set else canM k):=hv'
      clear HV HW hv';have hks2:k=1\/k=2\/k=3\/k=4\/k=5\/k=6\/k=7\/k=8\/k=9\/k=10\/k=11\/k=12\/k=13\/k=14:=by omega
      clear hks h5
      rcases hks2 with rfl | rfl | rfl | rfl | rfl | rfl | rfl | rfl | rfl | rfl | rfl | rfl | rfl | rfl
      all_goals
       go_wp2_with fail
       go_ret
       exact⟨by rw [HE.out];rfl,HB2.out⟩
end
section
variable {w:World} {p:Nat} {M:WM} {F:Nat->Prop}
theorem tmay_W (hW:IsW w p M F) {h r:Int} (home:0≤h/\h<M.made.length) (hr:(Lit.int .i64 r).wf=true) {t:Th} (ht:M.at r=some t) :
 Calls Tryz.prog 209 #[.pointer (some ⟨p,0,none⟩),.int .i64 h,.int .i64 r] w fun e w'=>e=.returned (.int .i64 0)/\w=w':=by
 have HS:=(show Hid _ from Sides_W hW);have hI:=Is_W hW hr;rw [ht]at hI;have HI:=(show Hid _ from hI)
 have hne:((M.made.length:Int)==0)=false:=by
  have:=hW.ok.made;exact beq_eq_false_iff_ne.2 (by omega)
 have h1:¬ h<0:=by omega
 have h2:¬ (M.made.length:Int)≤h:=by omega
 clear hW ht hI home
 go_enter Tryz.func209,Tryz.ntmps209
 go_wp2_with fail
 refine Calls.mono HS.out ?_;rintro e _ ⟨rfl,rfl⟩
 go_wp2_with fail
 refine Calls.mono HS.out ?_;rintro e _ ⟨rfl,rfl⟩
 go_wp2_with fail
 refine Calls.mono HI.out ?_;rintro e _ ⟨rfl,rfl⟩
 go_wp2_with fail
 go_ret
 exact⟨rfl,rfl⟩
theorem tmade_W {R:Ending->World->Prop} {k h n tg bi:Int} (hm:∀ w1,Bl w w1->Calls Tryz.prog 14 #[.pointer (some ⟨p,0,none⟩),.agg (wr k h 0 0 n 0 tg bi 0 false)] w1 fun e w'=>∃ a b:Int,e=.returned (.tuple #[.int .i64 a,.int .i64 b])/\R (.returned (.tuple #[.int .i64 a,.int .i64 b])) w') :
 Calls Tryz.prog 211 #[.pointer (some ⟨p,0,none⟩),.agg (wr k h 0 0 n 0 tg bi 0 false)] w fun e w'=>Hid (R e w'):=by
 have HM:=(show Hid _ from hm);clear hm;have B1:=blk_new w (.cells (wr k h 0 0 n 0 tg bi 0 false) 46);have hld:=loadWhat_blk B1 rfl;clear B1
 go_enter Tryz.func211,Tryz.ntmps211
 go_wp2_with fail
 refine Calls.mono (HM.out _ ((Below.refl _ w).alloc (Nat.le_refl _) _)) ?_;rintro e w1 ⟨a,b,rfl,hR⟩;have HR:=(show Hid _ from hR);clear hR hld
 go_wp2_with fail
 go_ret2
 exact HR.out
theorem tMake1_ok (w:World) (u:FrameMode) (b8 b3 b9 b6 b7:Nat) (h:w.cell? ⟨b8,0,none⟩=some (.int .i64 0)) :
 CallsD Tryz.prog 210 #[.pointer (some ⟨b8,0,none⟩),.pointer (some ⟨b3,0,none⟩),.pointer (some ⟨b9,0,none⟩),.pointer (some ⟨b6,0,none⟩),.pointer (some ⟨b7,0,none⟩)] u w fun e u' w'=>u'=u/\e=.returned (.tuple #[])/\w=w':=by
 go_enter_d Tryz.func210,Tryz.ntmps210
 go_wp2
 go_end0
 exact⟨rfl,rfl⟩
theorem Grew.after_below {F F':Nat->Prop} {a b c:World} (h:Bl a b) (k:Grew F b F' c):Grew F a F' c:=by
 refine⟨Below.keeps h k.1,fun x hx=>?_⟩
 rcases k.2 x hx with h' | h'
 ·exact .inl h'
 ·exact .inr (Nat.le_trans h.size h')
def MadeOk (w:World) (p:Nat) (M:WM) (F:Nat->Prop) (t:Th) (e:Ending) (w':World):Prop :=
 e=.returned (.tuple #[.int .i64 (M.last+1),.int .i64 0])/\∃ F',IsW w' p (M.add t) F'/\Grew F w F' w'
abbrev tallyT (h n:Int):Th:=lt 3 h 0 0 n 0 0 0 0 false
abbrev tapT (h r n:Int):Th:=lt 16 h 0 0 0 0 r n 0 false
theorem made_tally (hW:IsW w p M F) (hl:M.last+1≤1099511627776) {h:Int} (home:0≤h/\h<M.made.length) (room:M.made.getD h.toNat 0<512) :
 Calls Tryz.prog 211 #[.pointer (some ⟨p,0,none⟩),.agg (wr 3 h 0 0 0 0 0 0 0 false)] w fun e w'=>Hid (MadeOk w p M F (tallyT h 0) e w') :=
 tmade_W (R:=MadeOk w p M F (tallyT h 0)) fun w1 hb=>(Make_3 (hW.below hb) hl home (n:=0) (by decide)).mono fun e w' hm=>by
  rcases hm with ⟨-,rfl,F',h1,h2⟩ | ⟨hx,-⟩
  ·rw [makeM,if_neg (by simp)]at h1;exact⟨_,_,rfl,rfl,F',h1,h2.after_below hb⟩
  ·exact absurd room hx
theorem made_tap (hW:IsW w p M F) (hl:M.last+1≤1099511627776) {h:Int} (home:0≤h/\h<M.made.length) (room:M.made.getD h.toNat 0<512) {r n c:Int} {v:Th} (hr:M.at r=some v) (hn:M.at n=some (tallyT h c)) :
 Calls Tryz.prog 211 #[.pointer (some ⟨p,0,none⟩),.agg (wr 16 h 0 0 0 0 r n 0 false)] w fun e w'=>Hid (MadeOk w p M F (tapT h r n) e w') :=
 tmade_W (R:=MadeOk w p M F (tapT h r n)) fun w1 hb=>(Make_16 (hW.below hb) hl home (hW.ok.at_wf hr) (hW.ok.at_wf hn) hn rfl rfl hr).mono fun e w' hm=>by
  rcases hm with ⟨-,rfl,F',h1,h2⟩ | ⟨hx,-⟩
  ·rw [makeM,if_neg (by simp)]at h1;exact⟨_,_,rfl,rfl,F',h1,h2.after_below hb⟩
  ·exact absurd room hx
theorem four (w:World) (o1 o2 o3 o4:Obj):Bl w ((((w.alloc o1).alloc o2).alloc o3).alloc o4)/\((((w.alloc o1).alloc o2).alloc o3).alloc o4).heap[w.heap.size]? = some o1/\((((w.alloc o1).alloc o2).alloc o3).alloc o4).heap[w.heap.size+1]? = some o2 /\
 ((((w.alloc o1).alloc o2).alloc o3).alloc o4).heap[w.heap.size+2]? = some o3/\((((w.alloc o1).alloc o2).alloc o3).alloc o4).heap[w.heap.size+3]? = some o4/\((((w.alloc o1).alloc o2).alloc o3).alloc o4).heap.size=w.heap.size+4:=by
 have h3:=blk_new ((w.alloc o1).alloc o2) o3;have h4:=blk_new (((w.alloc o1).alloc o2).alloc o3) o4;simp only [World.size_alloc]at h3 h4;exact⟨((((Below.refl _ w).alloc (Nat.le_refl _) _).alloc (by simp) _).alloc (by simp;omega) _).alloc (by simp;omega) _,blk_old _ _ (blk_old _ _ (blk2_old w o1 o2)),blk_old _ _ (blk_old _ _ (blk2_new w o1 o2)),blk_old _ _ h3,h4,by simp⟩
theorem Grew.trans' {F F' F'':Nat->Prop} {a b c:World} (h:Grew F a F' b) (k:Grew F' b F'' c):Grew F a F'' c:=by
 obtain⟨h1,h2⟩:=h;obtain⟨k1,k2⟩:=k;refine⟨⟨k1.os.trans h1.os,k1.tape.trans h1.tape,k1.output.trans h1.output,Nat.le_trans h1.size k1.size,fun x hx hF=>(k1.block x (Nat.lt_of_lt_of_le hx h1.size) (fun e=>?_)).trans (h1.block x hx hF)⟩,fun x hx=>?_⟩
 ·rcases h2 x e with h | h
  ·exact hF h
  ·omega
 ·rcases k2 x hx with h | h
  ·exact h2 x h
  ·exact .inr (Nat.le_trans h1.size h)
theorem Grew.put {F F':Nat->Prop} {a b:World} (h:Grew F a F' b) (q:Nat) (hq:a.heap.size≤q) (v:Value):Grew F a F' (b.setCell ⟨q,0,none⟩ v) :=
 ⟨⟨h.1.os,h.1.tape,h.1.output,by simpa [World.setCell]using h.1.size,fun x hx hF=>(Below.heap_setCell _ _ _ _ (by show x≠q;omega)).trans (h.1.block x hx hF)⟩,h.2⟩
theorem tMake_W (hW:IsW w p M F) (light:Hid (∀ r t,M.at r=some t->Lite t)) (hl:M.last+2≤1099511627776) {h r:Int} (home:0≤h/\h<M.made.length) (room:M.made.getD h.toNat 0+1<512) {v:Th} (hr:M.at r=some v) :
 Calls Tryz.prog 114 #[.pointer (some ⟨p,0,none⟩),.int .i64 h,.int .i64 r] w fun e w'=>e=.returned (.tuple #[.int .i64 (M.last+2),.int .i64 (M.last+1),.int .i64 0]) /\
  ∃ F',IsW w' p ((M.add (tallyT h 0)).add (tapT h r (M.last+1))) F'/\Grew F w F' w':=by
 have hmf:∀ (fn:Fn) (first cap:Array Value) (w:World),(Instr.makeFunc fn first cap).run Tryz.prog w=.ok (.func fn first cap) w:=fun _ _ _ _=>rfl;have HW:=(show Hid (IsW w p M F)from hW);have Hhome:=(show Hid (0≤h/\h<M.made.length)from home);have Hr:=(show Hid (M.at r=some v)from hr);clear hW home hr
 go_enter_defers Tryz.func114,Tryz.ntmps114
 go_wp2_with fail
 obtain⟨hb4,q3,q6,q7,q8,hs4⟩:=four w (.cells #[.pointer (some ⟨p,0,none⟩)] 31) (.cells #[.int .i64 0] 25) (.cells #[.int .i64 0] 25) (.cells #[.int .i64 0] 32);revert hb4 q3 q6 q7 q8 hs4;generalize (((w.alloc _).alloc _).alloc _).alloc _=w4;intro hb4 q3 q6 q7 q8 hs4;have c3:w4.cell? ⟨w.heap.size,0,none⟩=some (.pointer (some ⟨p,0,none⟩)):=by rw [cell_blk q3];rfl
 have c8:w4.cell? ⟨w.heap.size+3,0,none⟩=some (.int .i64 0):=by rw [cell_blk q8];rfl
 have f8:w4.frozen? ⟨w.heap.size+3,0,none⟩=false:=frozen_blk q8 0;have hsame:w4.setCell ⟨w.heap.size+3,0,none⟩ (.int .i64 0)=w4:=setCell_same q8 rfl;have HQ:=(show Hid _ from And.intro q3 (And.intro q6 (And.intro q7 q8)));have HB4:=(show Hid (Bl w w4/\w4.heap.size=w.heap.size+4)from⟨hb4,hs4⟩);clear q3 q6 q7 q8 hb4 hs4
 go_wp2_with fail
 refine(tmay_W (HW.out.below HB4.out.1) Hhome.out (HW.out.ok.at_wf Hr.out) Hr.out).mono ?_;rintro e _ ⟨rfl,rfl⟩
 go_wp2_with fail
 refine(Copy_W (HW.out.below HB4.out.1) light).mono ?_;rintro e w5 ⟨p',F5,rfl,hW5,hF5,hb5⟩;have hq:=HQ.out;have hb45:∀ b,b<w.heap.size+4->w5.heap[b]? = w4.heap[b]?:=fun b hb=>hb5.block b (by have:=HB4.out.2;omega);have hs5:w.heap.size+4≤w5.heap.size:=by have:=hb5.size;have:=HB4.out.2;omega
 have q9:=blk_new w5 (.cells #[.pointer (some ⟨p',0,none⟩)] 31);have hB6:Bl w5 (w5.alloc (.cells #[.pointer (some ⟨p',0,none⟩)] 31)):=(Below.refl _ _).alloc (Nat.le_refl _) _
 have HQ6:Hid ((w5.alloc (.cells #[.pointer (some ⟨p',0,none⟩)] 31)).heap[w.heap.size]? = some (.cells #[.pointer (some ⟨p,0,none⟩)] 31 (0,0))/\(w5.alloc (.cells #[.pointer (some ⟨p',0,none⟩)] 31)).heap[w.heap.size+1]? = some (.cells #[.int .i64 0] 25 (0,0)) /\
  (w5.alloc (.cells #[.pointer (some ⟨p',0,none⟩)] 31)).heap[w.heap.size+2]? = some (.cells #[.int .i64 0] 25 (0,0))/\(w5.alloc (.cells #[.pointer (some ⟨p',0,none⟩)] 31)).heap[w.heap.size+3]? = some (.cells #[.int .i64 0] 32 (0,0)) /\
  (w5.alloc (.cells #[.pointer (some ⟨p',0,none⟩)] 31)).heap[w5.heap.size]? = some (.cells #[.pointer (some ⟨p',0,none⟩)] 31 (0,0))) :=
  ⟨(hB6.block _ (by omega)).trans ((hb45 _ (by omega)).trans hq.1),(hB6.block _ (by omega)).trans ((hb45 _ (by omega)).trans hq.2.1),(hB6.block _ (by omega)).trans ((hb45 _ (by omega)).trans hq.2.2.1),(hB6.block _ (by omega)).trans ((hb45 _ (by omega)).trans hq.2.2.2),q9⟩
 have HB6:Hid (Bl w (w5.alloc (.cells #[.pointer (some ⟨p',0,none⟩)] 31))/\w.heap.size+4≤w5.heap.size/\w5.heap.size<(w5.alloc (.cells #[.pointer (some ⟨p',0,none⟩)] 31)).heap.size) :=
  ⟨(HB4.out.1.trans (hb5.mono HB4.out.1.size)).trans (hB6.mono (by omega)),hs5,by simp⟩
 clear hq hb45 hs5 q9 hB6 hb5 hW5 hF5 c3 c8 f8 hsame HQ HB4
 go_upto_region 6 with fail
 revert HQ6 HB6;generalize w5.alloc _=w6;generalize w5.heap.size=b9;intro HQ6 HB6;clear w5;have c3:w6.cell? ⟨w.heap.size,0,none⟩=some (.pointer (some ⟨p,0,none⟩)):=by rw [cell_blk HQ6.out.1];rfl
 have hmt:=made_tally (HW.out.below HB6.out.1) (by omega) Hhome.out (by omega);have HMT:=(show Hid _ from hmt);clear hmt
 go_wp2_with fail
 refine Calls.mono HMT.out ?_;rintro e w7 HM7;obtain⟨rfl,F7,hW7,hg7⟩:=HM7.out;have hq:=HQ6.out;have hb:=HB6.out;have hlt:∀ b,F b->b<w.heap.size:=HW.out.lt
 have hn7:∀ b,w.heap.size≤b->b<w6.heap.size->¬ F7 b:=fun b h1 h2 e=>by
  rcases hg7.2 b e with h | h
  ·have:=hlt b h;omega
  ·omega
 have hk7:∀ b,w.heap.size≤b->b<w6.heap.size->w7.heap[b]? = w6.heap[b]?:=fun b h1 h2=>hg7.1.block b h2 (fun e=>by have:=hlt b e;omega);have r3:=(hk7 _ (Nat.le_refl _) (by omega)).trans hq.1;have r6:=(hk7 _ (by omega) (by omega)).trans hq.2.1;have r7:=(hk7 _ (by omega) (by omega)).trans hq.2.2.1;have r8:=(hk7 _ (by omega) (by omega)).trans hq.2.2.2.1;have r9:=(hk7 _ (by omega) (by omega)).trans hq.2.2.2.2;have f7:w7.frozen? ⟨w.heap.size+2,0,none⟩=false:=frozen_blk r7 0;have c7':w7.cell? ⟨w.heap.size+2,0,none⟩=some (.int .i64 0):=by rw [cell_blk r7];rfl
 have s3:=blk_other r3 ⟨w.heap.size+2,0,none⟩ (.int .i64 (M.last+1)) (by show w.heap.size≠w.heap.size+2;omega);have s6:=blk_other r6 ⟨w.heap.size+2,0,none⟩ (.int .i64 (M.last+1)) (by show w.heap.size+1≠w.heap.size+2;omega);have s7:=blk_setCell r7 0 (.int .i64 (M.last+1));have s8:=blk_other r8 ⟨w.heap.size+2,0,none⟩ (.int .i64 (M.last+1)) (by show w.heap.size+3≠w.heap.size+2;omega);have s9:=blk_other r9 ⟨w.heap.size+2,0,none⟩ (.int .i64 (M.last+1)) (by show b9≠w.heap.size+2;omega);have e8:(w7.setCell ⟨w.heap.size+2,0,none⟩ (.int .i64 (M.last+1))).setCell ⟨w.heap.size+3,0,none⟩ (.int .i64 0)=w7.setCell ⟨w.heap.size+2,0,none⟩ (.int .i64 (M.last+1)):=setCell_same s8 rfl;have g8:(w7.setCell ⟨w.heap.size+2,0,none⟩ (.int .i64 (M.last+1))).frozen? ⟨w.heap.size+3,0,none⟩=false:=frozen_blk s8 0;have c8':(w7.setCell ⟨w.heap.size+2,0,none⟩ (.int .i64 (M.last+1))).cell? ⟨w.heap.size+3,0,none⟩=some (.int .i64 0):=by rw [cell_blk s8];rfl
 have HW8:Hid (IsW (w7.setCell ⟨w.heap.size+2,0,none⟩ (.int .i64 (M.last+1))) p (M.add (tallyT h 0)) F7/\Grew F w F7 (w7.setCell ⟨w.heap.size+2,0,none⟩ (.int .i64 (M.last+1)))) :=
  ⟨hW7.keeps (Keeps.setCell (S:=fun b=>b=w.heap.size+2) w7 _ _ rfl) (fun b hb' e=>hn7 b (by omega) (by omega) hb'),(hg7.after_below HB6.out.1).put _ (by omega) _⟩
 have HQ8:=(show Hid _ from And.intro s3 (And.intro s6 (And.intro s7 (And.intro s8 s9))))
 have HN8:Hid (w.heap.size+4≤b9/\b9<(w7.setCell ⟨w.heap.size+2,0,none⟩ (.int .i64 (M.last+1))).heap.size/\∀ b,w.heap.size≤b->b≤b9->¬ F7 b) :=
  ⟨hb.2.1,by have:=blk_lt s9;simpa [World.setCell]using this,fun b h1 h2=>hn7 b h1 (by omega)⟩
 clear hq hb hlt hn7 hk7 r3 r6 r7 r8 r9 s3 s6 s7 s8 s9 hW7 hg7 HM7 HMT c3 HQ6 HB6
 go_upto_region 7 with fail
 clear f7 c7' e8 g8 c8';revert HW8 HQ8 HN8;generalize w7.setCell _ _=w8;intro HW8 HQ8 HN8;clear w7 w6;have c3:w8.cell? ⟨w.heap.size,0,none⟩=some (.pointer (some ⟨p,0,none⟩)):=by rw [cell_blk HQ8.out.1];rfl
 have c7:w8.cell? ⟨w.heap.size+2,0,none⟩=some (.int .i64 (M.last+1)):=by rw [cell_blk HQ8.out.2.2.1];rfl
 have c8:w8.cell? ⟨w.heap.size+3,0,none⟩=some (.int .i64 0):=by rw [cell_blk HQ8.out.2.2.2.1];rfl
 have hok:=HW.out.ok
 have hmade:(M.add (tallyT h 0)).made.getD h.toNat 0=M.made.getD h.toNat 0+1/\(M.add (tallyT h 0)).made.length=M.made.length:=by
  have e:(M.add (tallyT h 0)).made=M.made.set h.toNat (M.made.getD h.toNat 0+1):=if_neg (t:=M.made) (show ¬ ((3:Int)=14) by decide);have:=Hhome.out;rw [e];refine⟨?_,by simp⟩;rw [List.getD_eq_getElem?_getD,List.getElem?_set_self (by omega)];rfl
 have hmt:=made_tap HW8.out.1 (h:=h) (r:=r) (n:=M.last+1) (c:=0) (show M.last+1+1≤_ by omega) (by rw [hmade.2];exact Hhome.out) (by rw [hmade.1];exact room) (WM.add_at_old hok _ Hr.out) (WM.add_at_new hok _);have HMT:=(show Hid _ from hmt);clear hmt hok hmade
 go_wp2_with fail
 refine Calls.mono HMT.out ?_;rintro e w9 HM9;obtain⟨rfl,F9,hW9,hg9⟩:=HM9.out;rw [show (M.add (tallyT h 0)).last+1=M.last+2 by show M.last+1+1=_;omega];have hq:=HQ8.out;have hb:=HN8.out;have hk9:∀ b,w.heap.size≤b->b≤b9->w9.heap[b]? = w8.heap[b]?:=fun b h1 h2=>hg9.1.block b (by omega) (hb.2.2 b h1 h2)
 have hn9:∀ b,w.heap.size≤b->b≤b9->¬ F9 b:=fun b h1 h2 e=>by
  rcases hg9.2 b e with h | h
  ·exact hb.2.2 b h1 h2 h
  ·omega
 have r3:=(hk9 _ (Nat.le_refl _) (by omega)).trans hq.1;have r6:=(hk9 _ (by omega) (by omega)).trans hq.2.1;have r7:=(hk9 _ (by omega) (by omega)).trans hq.2.2.1;have r8:=(hk9 _ (by omega) (by omega)).trans hq.2.2.2.1;have f6:w9.frozen? ⟨w.heap.size+1,0,none⟩=false:=frozen_blk r6 0;have c6':w9.cell? ⟨w.heap.size+1,0,none⟩=some (.int .i64 0):=by rw [cell_blk r6];rfl
 have s6:=blk_setCell r6 0 (.int .i64 (M.last+2));have s7:=blk_other r7 ⟨w.heap.size+1,0,none⟩ (.int .i64 (M.last+2)) (by show w.heap.size+2≠w.heap.size+1;omega);have s8:=blk_other r8 ⟨w.heap.size+1,0,none⟩ (.int .i64 (M.last+2)) (by show w.heap.size+3≠w.heap.size+1;omega);have e8:(w9.setCell ⟨w.heap.size+1,0,none⟩ (.int .i64 (M.last+2))).setCell ⟨w.heap.size+3,0,none⟩ (.int .i64 0)=w9.setCell ⟨w.heap.size+1,0,none⟩ (.int .i64 (M.last+2)):=setCell_same s8 rfl;have g8:(w9.setCell ⟨w.heap.size+1,0,none⟩ (.int .i64 (M.last+2))).frozen? ⟨w.heap.size+3,0,none⟩=false:=frozen_blk s8 0;have c8':(w9.setCell ⟨w.heap.size+1,0,none⟩ (.int .i64 (M.last+2))).cell? ⟨w.heap.size+3,0,none⟩=some (.int .i64 0):=by rw [cell_blk s8];rfl
 have HW10:Hid (IsW (w9.setCell ⟨w.heap.size+1,0,none⟩ (.int .i64 (M.last+2))) p ((M.add (tallyT h 0)).add (tapT h r (M.last+1))) F9/\Grew F w F9 (w9.setCell ⟨w.heap.size+1,0,none⟩ (.int .i64 (M.last+2)))) :=
  ⟨hW9.keeps (Keeps.setCell (S:=fun b=>b=w.heap.size+1) w9 _ _ rfl) (fun b hb' e=>hn9 b (by omega) (by omega) hb'),(HW8.out.2.trans' hg9).put _ (by omega) _⟩
 have HQ10:=(show Hid _ from And.intro s6 (And.intro s7 s8));clear hq hb hk9 hn9 r3 r6 r7 r8 s6 s7 s8 hW9 hg9 HM9 HMT c3 c7 c8 HQ8 HN8 HW8
 go_wp2_with fail
 revert HW10 HQ10 c8';clear f6 c6' e8 g8;generalize w9.setCell _ _=w10;intro c8' HW10 HQ10;refine leaves_cons (f:=210) (args:=#[.pointer (some ⟨w.heap.size+3,0,none⟩),.pointer (some ⟨w.heap.size,0,none⟩),.pointer (some ⟨b9,0,none⟩),.pointer (some ⟨w.heap.size+1,0,none⟩),.pointer (some ⟨w.heap.size+2,0,none⟩)]) (by simp) (by simp [go_sem]) ?_;refine(tMake1_ok w10 .returning (w.heap.size+3) w.heap.size b9 (w.heap.size+1) (w.heap.size+2) c8').mono ?_;rintro e u' _ ⟨rfl,rfl,rfl⟩;have c6:w10.cell? ⟨w.heap.size+1,0,none⟩=some (.int .i64 (M.last+2)):=by rw [cell_blk HQ10.out.1];rfl
 have c7:w10.cell? ⟨w.heap.size+2,0,none⟩=some (.int .i64 (M.last+1)):=by rw [cell_blk HQ10.out.2.1];rfl
 refine⟨.tuple #[.int .i64 (M.last+2),.int .i64 (M.last+1),.int .i64 0],?_,rfl,F9,HW10.out.1,HW10.out.2⟩;simp [results,Tryz.f114,go_sem,c6,c7,c8']
end
section
variable {w:World} {p:Nat} {M:WM} {F:Nat->Prop}
theorem Tally_tap (hW:IsW w p M F) {r h tg n:Int} (ht:M.at r=some (tapT h tg n)) :
 Calls Tryz.prog 125 #[.pointer (some ⟨p,0,none⟩),.int .i64 r] w fun e w'=>e=.returned (.tuple #[.int .i64 n,.int .i64 0])/\Bl w w':=by
 have HQ:=(show Hid _ from What_lt hW (hW.ok.at_wf ht) ht plain0);clear hW ht
 go_enter Tryz.func125,Tryz.ntmps125
 go_wp2_with fail
 refine Calls.mono HQ.out ?_;rintro e w1 ⟨rfl,hb1⟩;obtain⟨w2,hst,hb2,hg2⟩:=box_what w1 (wr 16 h 0 0 0 0 tg n 0 false) rfl (by simp [go_sem]);have HB2:=(show Hid (Bl w w2)from hb1.trans (hb2.mono hb1.size));have c0:w2.cell? ⟨w1.heap.size,0,none⟩=some (.int .u8 16):=by rw [cell_blk hg2];rfl
 have c11:w2.cell? ⟨w1.heap.size,11,none⟩=some (.int .i64 n):=by rw [cell_blk hg2];rfl
 clear hb1 hb2 hg2
 go_wp2_with fail
 go_ret2
 exact⟨rfl,HB2.out⟩
theorem Tally_not (hW:IsW w p M F) {r k h vk vn n l tg bi s:Int} {fu:Bool} (ht:M.at r=some (lt k h vk vn n l tg bi s fu)) (hp:Plain vk vn) (hk:k≠16) :
 Calls Tryz.prog 125 #[.pointer (some ⟨p,0,none⟩),.int .i64 r] w fun e w'=>e=.returned (.tuple #[.int .i64 0,.int .i64 130])/\Bl w w':=by
 have HQ:=(show Hid _ from What_lt hW (hW.ok.at_wf ht) ht hp);have hk2:(k != 16)=true:=by simpa using hk
 clear hW ht hk
 go_enter Tryz.func125,Tryz.ntmps125
 go_wp2_with fail
 refine Calls.mono HQ.out ?_;rintro e w1 ⟨rfl,hb1⟩;obtain⟨w2,hst,hb2,hg2⟩:=box_what w1 (wr k h vk vn n l tg bi s fu) rfl (by simp [go_sem]);have HB2:=(show Hid (Bl w w2)from hb1.trans (hb2.mono hb1.size));have c0:w2.cell? ⟨w1.heap.size,0,none⟩=some (.int .u8 k):=by rw [cell_blk hg2];rfl
 clear hb1 hb2 hg2
 go_wp2_with fail
 go_ret2
 exact⟨rfl,HB2.out⟩
theorem Count_tap (hW:IsW w p M F) {r h tg n h' c:Int} (ht:M.at r=some (tapT h tg n)) (hn:M.at n=some (tallyT h' c)) :
 Calls Tryz.prog 116 #[.pointer (some ⟨p,0,none⟩),.int .i64 r] w fun e w'=>e=.returned (.tuple #[.int .i64 c,.int .i64 0])/\Bl w w':=by
 have HT:=(show Hid _ from Tally_tap hW ht);have HQ:Hid (∀ w1,Bl w w1->Calls Tryz.prog 137 #[.pointer (some ⟨p,0,none⟩),.int .i64 n] w1 fun e w'=>e=.returned (.tuple #[.agg (wr 3 h' 0 0 c 0 0 0 0 false),.int .i64 0])/\Bl w1 w'):=fun w1 hb=>What_lt (hW.below hb) (hW.ok.at_wf hn) hn plain0;clear hW ht hn
 go_enter Tryz.func116,Tryz.ntmps116
 go_wp2_with fail
 refine Calls.mono HT.out ?_;rintro e w1 ⟨rfl,hb1⟩;have HB1:=(show Hid (Bl w w1)from hb1);clear hb1
 go_wp2_with fail
 refine Calls.mono (HQ.out w1 HB1.out) ?_;rintro e w2 ⟨rfl,hb2⟩;obtain⟨w3,hst,hb3,hg3⟩:=box_what w2 (wr 3 h' 0 0 c 0 0 0 0 false) rfl (by simp [go_sem]);have HB3:=(show Hid (Bl w w3)from HB1.out.trans ((hb2.trans (hb3.mono hb2.size)).mono HB1.out.size));have c8:w3.cell? ⟨w2.heap.size,8,none⟩=some (.int .i64 c):=by rw [cell_blk hg3];rfl
 clear hb2 hb3 hg3
 go_wp2_with fail
 go_ret2
 exact⟨rfl,HB3.out⟩
theorem Count_not (hW:IsW w p M F) {r k h vk vn n l tg bi s:Int} {fu:Bool} (ht:M.at r=some (lt k h vk vn n l tg bi s fu)) (hp:Plain vk vn) (hk:k≠16) :
 Calls Tryz.prog 116 #[.pointer (some ⟨p,0,none⟩),.int .i64 r] w fun e w'=>e=.returned (.tuple #[.int .i64 0,.int .i64 130])/\Bl w w':=by
 have HT:=(show Hid _ from Tally_not hW ht hp hk);clear hW ht hk
 go_enter Tryz.func116,Tryz.ntmps116
 go_wp2_with fail
 refine Calls.mono HT.out ?_;rintro e w1 ⟨rfl,hb1⟩;have HB1:=(show Hid (Bl w w1)from hb1);clear hb1
 go_wp2_with fail
 go_ret2
 exact⟨rfl,HB1.out⟩
def up (c:Int):Int:=min (c+1) 9007199254740992
theorem count_W (hW:IsW w p M F) {r h tg n h' c:Int} (ht:M.at r=some (tapT h tg n)) (hn:M.at n=some (tallyT h' c)) (home:0≤h'/\h'<M.made.length) (hc:0≤c/\c≤9007199254740992) :
 Calls Tryz.prog 213 #[.agg #[.pointer (some ⟨p,0,none⟩)],.int .i64 r] w fun e w'=>e=.returned (.tuple #[])/\IsW w' p (M.set n (tallyT h' (up c))) F/\Keeps F w w':=by
 have HQ:Hid (∀ w1,Bl w w1->Calls Tryz.prog 137 #[.pointer (some ⟨p,0,none⟩),.int .i64 r] w1 fun e w'=>e=.returned (.tuple #[.agg (wr 16 h 0 0 0 0 tg n 0 false),.int .i64 0])/\Bl w1 w'):=fun w1 hb=>What_lt (hW.below hb) (hW.ok.at_wf ht) ht plain0;have HQ2:Hid (∀ w1,Bl w w1->Calls Tryz.prog 137 #[.pointer (some ⟨p,0,none⟩),.int .i64 n] w1 fun e w'=>e=.returned (.tuple #[.agg (wr 3 h' 0 0 c 0 0 0 0 false),.int .i64 0])/\Bl w1 w'):=fun w1 hb=>What_lt (hW.below hb) (hW.ok.at_wf hn) hn plain0;have HW:=(show Hid (IsW w p M F)from hW);have Hn:=(show Hid (M.at n=some _)from hn);have Hhome:=(show Hid (0≤h'/\h'<M.made.length)from home);obtain⟨hc0,hc1⟩:=hc;clear hW ht hn home
 go_enter Tryz.func213,Tryz.ntmps213
 go_wp2_with fail
 refine Calls.mono (HQ.out _ ((Below.refl _ w).alloc (Nat.le_refl _) _)) ?_;rintro e w1 ⟨rfl,hb1⟩;have hw1:=below_blk hb1 (blk_new w (.cells #[.pointer (some ⟨p,0,none⟩)] 265));have hB1:Bl w w1:=((Below.refl _ w).alloc (Nat.le_refl _) _).trans (hb1.mono (by simp));obtain⟨w2,hst,hb2,hg2⟩:=box_what w1 (wr 16 h 0 0 0 0 tg n 0 false) rfl (by simp [go_sem]);have hw2:=below_blk hb2 hw1;have HB2:=(show Hid (Bl w w2)from hB1.trans (hb2.mono hB1.size));have c0:w2.cell? ⟨w.heap.size,0,none⟩=some (.pointer (some ⟨p,0,none⟩)):=by rw [cell_blk hw2];rfl
 have c11:w2.cell? ⟨w1.heap.size,11,none⟩=some (.int .i64 n):=by rw [cell_blk hg2];rfl
 have HG2:=(show Hid _ from And.intro hw2 hg2);have Hlt1:=(show Hid (w.heap.size<w1.heap.size)from blk_lt hw1);clear hb1 hw1 hB1 hb2 hg2 hw2
 go_wp2_with fail
 clear hst;refine Calls.mono (HQ2.out w2 HB2.out) ?_;rintro e w3 ⟨rfl,hb3⟩;obtain⟨w4,hst,hb4,hg4⟩:=box_what w3 (wr 3 h' 0 0 c 0 0 0 0 false) rfl (by simp [go_sem]);have hb24:Bl w2 w4:=hb3.trans (hb4.mono hb3.size);have hw4:=below_blk hb24 HG2.out.1;have hu4:=below_blk hb24 HG2.out.2;have HB4:=(show Hid (Bl w w4)from HB2.out.trans (hb24.mono HB2.out.size));have hne1:w.heap.size≠w3.heap.size:=by have:=blk_lt HG2.out.1;have:=hb3.size;omega
 have hne2:w1.heap.size≠w3.heap.size:=by have:=blk_lt HG2.out.2;have:=hb3.size;omega
 have hge:w.heap.size≤w3.heap.size:=Nat.le_trans HB2.out.size hb3.size;have c8:w4.cell? ⟨w3.heap.size,8,none⟩=some (.int .i64 c):=by rw [cell_blk hg4];rfl
 have f8:w4.frozen? ⟨w3.heap.size,8,none⟩=false:=frozen_blk hg4 8
 have HS:Hid ((w4.setCell ⟨w3.heap.size,8,none⟩ (.int .i64 (min (c+1) 9007199254740992))).heap[w.heap.size]? = some (.cells #[.pointer (some ⟨p,0,none⟩)] 265 (0,0)) /\
  (w4.setCell ⟨w3.heap.size,8,none⟩ (.int .i64 (min (c+1) 9007199254740992))).heap[w1.heap.size]? = some (.cells (wr 16 h 0 0 0 0 tg n 0 false) 46 (0,0)) /\
  (w4.setCell ⟨w3.heap.size,8,none⟩ (.int .i64 (min (c+1) 9007199254740992))).heap[w3.heap.size]? = some (.cells #[.int .u8 3,.int .i64 h',.int .u8 0,.int .i64 0,.string ⟨#[]⟩,.slice none 0 0,.int .i64 0,.slice none 0 0,.int .i64 (min (c+1) 9007199254740992),.int .i64 0,.int .i64 0,.int .i64 0,.int .u8 0,.bool false,.slice none 0 0,.slice none 0 0] 46 (0,0)) /\
  Bl w (w4.setCell ⟨w3.heap.size,8,none⟩ (.int .i64 (min (c+1) 9007199254740992)))) :=
  ⟨blk_other hw4 ⟨w3.heap.size,8,none⟩ _ hne1,blk_other hu4 ⟨w3.heap.size,8,none⟩ _ hne2,blk_setCell hg4 8 _,HB4.out.setCell (p:=⟨w3.heap.size,8,none⟩) hge _⟩
 clear hb3 hb4 hg4 hb24 hw4 hu4 hne1 hne2 hge c0 c11 HG2 HQ HQ2
 go_upto_region 4 with fail
 clear hst c8 f8;revert HS;generalize w4.setCell _ _=w5;intro HS;have d0:w5.cell? ⟨w.heap.size,0,none⟩=some (.pointer (some ⟨p,0,none⟩)):=by rw [cell_blk HS.out.1];rfl
 have d11:w5.cell? ⟨w1.heap.size,11,none⟩=some (.int .i64 n):=by rw [cell_blk HS.out.2.1];rfl
 have hld:=loadWhat_blk HS.out.2.2.1 rfl;have hW5:=HW.out.below HS.out.2.2.2;have hlay:=Lay_lt hW5 (r:=n) (n':=min (c+1) 9007199254740992) (vk':=0) (vn':=0) (l':=0) (fu':=false) (HW.out.ok.at_wf Hn.out) Hn.out plain0 (fun w hW=>form_3 hW h' (min (c+1) 9007199254740992) (sideB_iff.2 Hhome.out) (by omega));have HLAY:=(show Hid _ from hlay);clear hlay hW5
 go_wp2_with fail
 refine Calls.mono HLAY.out ?_;rintro e w6 ⟨rfl,hW6,hk6⟩;have HF6:Hid (IsW w6 p (M.set n (tallyT h' (up c))) F/\Keeps F w w6):=⟨hW6,Below.keeps HS.out.2.2.2 hk6⟩;clear hW6 hk6 hld d0 d11 HLAY HS
 go_wp2_with fail
 go_end0
 exact⟨rfl,HF6.out.1,HF6.out.2⟩
end
section
def TW (M:WM):Prop:=∀ r t,M.at r=some t->t.kind=16->∃ h tg n h' c,t=tapT h tg n/\M.at n=some (tallyT h' c)/\(0≤h'/\h'<M.made.length)/\0≤c/\c≤9007199254740992
def WM.cnt (M:WM) (q:Int):WM :=
 match M.at q with
 | some t=>if t.kind=16 then (match M.at t.bi with | some u=>M.set t.bi { u with n:=up u.n } | none=>M)else M
 | none=>M
def WM.pass (M:WM) (l:List Int):WM:=l.foldl WM.cnt M
theorem WM.pass_snoc (M:WM) (l:List Int) (q:Int):M.pass (l ++ [q])=(M.pass l).cnt q:=by simp [WM.pass]
section
variable {M:WM}
theorem cnt_tap {q h tg n h' c:Int} (ht:M.at q=some (tapT h tg n)) (hn:M.at n=some (tallyT h' c)):M.cnt q=M.set n (tallyT h' (up c)):=by
 unfold WM.cnt;rw [ht];simp only [if_true];rw [hn]
theorem cnt_not {q:Int} {t:Th} (ht:M.at q=some t) (hk:t.kind≠16):M.cnt q=M:=by
 unfold WM.cnt;rw [ht];simp only [hk,if_false]
theorem up_range {c:Int} (h:0≤c/\c≤9007199254740992):0≤up c/\up c≤9007199254740992:=by
 unfold up;omega
theorem cnt_at (hT:TW M) {q r:Int} {t u:Th} (hq:M.at q=some u) (ht:M.at r=some t):∃ t',(M.cnt q).at r=some t'/\t'.kind=t.kind/\(t.kind≠3->t'=t)/\(t.kind=3->∀ h' c,t=tallyT h' c->∃ c',t'=tallyT h' c'/\(c'=c\/c'=up c)):=by
 by_cases hk:u.kind=16
 ·obtain⟨h,tg,n,h',c,rfl,hn,-,hc⟩:=hT q u hq hk;rw [cnt_tap hq hn]
  by_cases e:r=n
  ·subst e;rw [hn]at ht
   cases ht
   exact⟨_,WM.set_at_self _ hn,rfl,(fun h=>absurd rfl h),fun _ h1 c1 e1=>by cases e1;exact⟨_,rfl,.inr rfl⟩⟩
  ·exact⟨t,by rw [WM.set_at_ne _ _ e];exact ht,rfl,fun _=>rfl,fun _ h1 c1 e1=>⟨c1,e1,.inl rfl⟩⟩
 ·rw [cnt_not hq hk];exact⟨t,ht,rfl,fun _=>rfl,fun _ h1 c1 e1=>⟨c1,e1,.inl rfl⟩⟩
theorem TW.cnt (hT:TW M) {q:Int} {u:Th} (hq:M.at q=some u):TW (M.cnt q):=by
 by_cases hk:u.kind=16
 ·obtain⟨h,tg,n,h',c,rfl,hn,hh,hc⟩:=hT q u hq hk;rw [cnt_tap hq hn];intro r t ht htk
  have hrn:r≠n:=fun e=>by
   subst e;rw [WM.set_at_self _ hn]at ht
   cases ht
   cases htk
  rw [WM.set_at_ne _ _ hrn]at ht;obtain⟨h1,tg1,n1,h1',c1,rfl,hn1,hh1,hc1⟩:=hT r t ht htk
  by_cases e:n1=n
  ·subst e;rw [hn]at hn1
   cases hn1
   exact⟨h1,tg1,n1,h',_,rfl,WM.set_at_self _ hn,hh,up_range hc⟩
  ·exact⟨h1,tg1,n1,h1',c1,rfl,by rw [WM.set_at_ne _ _ e];exact hn1,hh1,hc1⟩
 ·rw [cnt_not hq hk];exact hT
theorem pass_keeps:∀ (l:List Int) {M:WM},TW M->(∀ q ∈ l,∃ t,M.at q=some t)->TW (M.pass l)/\∀ r t,M.at r=some t->∃ t',(M.pass l).at r=some t'/\t'.kind=t.kind/\(t.kind≠3->t'=t)
 | [],_,hT,_=>⟨hT,fun _ t ht=>⟨t,ht,rfl,fun _=>rfl⟩⟩
 | q :: l,M,hT,h=>by
   obtain⟨tq,hq⟩:=h q (by simp)
   obtain⟨h1,h2⟩:=pass_keeps l (hT.cnt hq) fun x hx=>by
    obtain⟨tx,hx⟩:=h x (by simp [hx]);obtain⟨t',h3,-⟩:=cnt_at hT hq hx;exact⟨t',h3⟩
   refine⟨h1,fun r t ht=>?_⟩;obtain⟨t1,a1,a2,a3,-⟩:=cnt_at hT hq ht;obtain⟨t2,b1,b2,b3⟩:=h2 r t1 a1;exact⟨t2,b1,b2.trans a2,fun hk=>(b3 (by rw [a2];exact hk)).trans (a3 hk)⟩
theorem way_mem:∀ (l:List Int) (r:Int),WayIs M r l->∀ q ∈ l,∃ t,M.at q=some t:=by
 intro l
 induction l with
 | nil=>intro r _ q hq;cases hq
 | cons x l ih =>
   intro r h q hq
   cases hr:M.at r with
   | none=>cases h.none hr
   | some t =>
     cases hk:wrapsB t.kind with
     | true =>
       obtain⟨l',e,h'⟩:=h.wrap hr hk
       cases e
       rcases List.mem_cons.1 hq with rfl | hq
       ·exact⟨t,hr⟩
       ·exact ih _ h' q hq
     | false =>
       have e:=h.base hr hk
       cases e
       rcases List.mem_cons.1 hq with rfl | hq
       ·exact⟨t,hr⟩
       ·cases hq
end
theorem meas_up {k n:Nat} (h:k<n):n - (intOf (.int .i64 ((k:Int)+1))).toNat<n - (intOf (.int .i64 (k:Int))).toNat:=by
 simp only [intOf];omega
theorem way_cells {W:World} {base n:Nat} {e:TypeId} {v:Value} {xs:List Value} (h:W.ownsRow base e 1 v n xs) :
 ∃ a cap,v=.slice a n cap/\∀ k,k<n->∃ g,a=some ⟨g,0,none⟩/\base≤g/\g<W.heap.size/\W.cell? ⟨g,k,none⟩=xs[k]?:=by
 rcases h.2 with ⟨rfl,h0⟩ | ⟨g,cap,cur,rfl,h1,h2,-⟩
 ·subst h0;exact⟨none,0,rfl,fun k hk=>by omega⟩
 ·exact⟨_,cap,rfl,fun k hk=>⟨g,rfl,h1,blk_lt h2,h.cellAt k (by omega)⟩⟩
theorem walkPass_W {w:World} {p:Nat} {M:WM} {F:Nat->Prop} (hW:IsW w p M F) (hT:TW M) {r:Int} {l:List Int} (hl:WayIs M r l) {t0:Th} (hr:M.at r=some t0) :
 Calls Tryz.prog 212 #[.pointer (some ⟨p,0,none⟩),.int .i64 r,.func (.func 213) #[.agg #[.pointer (some ⟨p,0,none⟩)]] #[]] w fun e w'=>e=.returned (.int .i64 0)/\IsW w' p (M.pass l) F/\Keeps F w w':=by
 have hrw:=hW.ok.at_wf hr;have HS:=(show Hid _ from Sides_W hW);have hI:=Is_W hW hrw;rw [hr]at hI;have HI:=(show Hid _ from hI);have HY:=(show Hid _ from Way_W hW hrw hl)
 have hne:((M.made.length:Int)==0)=false:=by
  have:=hW.ok.made;exact beq_eq_false_iff_ne.2 (by omega)
 have HW:=(show Hid (IsW w p M F)from hW);have HT:=(show Hid (TW M)from hT);have HM:=(show Hid (∀ q ∈ l,∃ t,M.at q=some t)from way_mem l r hl)
 have Hlen:Hid ((l.length:Int)≤1099511627777):=by
  obtain⟨l',h1,h2⟩:=way_ex hW.ok r;obtain rfl:=hl.uniq h1;have:=hW.ok.last;show _≤_;omega
 obtain⟨n,hn⟩:∃ n,n=l.length:=⟨_,rfl⟩;have Hn:=(show Hid (n=l.length)from hn);rw [<- hn]at HY Hlen;clear hW hT hr hl hI hn
 go_enter Tryz.func212,Tryz.ntmps212
 go_wp2_with fail
 refine Calls.mono HS.out ?_;rintro e _ ⟨rfl,rfl⟩
 go_wp2_with fail
 refine Calls.mono HI.out ?_;rintro e _ ⟨rfl,rfl⟩
 go_wp2_with fail
 refine Calls.mono HY.out ?_;rintro e w1 ⟨v,rfl,hrow,hb1⟩;obtain⟨a,cap,rfl,hcells⟩:=way_cells hrow;have HB1:=(show Hid (Bl w w1)from hb1);have HC:=(show Hid (∀ k,k<n->∃ g,a=some ⟨g,0,none⟩/\w.heap.size≤g/\g<w1.heap.size/\w1.cell? ⟨g,k,none⟩=(l.map (Value.int .i64))[k]?)from hcells);clear hrow hcells hb1 HS HI HY
 go_wp2_with fail
 go_loopw [24] (fun vi wr=>∃ k:Nat,vi=.int .i64 k/\k≤n/\Hid (IsW wr p (M.pass (l.take k)) F/\Keeps F w wr/\Keeps F w1 wr)) (fun vi _=>n - (intOf vi).toNat)
 case atStart=>exact⟨0,rfl,Nat.zero_le _,HW.out.below HB1.out,Keeps.of_below HB1.out,Keeps.refl _ _⟩
 case round =>
  obtain⟨k,rfl,hk,HR⟩:=hrel
  by_cases hkn:k<n
  ·have hkz:(k:Int)<(n:Int):=by omega
   have hwk:wrap64 ((k:Int)+1)=(k:Int)+1:=by have:=Hlen.out;unfold wrap64;omega
   obtain⟨q,hq⟩:∃ q,l[k]? = some q:=⟨_,List.getElem?_eq_getElem (by have:=Hn.out;omega)⟩;have Htk:Hid (l.take (k+1)=l.take k ++ [q]):=by show _=_;rw [List.take_add_one,hq];rfl
   obtain⟨t,ht⟩:=HM.out q (List.mem_of_getElem? hq);obtain⟨hTk,hpk⟩:=pass_keeps (l.take k) HT.out (fun x hx=>HM.out x (List.mem_of_mem_take hx));obtain⟨t',ht',hkd,hsame⟩:=hpk q t ht;obtain⟨g,rfl,hg0,hg1,hgc⟩:=HC.out k hkn
   have hcell:wr.cell? ⟨g,k,none⟩=some (.int .i64 q):=by
    rw [World.cell?_of_block (a:=⟨g,k,none⟩) (HR.out.2.2.block g hg1 (fun e=>by have:=HW.out.lt g e;omega)),hgc,List.getElem?_map,hq];rfl
   have hkw:=Kind_W HR.out.1 (HW.out.ok.at_wf ht);rw [show (M.pass (l.take k)).kindOf q=t'.kind by simp [WM.kindOf,ht']]at hkw;have HK:=(show Hid _ from hkw);have HTk:=(show Hid (TW (M.pass (l.take k)))from hTk);have Ht':=(show Hid ((M.pass (l.take k)).at q=some t')from ht');clear hq ht hTk hpk ht' hkd hsame hgc hkw
   by_cases h16:t'.kind=16
   ·have e16:(t'.kind==16)=true:=by simpa using h16
    obtain⟨h,tg,nn,h',c,rfl,hn',hh,hc⟩:=HTk.out q t' Ht'.out h16;have hcw:=count_W HR.out.1 Ht'.out hn' hh hc;rw [<- cnt_tap Ht'.out hn',← WM.pass_snoc,← Htk.out]at hcw;have HCW:=(show Hid _ from hcw);clear hcw hn' hh hc h16
    go_wp2_with fail
    refine Calls.mono HK.out ?_;rintro e _ ⟨rfl,rfl⟩
    go_wp2_with fail
    refine Calls.mono HCW.out ?_;rintro e w2 ⟨rfl,hW2,hk2⟩;have HR2:Hid (IsW w2 p (M.pass (l.take (k+1))) F/\Keeps F w w2/\Keeps F w1 w2):=⟨hW2,HR.out.2.1.trans hk2 (fun _ _ h=>h) (fun _ _ h=>h),HR.out.2.2.trans hk2 (fun _ _ h=>h) (fun _ _ h=>h)⟩;clear hW2 hk2 HR HCW HK
    go_wp2_with fail
    go_roundw
    case rel=>exact⟨k+1,by rw [hwk];go_num,by omega,HR2⟩
    case measure=>rw [hwk];exact meas_up hkn
   ·have e16:(t'.kind==16)=false:=by simpa using h16
    have HR2:Hid (IsW wr p (M.pass (l.take (k+1))) F/\Keeps F w wr/\Keeps F w1 wr):=by
     rw [Htk.out,WM.pass_snoc,cnt_not Ht'.out h16];exact HR.out
    clear h16 HR
    go_wp2_with fail
    refine Calls.mono HK.out ?_;rintro e _ ⟨rfl,rfl⟩
    go_wp2_with fail
    go_roundw
    case rel=>exact⟨k+1,by rw [hwk];go_num,by omega,HR2⟩
    case measure=>rw [hwk];exact meas_up hkn
  ·have hkz:¬ (k:Int)<(n:Int):=by omega
   obtain rfl:k=n:=by omega
   have HR2:Hid (IsW wr p (M.pass l) F/\Keeps F w wr):=by
    have:=HR.out;rw [Hn.out,List.take_length]at this;exact⟨this.1,this.2.1⟩
   clear HR
   go_wp2_with fail
   go_ret
   exact⟨rfl,HR2.out.1,HR2.out.2⟩
end
end Go.Proofs.YthaliljaglldjaaGreat
