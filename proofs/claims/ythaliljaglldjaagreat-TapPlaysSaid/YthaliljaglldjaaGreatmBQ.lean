/- Part of the proof. -/
import Derived.Test.YthaliljaglldjaaGreatmBP
import Derived.Test.YthaliljaglldjaaGreatmBL
namespace Go.Proofs.YthaliljaglldjaaGreat
set_option maxHeartbeats 16000000
set_option maxRecDepth 100000
open Go.RowKit Go.ChangeMaps Go.MapKept
section
theorem sizeWorld:(Tryz.prog.info? 140).map (·.size)=some 6:=by kernel_rfl
def ldWd (a:Value):Sem Next:=do pure (.value (← Instr.loadAt 140 a))
def stWd (a x:Value):Sem Next:=do Instr.storeAt 140 a x;pure .skip
@[local go_sem ↓] theorem execOp_ldWd (ρ:Operand->Value) (d:Option Tmp) (a:Operand) (ty:TypeId) (pos:String) (af:Array Edge) (g:Option (Nat × Bool)) :
 execOp ρ { dst:=d,op:=.load 140 a,type:=ty,pos:=pos,after:=af,guard:=g } = ldWd (ρ a):=rfl
@[local go_sem ↓] theorem execOp_stWd (ρ:Operand->Value) (d:Option Tmp) (a x:Operand) (ty:TypeId) (pos:String) (af:Array Edge) (g:Option (Nat × Bool)) :
 execOp ρ { dst:=d,op:=.store 140 a x,type:=ty,pos:=pos,after:=af,guard:=g } = stWd (ρ a) (ρ x):=rfl
theorem loadWorld_blk {w:World} {b:Nat} {cs:Array Value} {fr:Nat × Nat} (hg:w.heap[b]? = some (.cells cs 140 fr)) (hs:cs.size=6):(ldWd (.pointer (some ⟨b,0,none⟩))).run Tryz.prog w=.ok (.value (.agg cs)) w:=by
 have:=run_loadAt_blk hg Tryz.underlying140 rfl (by rw [hs];exact sizeWorld);simp only [ldWd,Sem.run_bind,this,Result.andThen,Sem.run_pure]
theorem storeWorld_blk {w:World} {b:Nat} {c c':Array Value} (hg:w.heap[b]? = some (.cells c 140 (0,0))) (hs:c.size=6) (hs':c'.size=6) (h1:c'.all (·.oneCell')=true) :
 (stWd (.pointer (some ⟨b,0,none⟩)) (.agg c')).run Tryz.prog w=.ok .skip (w.setRow b c'):=by
 have:=run_storeAt_blk (P:=Tryz.prog) hg (by rw [hs'];exact sizeWorld) (by rw [hs,hs']) h1;simp only [stWd,Sem.run_bind,this,Result.andThen,Sem.run_pure]
theorem setRow_keeps (w:World) (p:Nat) (xs:Array Value):Keeps (fun b=>b=p) w (w.setRow p xs) :=
 ⟨rfl,rfl,rfl,by simp [World.setRow],fun x _ hn=>heap_setRow_other _ _ _ _ hn⟩
theorem Become_W {w:World} {p q:Nat} {M N:WM} {F G:Nat->Prop} (hW:IsW w p M F) (hO:IsW w q N G) (light:Hid (∀ r t,N.at r=some t->Lite t)) :
 Calls Tryz.prog 32 #[.pointer (some ⟨p,0,none⟩),.pointer (some ⟨q,0,none⟩)] w fun e w'=>e=.returned (.int .i64 0)/\∃ F',IsW w' p N F'/\Grew F w F' w':=by
 have HN1:=(show Hid _ from none_W hW);have HN2:=(show Hid _ from none_W hO);have HC:=(show Hid _ from Copy_W hO light);have HW:=(show Hid (IsW w p M F)from hW);clear hW hO
 go_enter Tryz.func32,Tryz.ntmps32
 go_wp2_with fail
 refine Calls.mono HN1.out ?_;rintro e _ ⟨rfl,rfl⟩
 go_wp2_with fail
 refine Calls.mono HN2.out ?_;rintro e _ ⟨rfl,rfl⟩
 go_wp2_with fail
 refine Calls.mono HC.out ?_;rintro e w1 ⟨p',F1,rfl,hW1,hF1,hb1⟩;obtain⟨pa,pc,cg,cc,mg,mc,tb,fb,fn,bl,hV⟩:=hW1;obtain⟨pa0,pc0,cg0,cc0,mg0,mc0,tb0,fb0,fn0,bl0,hV0⟩:=HW.out.below hb1;have hld:=loadWorld_blk hV.hp rfl;have hst:=storeWorld_blk (c':=#[.slice pa N.parents.length pc,.slice (some ⟨cg,0,none⟩) N.cuts.length cc,.map (some tb),.map (some fb),.int .i64 N.last,.slice (some ⟨mg,0,none⟩) N.made.length mc]) hV0.hp rfl rfl (by simp [go_sem,Value.oneCell'])
 have HFin:Hid (∃ F',IsW (w1.setRow p #[.slice pa N.parents.length pc,.slice (some ⟨cg,0,none⟩) N.cuts.length cc,.map (some tb),.map (some fb),.int .i64 N.last,.slice (some ⟨mg,0,none⟩) N.made.length mc]) p N F'/\Grew F w F' (w1.setRow p #[.slice pa N.parents.length pc,.slice (some ⟨cg,0,none⟩) N.cuts.length cc,.map (some tb),.map (some fb),.int .i64 N.last,.slice (some ⟨mg,0,none⟩) N.made.length mc])):=by
  have hp:p<w.heap.size:=HW.out.lt p HW.out.own;have hk:=setRow_keeps w1 p #[.slice pa N.parents.length pc,.slice (some ⟨cg,0,none⟩) N.cuts.length cc,.map (some tb),.map (some fb),.int .i64 N.last,.slice (some ⟨mg,0,none⟩) N.made.length mc];have hV1:=hV.keeps hk (fun b hb e=>by have:=hF1 b hb;omega);have hsz:w1.heap.size≤(w1.setRow p #[.slice pa N.parents.length pc,.slice (some ⟨cg,0,none⟩) N.cuts.length cc,.map (some tb),.map (some fb),.int .i64 N.last,.slice (some ⟨mg,0,none⟩) N.made.length mc]).heap.size:=hk.size;refine⟨fun b=>b=p\/F1 b,⟨pa,pc,cg,cc,mg,mc,tb,fb,fn,bl,?_⟩,⟨Keeps.trans (S:=F) (S':=fun b=>b=p) (Keeps.of_below hb1) hk (fun _ _ h=>h) (fun x _ e=>by subst e;exact HW.out.own),fun b hb=>?_⟩⟩
  ·exact {
    hp:=heap_setRow_at hV0.hp
    pars:=fun j x hx=>by
     obtain⟨b,o,h1,h2,h3⟩:=hV1.pars j x hx;exact⟨b,o,h1,.inr h2,h3⟩
    cut:=hV1.cut
    mad:=hV1.mad
    things:=hV1.things
    facets:=hV1.facets
    fnle:=hV1.fnle
    blk:=fun r t ht=>by
     obtain⟨h1,h2,h3⟩:=hV1.blk r t ht;exact⟨h1,.inr h2,h3.of_blocks (fun b cs e fr hF hb _=>rfl) (fun b hF=>.inr hF)⟩
    inj:=hV1.inj
    own:=⟨.inl rfl,.inr hV1.own.2.1,.inr hV1.own.2.2.1,.inr hV1.own.2.2.2.1,.inr hV1.own.2.2.2.2⟩
    tf:=hV1.tf
    lt:=fun b hb=>by
     rcases hb with rfl | hb
     ·have:=hb1.size;omega
     ·exact hV1.lt b hb
    ok:=hV1.ok }
  ·rcases hb with rfl | hb
   ·exact .inl HW.out.own
   ·exact .inr (hF1 b hb)
 clear hV hV0 hF1 hb1 HN1 HN2 HC HW
 go_wp2_with fail
 go_ret
 exact⟨rfl,HFin.out⟩
theorem Grew.refl_below {F:Nat->Prop} {a b:World} (h:Bl a b):Grew F a F b:=⟨Keeps.of_below h,fun _ h=>.inl h⟩
theorem made_tapNo {w:World} {p:Nat} {M:WM} {F:Nat->Prop} (hW:IsW w p M F) (hl:M.last+1≤1099511627776) {h:Int} (home:0≤h/\h<M.made.length) (room:¬ M.made.getD h.toNat 0<512) {r n c:Int} {v:Th} (hr:M.at r=some v) (hn:M.at n=some (tallyT h c)) :
 Calls Tryz.prog 211 #[.pointer (some ⟨p,0,none⟩),.agg (wr 16 h 0 0 0 0 r n 0 false)] w fun e w'=>Hid (e=.returned (.tuple #[.int .i64 0,.int .i64 8])/\Bl w w') :=
 tmade_W (R:=fun e w'=>e=.returned (.tuple #[.int .i64 0,.int .i64 8])/\Bl w w') fun w1 hb=>(Make_16 (hW.below hb) hl home (hW.ok.at_wf hr) (hW.ok.at_wf hn) hn rfl rfl hr).mono fun e w' hm=>by
  rcases hm with ⟨hx,-⟩ | ⟨-,rfl,hb'⟩
  ·exact absurd hx room
  ·exact⟨_,_,rfl,rfl,hb.trans (hb'.mono hb.size)⟩
def BadPost (w:World) (p:Nat) (N:WM) (F:Nat->Prop) (b6 b7 b8:Nat) (w':World):Prop :=
 ∃ F',IsW w' p N F'/\(∀ (F0:Nat->Prop) (w0:World),Grew F0 w0 F w->w0.heap.size≤b6->w0.heap.size≤b7->Grew F0 w0 F' w')/\w'.cell? ⟨b6,0,none⟩=some (.int .i64 0)/\w'.cell? ⟨b7,0,none⟩=some (.int .i64 0)/\w'.cell? ⟨b8,0,none⟩=some (.int .i64 8)
theorem tMake1_bad {w:World} {p q:Nat} {M N:WM} {F G:Nat->Prop} (b8 b3 b9 b6 b7:Nat) (u:FrameMode) {x6 x7:Int} (hW:IsW w p M F) (hO:IsW w q N G) (light:Hid (∀ r t,N.at r=some t->Lite t)) (h8:w.heap[b8]? = some (.cells #[.int .i64 8] 32 (0,0))) (h3:w.heap[b3]? = some (.cells #[.pointer (some ⟨p,0,none⟩)] 31 (0,0)))
 (h9:w.heap[b9]? = some (.cells #[.pointer (some ⟨q,0,none⟩)] 31 (0,0))) (h6:w.heap[b6]? = some (.cells #[.int .i64 x6] 25 (0,0))) (h7:w.heap[b7]? = some (.cells #[.int .i64 x7] 25 (0,0))) (n6:¬ F b6) (n7:¬ F b7) (n8:¬ F b8) (d1:b6≠b7) (d2:b8≠b6) (d3:b8≠b7) :
 CallsD Tryz.prog 210 #[.pointer (some ⟨b8,0,none⟩),.pointer (some ⟨b3,0,none⟩),.pointer (some ⟨b9,0,none⟩),.pointer (some ⟨b6,0,none⟩),.pointer (some ⟨b7,0,none⟩)] u w fun e u' w'=>u'=u/\e=.returned (.tuple #[])/\Hid (BadPost w p N F b6 b7 b8 w'):=by
 have c8:w.cell? ⟨b8,0,none⟩=some (.int .i64 8):=by rw [cell_blk h8];rfl
 have c3:w.cell? ⟨b3,0,none⟩=some (.pointer (some ⟨p,0,none⟩)):=by rw [cell_blk h3];rfl
 have c9:w.cell? ⟨b9,0,none⟩=some (.pointer (some ⟨q,0,none⟩)):=by rw [cell_blk h9];rfl
 have HB:=(show Hid _ from Become_W hW hO light);have HQ:=(show Hid _ from And.intro h6 (And.intro h7 h8));have HN:=(show Hid (¬ F b6/\¬ F b7/\¬ F b8/\b6≠b7/\b8≠b6/\b8≠b7)from⟨n6,n7,n8,d1,d2,d3⟩);clear hW hO h8 h3 h9 h6 h7 n6 n7 n8 d1 d2 d3
 go_enter_d Tryz.func210,Tryz.ntmps210
 go_wp2_with fail
 refine Calls.mono HB.out ?_;rintro e w1 ⟨rfl,F1,hW1,hg1⟩;obtain⟨n6,n7,n8,d1,d2,d3⟩:=HN.out;have q6:=(hg1.1.block b6 (blk_lt HQ.out.1) n6).trans HQ.out.1;have q7:=(hg1.1.block b7 (blk_lt HQ.out.2.1) n7).trans HQ.out.2.1;have q8:=(hg1.1.block b8 (blk_lt HQ.out.2.2) n8).trans HQ.out.2.2;have e6:w1.cell? ⟨b6,0,none⟩=some (.int .i64 x6):=by rw [cell_blk q6];rfl
 have f6:w1.frozen? ⟨b6,0,none⟩=false:=frozen_blk q6 0;have r7:=blk_other q7 ⟨b6,0,none⟩ (.int .i64 0) (Ne.symm d1);have e7:(w1.setCell ⟨b6,0,none⟩ (.int .i64 0)).cell? ⟨b7,0,none⟩=some (.int .i64 x7):=by rw [cell_blk r7];rfl
 have f7:(w1.setCell ⟨b6,0,none⟩ (.int .i64 0)).frozen? ⟨b7,0,none⟩=false:=frozen_blk r7 0
 have hn:∀ b,b<w.heap.size->¬ F b->¬ F1 b:=fun b hb hF hF1=>by
  rcases hg1.2 b hF1 with h | h
  ·exact hF h
  ·omega
 have HP:Hid (BadPost w p N F b6 b7 b8 ((w1.setCell ⟨b6,0,none⟩ (.int .i64 0)).setCell ⟨b7,0,none⟩ (.int .i64 0))):=by
  have hk1:Keeps (fun b=>b=b6) w1 (w1.setCell ⟨b6,0,none⟩ (.int .i64 0)):=Keeps.setCell w1 _ _ rfl;have hk2:Keeps (fun b=>b=b7) (w1.setCell ⟨b6,0,none⟩ (.int .i64 0)) ((w1.setCell ⟨b6,0,none⟩ (.int .i64 0)).setCell ⟨b7,0,none⟩ (.int .i64 0)):=Keeps.setCell _ _ _ rfl;refine⟨F1,(hW1.keeps hk1 (fun b hb e=>hn b6 (blk_lt HQ.out.1) n6 (e ▸ hb))).keeps hk2 (fun b hb e=>hn b7 (blk_lt HQ.out.2.1) n7 (e ▸ hb)),fun F0 w0 h0 h1 h2=>((h0.trans' hg1).put b6 h1 _).put b7 h2 _,?_,?_,?_⟩
  ·rw [cell_blk (blk_other (blk_setCell q6 0 (.int .i64 0)) ⟨b7,0,none⟩ _ d1)];rfl
  ·rw [cell_blk (blk_setCell r7 0 (.int .i64 0))];rfl
  ·rw [cell_blk (blk_other (blk_other q8 ⟨b6,0,none⟩ _ d2) ⟨b7,0,none⟩ _ d3)];rfl
 clear q6 q7 q8 r7 hn hW1 hg1 n6 n7 n8 d1 d2 d3 c8 c3 c9 HB HQ HN
 go_wp2_with fail
 go_end0
 exact⟨rfl,HP⟩
theorem tMake_full {w:World} {p:Nat} {M:WM} {F:Nat->Prop} (hW:IsW w p M F) (light:Hid (∀ r t,M.at r=some t->Lite t)) (hl:M.last+2≤1099511627776) {h r:Int} (home:0≤h/\h<M.made.length) (room:M.made.getD h.toNat 0=511) {v:Th} (hr:M.at r=some v) :
 Calls Tryz.prog 114 #[.pointer (some ⟨p,0,none⟩),.int .i64 h,.int .i64 r] w fun e w'=>e=.returned (.tuple #[.int .i64 0,.int .i64 0,.int .i64 8])/\∃ F',IsW w' p M F'/\Grew F w F' w':=by
 have hmf:∀ (fn:Fn) (first cap:Array Value) (w:World),(Instr.makeFunc fn first cap).run Tryz.prog w=.ok (.func fn first cap) w:=fun _ _ _ _=>rfl;have HW:=(show Hid (IsW w p M F)from hW);have Hhome:=(show Hid (0≤h/\h<M.made.length)from home);have Hr:=(show Hid (M.at r=some v)from hr);clear hW home hr
 go_enter_defers Tryz.func114,Tryz.ntmps114
 go_wp2_with fail
 obtain⟨hb4,q3,q6,q7,q8,hs4⟩:=four w (.cells #[.pointer (some ⟨p,0,none⟩)] 31) (.cells #[.int .i64 0] 25) (.cells #[.int .i64 0] 25) (.cells #[.int .i64 0] 32);revert hb4 q3 q6 q7 q8 hs4;generalize (((w.alloc _).alloc _).alloc _).alloc _=w4;intro hb4 q3 q6 q7 q8 hs4;have c3:w4.cell? ⟨w.heap.size,0,none⟩=some (.pointer (some ⟨p,0,none⟩)):=by rw [cell_blk q3];rfl
 have c8:w4.cell? ⟨w.heap.size+3,0,none⟩=some (.int .i64 0):=by rw [cell_blk q8];rfl
 have f8:w4.frozen? ⟨w.heap.size+3,0,none⟩=false:=frozen_blk q8 0;have hsame:w4.setCell ⟨w.heap.size+3,0,none⟩ (.int .i64 0)=w4:=setCell_same q8 rfl;have HQ:=(show Hid _ from And.intro q3 (And.intro q6 (And.intro q7 q8)));have HB4:=(show Hid (Bl w w4/\w4.heap.size=w.heap.size+4)from⟨hb4,hs4⟩);clear q3 q6 q7 q8 hb4 hs4
 go_wp2_with fail
 refine(tmay_W (HW.out.below HB4.out.1) Hhome.out (HW.out.ok.at_wf Hr.out) Hr.out).mono ?_;rintro e _ ⟨rfl,rfl⟩
 go_wp2_with fail
 refine(Copy_W (HW.out.below HB4.out.1) light).mono ?_;rintro e w5 ⟨p',F5,rfl,hW5,hF5,hb5⟩;have hq:=HQ.out;have hb45:∀ b,b<w.heap.size+4->w5.heap[b]? = w4.heap[b]?:=fun b hb=>hb5.block b (by have:=HB4.out.2;omega);have hs5:w.heap.size+4≤w5.heap.size:=by have:=hb5.size;have:=HB4.out.2;omega
 have q9:=blk_new w5 (.cells #[.pointer (some ⟨p',0,none⟩)] 31);have hB6:Bl w5 (w5.alloc (.cells #[.pointer (some ⟨p',0,none⟩)] 31)):=(Below.refl _ _).alloc (Nat.le_refl _) _
 have HQ6:Hid ((w5.alloc (.cells #[.pointer (some ⟨p',0,none⟩)] 31)).heap[w.heap.size]? = some (.cells #[.pointer (some ⟨p,0,none⟩)] 31 (0,0))/\(w5.alloc (.cells #[.pointer (some ⟨p',0,none⟩)] 31)).heap[w.heap.size+1]? = some (.cells #[.int .i64 0] 25 (0,0)) /\
  (w5.alloc (.cells #[.pointer (some ⟨p',0,none⟩)] 31)).heap[w.heap.size+2]? = some (.cells #[.int .i64 0] 25 (0,0))/\(w5.alloc (.cells #[.pointer (some ⟨p',0,none⟩)] 31)).heap[w.heap.size+3]? = some (.cells #[.int .i64 0] 32 (0,0)) /\
  (w5.alloc (.cells #[.pointer (some ⟨p',0,none⟩)] 31)).heap[w5.heap.size]? = some (.cells #[.pointer (some ⟨p',0,none⟩)] 31 (0,0))) :=
  ⟨(hB6.block _ (by omega)).trans ((hb45 _ (by omega)).trans hq.1),(hB6.block _ (by omega)).trans ((hb45 _ (by omega)).trans hq.2.1),(hB6.block _ (by omega)).trans ((hb45 _ (by omega)).trans hq.2.2.1),(hB6.block _ (by omega)).trans ((hb45 _ (by omega)).trans hq.2.2.2),q9⟩
 have HB6:Hid (Bl w (w5.alloc (.cells #[.pointer (some ⟨p',0,none⟩)] 31))/\w.heap.size+4≤w5.heap.size/\w5.heap.size<(w5.alloc (.cells #[.pointer (some ⟨p',0,none⟩)] 31)).heap.size) :=
  ⟨(HB4.out.1.trans (hb5.mono HB4.out.1.size)).trans (hB6.mono (by omega)),hs5,by simp⟩
 have HCy:Hid (IsW (w5.alloc (.cells #[.pointer (some ⟨p',0,none⟩)] 31)) p' M F5/\∀ b,F5 b->w.heap.size+4≤b):=⟨hW5.below hB6,fun b hb=>by have:=hF5 b hb;have:=HB4.out.2;omega⟩;clear hq hb45 hs5 q9 hB6 hb5 hW5 hF5 c3 c8 f8 hsame HQ HB4
 go_upto_region 6 with fail
 revert HQ6 HB6 HCy;generalize w5.alloc _=w6;generalize w5.heap.size=b9;intro HQ6 HB6 HCy;clear w5;have c3:w6.cell? ⟨w.heap.size,0,none⟩=some (.pointer (some ⟨p,0,none⟩)):=by rw [cell_blk HQ6.out.1];rfl
 have hmt:=made_tally (HW.out.below HB6.out.1) (by omega) Hhome.out (by omega);have HMT:=(show Hid _ from hmt);clear hmt
 go_wp2_with fail
 refine Calls.mono HMT.out ?_;rintro e w7 HM7;obtain⟨rfl,F7,hW7,hg7⟩:=HM7.out;have hq:=HQ6.out;have hb:=HB6.out;have hlt:∀ b,F b->b<w.heap.size:=HW.out.lt
 have hn7:∀ b,w.heap.size≤b->b<w6.heap.size->¬ F7 b:=fun b h1 h2 e=>by
  rcases hg7.2 b e with h | h
  ·have:=hlt b h;omega
  ·omega
 have hk7:∀ b,w.heap.size≤b->b<w6.heap.size->w7.heap[b]? = w6.heap[b]?:=fun b h1 h2=>hg7.1.block b h2 (fun e=>by have:=hlt b e;omega);have r3:=(hk7 _ (Nat.le_refl _) (by omega)).trans hq.1;have r6:=(hk7 _ (by omega) (by omega)).trans hq.2.1;have r7:=(hk7 _ (by omega) (by omega)).trans hq.2.2.1;have r8:=(hk7 _ (by omega) (by omega)).trans hq.2.2.2.1;have r9:=(hk7 _ (by omega) (by omega)).trans hq.2.2.2.2;have f7:w7.frozen? ⟨w.heap.size+2,0,none⟩=false:=frozen_blk r7 0;have c7':w7.cell? ⟨w.heap.size+2,0,none⟩=some (.int .i64 0):=by rw [cell_blk r7];rfl
 have s3:=blk_other r3 ⟨w.heap.size+2,0,none⟩ (.int .i64 (M.last+1)) (by show w.heap.size≠w.heap.size+2;omega);have s6:=blk_other r6 ⟨w.heap.size+2,0,none⟩ (.int .i64 (M.last+1)) (by show w.heap.size+1≠w.heap.size+2;omega);have s7:=blk_setCell r7 0 (.int .i64 (M.last+1));have s8:=blk_other r8 ⟨w.heap.size+2,0,none⟩ (.int .i64 (M.last+1)) (by show w.heap.size+3≠w.heap.size+2;omega);have s9:=blk_other r9 ⟨w.heap.size+2,0,none⟩ (.int .i64 (M.last+1)) (by show b9≠w.heap.size+2;omega);have e8:(w7.setCell ⟨w.heap.size+2,0,none⟩ (.int .i64 (M.last+1))).setCell ⟨w.heap.size+3,0,none⟩ (.int .i64 0)=w7.setCell ⟨w.heap.size+2,0,none⟩ (.int .i64 (M.last+1)):=setCell_same s8 rfl;have g8:(w7.setCell ⟨w.heap.size+2,0,none⟩ (.int .i64 (M.last+1))).frozen? ⟨w.heap.size+3,0,none⟩=false:=frozen_blk s8 0;have c8':(w7.setCell ⟨w.heap.size+2,0,none⟩ (.int .i64 (M.last+1))).cell? ⟨w.heap.size+3,0,none⟩=some (.int .i64 0):=by rw [cell_blk s8];rfl
 have HW8:Hid (IsW (w7.setCell ⟨w.heap.size+2,0,none⟩ (.int .i64 (M.last+1))) p (M.add (tallyT h 0)) F7/\Grew F w F7 (w7.setCell ⟨w.heap.size+2,0,none⟩ (.int .i64 (M.last+1)))) :=
  ⟨hW7.keeps (Keeps.setCell (S:=fun b=>b=w.heap.size+2) w7 _ _ rfl) (fun b hb' e=>hn7 b (by omega) (by omega) hb'),(hg7.after_below HB6.out.1).put _ (by omega) _⟩
 have HCy8:Hid (IsW (w7.setCell ⟨w.heap.size+2,0,none⟩ (.int .i64 (M.last+1))) p' M F5/\∀ b,F5 b->w.heap.size+4≤b) :=
  ⟨(HCy.out.1.keeps hg7.1 (fun b hb' e=>by have:=hlt b e;have:=HCy.out.2 b hb';omega)).keeps (Keeps.setCell (S:=fun b=>b=w.heap.size+2) w7 _ _ rfl) (fun b hb' e=>by have:=HCy.out.2 b hb';omega),HCy.out.2⟩
 have HQ8:=(show Hid _ from And.intro s3 (And.intro s6 (And.intro s7 (And.intro s8 s9))))
 have HN8:Hid (w.heap.size+4≤b9/\b9<(w7.setCell ⟨w.heap.size+2,0,none⟩ (.int .i64 (M.last+1))).heap.size/\∀ b,w.heap.size≤b->b≤b9->¬ F7 b) :=
  ⟨hb.2.1,by have:=blk_lt s9;simpa [World.setCell]using this,fun b h1 h2=>hn7 b h1 (by omega)⟩
 clear hq hb hlt hn7 hk7 r3 r6 r7 r8 r9 s3 s6 s7 s8 s9 hW7 hg7 HM7 HMT c3 HQ6 HB6 HCy
 go_upto_region 7 with fail
 clear f7 c7' e8 g8 c8';revert HW8 HCy8 HQ8 HN8;generalize w7.setCell _ _=w8;intro HW8 HCy8 HQ8 HN8;clear w7 w6;have c3:w8.cell? ⟨w.heap.size,0,none⟩=some (.pointer (some ⟨p,0,none⟩)):=by rw [cell_blk HQ8.out.1];rfl
 have c7:w8.cell? ⟨w.heap.size+2,0,none⟩=some (.int .i64 (M.last+1)):=by rw [cell_blk HQ8.out.2.2.1];rfl
 have c8:w8.cell? ⟨w.heap.size+3,0,none⟩=some (.int .i64 0):=by rw [cell_blk HQ8.out.2.2.2.1];rfl
 have hok:=HW.out.ok
 have hmade:(M.add (tallyT h 0)).made.getD h.toNat 0=M.made.getD h.toNat 0+1/\(M.add (tallyT h 0)).made.length=M.made.length:=by
  have e:(M.add (tallyT h 0)).made=M.made.set h.toNat (M.made.getD h.toNat 0+1):=if_neg (t:=M.made) (show ¬ ((3:Int)=14) by decide);have:=Hhome.out;rw [e];refine⟨?_,by simp⟩;rw [List.getD_eq_getElem?_getD,List.getElem?_set_self (by omega)];rfl
 have hmt:=made_tapNo HW8.out.1 (h:=h) (r:=r) (n:=M.last+1) (c:=0) (show M.last+1+1≤_ by omega) (by rw [hmade.2];exact Hhome.out) (by rw [hmade.1];omega) (WM.add_at_old hok _ Hr.out) (WM.add_at_new hok _);have HMT:=(show Hid _ from hmt);clear hmt hok hmade
 go_wp2_with fail
 refine Calls.mono HMT.out ?_;rintro e w9 HM9;obtain⟨rfl,hb9⟩:=HM9.out;have hq:=HQ8.out;have r3:=below_blk hb9 hq.1;have r6:=below_blk hb9 hq.2.1;have r7:=below_blk hb9 hq.2.2.1;have r8:=below_blk hb9 hq.2.2.2.1;have r9:=below_blk hb9 hq.2.2.2.2;have f6:w9.frozen? ⟨w.heap.size+1,0,none⟩=false:=frozen_blk r6 0;have c6':w9.cell? ⟨w.heap.size+1,0,none⟩=some (.int .i64 0):=by rw [cell_blk r6];rfl
 have e6:w9.setCell ⟨w.heap.size+1,0,none⟩ (.int .i64 0)=w9:=setCell_same r6 rfl;have f8:w9.frozen? ⟨w.heap.size+3,0,none⟩=false:=frozen_blk r8 0;have c8'':w9.cell? ⟨w.heap.size+3,0,none⟩=some (.int .i64 0):=by rw [cell_blk r8];rfl
 have s3:=blk_other r3 ⟨w.heap.size+3,0,none⟩ (.int .i64 8) (by show w.heap.size≠w.heap.size+3;omega);have s6:=blk_other r6 ⟨w.heap.size+3,0,none⟩ (.int .i64 8) (by show w.heap.size+1≠w.heap.size+3;omega);have s7:=blk_other r7 ⟨w.heap.size+3,0,none⟩ (.int .i64 8) (by show w.heap.size+2≠w.heap.size+3;omega);have s8:=blk_setCell r8 0 (.int .i64 8);have s9:=blk_other r9 ⟨w.heap.size+3,0,none⟩ (.int .i64 8) (by show b9≠w.heap.size+3;have:=HN8.out.1;omega);have hkk:Keeps (fun b=>b=w.heap.size+3) w9 (w9.setCell ⟨w.heap.size+3,0,none⟩ (.int .i64 8)):=Keeps.setCell w9 _ _ rfl
 have HW10:Hid (IsW (w9.setCell ⟨w.heap.size+3,0,none⟩ (.int .i64 8)) p (M.add (tallyT h 0)) F7/\Grew F w F7 (w9.setCell ⟨w.heap.size+3,0,none⟩ (.int .i64 8))) :=
  ⟨(HW8.out.1.below hb9).keeps hkk (fun b hb' e=>HN8.out.2.2 b (by omega) (by have:=HN8.out.1;omega) hb'),(HW8.out.2.trans' (Grew.refl_below hb9)).put _ (by omega) _⟩
 have HCy10:Hid (IsW (w9.setCell ⟨w.heap.size+3,0,none⟩ (.int .i64 8)) p' M F5):=(HCy8.out.1.below hb9).keeps hkk (fun b hb' e=>by have:=HCy8.out.2 b hb';omega);have HQ10:=(show Hid _ from And.intro s3 (And.intro s6 (And.intro s7 (And.intro s8 s9))));have HN10:Hid (w.heap.size+4≤b9/\∀ b,w.heap.size≤b->b≤b9->¬ F7 b):=⟨HN8.out.1,HN8.out.2.2⟩;clear hq r3 r6 r7 r8 r9 s3 s6 s7 s8 s9 hkk hb9 HM9 HMT c3 c7 c8 HQ8 HN8 HW8 HCy8
 go_wp2_with fail
 revert HW10 HQ10 HCy10;clear f6 c6' e6 f8 c8'';generalize w9.setCell _ _=w10;intro HW10 HCy10 HQ10;refine leaves_cons (f:=210) (args:=#[.pointer (some ⟨w.heap.size+3,0,none⟩),.pointer (some ⟨w.heap.size,0,none⟩),.pointer (some ⟨b9,0,none⟩),.pointer (some ⟨w.heap.size+1,0,none⟩),.pointer (some ⟨w.heap.size+2,0,none⟩)]) (by simp) (by simp [go_sem]) ?_
 refine(tMake1_bad (w.heap.size+3) w.heap.size b9 (w.heap.size+1) (w.heap.size+2) .returning HW10.out.1 HCy10.out light HQ10.out.2.2.2.1 HQ10.out.1 HQ10.out.2.2.2.2 HQ10.out.2.1 HQ10.out.2.2.1
  (HN10.out.2 _ (by omega) (by have:=HN10.out.1;omega)) (HN10.out.2 _ (by omega) (by have:=HN10.out.1;omega)) (HN10.out.2 _ (by omega) (by have:=HN10.out.1;omega)) (by omega) (by omega) (by omega)).mono ?_
 rintro e u' w11 ⟨rfl,rfl,h11⟩;obtain⟨F',hW',hg',c6,c7,c8⟩:=h11.out;refine⟨.tuple #[.int .i64 0,.int .i64 0,.int .i64 8],?_,rfl,F',hW',hg' F w HW10.out.2 (by omega) (by omega)⟩;simp [results,Tryz.f114,go_sem,c6,c7,c8]
end
section
variable {w:World} {p:Nat} {M:WM} {F:Nat->Prop}
theorem With_of (hW:IsW w p M F) {h r n c a b:Int} {R:Ending->World->Prop} (home:0≤h/\h<M.made.length) {v:Th} (hr:M.at r=some v) (hn:M.at n=some (tallyT h c))
 (hm:Calls Tryz.prog 211 #[.pointer (some ⟨p,0,none⟩),.agg (wr 16 h 0 0 0 0 r n 0 false)] w fun e w'=>e=.returned (.tuple #[.int .i64 a,.int .i64 b])/\Hid (R e w')) :
 Calls Tryz.prog 119 #[.pointer (some ⟨p,0,none⟩),.int .i64 h,.int .i64 r,.int .i64 n] w fun e w'=>Hid (R e w'):=by
 have HM:=(show Hid _ from hm);have hnw:=hW.ok.at_wf hn;have HY:=(show Hid _ from tmay_W hW home (hW.ok.at_wf hr) hr);have hI:=Is_W hW hnw;rw [hn]at hI;have HI:=(show Hid _ from hI);have hH:=Home_W hW hnw;rw [show M.homeOf n=h by simp [WM.homeOf,hn],show M.hasHome n=true by simp [WM.hasHome,hn]]at hH;have HH:=(show Hid _ from hH);have hK:=Kind_W hW hnw;rw [show M.kindOf n=3 by simp [WM.kindOf,hn]]at hK;have HK:=(show Hid _ from hK);clear hm hW hr hn hI hH hK hnw home
 go_enter Tryz.func119,Tryz.ntmps119
 go_wp2_with fail
 refine Calls.mono HY.out ?_;rintro e _ ⟨rfl,rfl⟩
 go_wp2_with fail
 refine Calls.mono HI.out ?_;rintro e _ ⟨rfl,rfl⟩
 go_wp2_with fail
 refine Calls.mono HH.out ?_;rintro e _ ⟨rfl,rfl⟩
 go_wp2_with fail
 refine Calls.mono HK.out ?_;rintro e _ ⟨rfl,rfl⟩
 go_wp2_with fail
 refine Calls.mono HM.out ?_;rintro e w1 ⟨rfl,hR⟩
 go_wp2_with fail
 go_ret2
 exact hR
theorem With_W (hW:IsW w p M F) (hl:M.last+1≤1099511627776) {h r n c:Int} (home:0≤h/\h<M.made.length) (room:M.made.getD h.toNat 0<512) {v:Th} (hr:M.at r=some v) (hn:M.at n=some (tallyT h c)) :
 Calls Tryz.prog 119 #[.pointer (some ⟨p,0,none⟩),.int .i64 h,.int .i64 r,.int .i64 n] w fun e w'=>Hid (MadeOk w p M F (tapT h r n) e w') :=
 With_of hW home hr hn ((made_tap hW hl home room hr hn).mono fun _ _ hm=>⟨hm.out.1,hm⟩)
theorem With_no (hW:IsW w p M F) (hl:M.last+1≤1099511627776) {h r n c:Int} (home:0≤h/\h<M.made.length) (room:¬ M.made.getD h.toNat 0<512) {v:Th} (hr:M.at r=some v) (hn:M.at n=some (tallyT h c)) :
 Calls Tryz.prog 119 #[.pointer (some ⟨p,0,none⟩),.int .i64 h,.int .i64 r,.int .i64 n] w fun e w'=>Hid (e=.returned (.tuple #[.int .i64 0,.int .i64 8])/\Bl w w') :=
 With_of hW home hr hn ((made_tapNo hW hl home room hr hn).mono fun _ _ hm=>⟨hm.out.1,hm⟩)
end
section
variable {w:World} {q:Nat} {M:WM} {G:Nat->Prop}
theorem side13_W (hR:IsR w q M G) (hpl:M.made.length=M.parents.length+1) (h:Int):Calls Tryz.prog 215 #[.pointer (some ⟨q,0,none⟩),.int .i64 h] w fun e w'=>e=.returned (.bool (sideB M h))/\Bl w w':=by
 obtain⟨sP,sC,sT,sM,hV⟩:=hR;obtain⟨ln,hln⟩:∃ ln,ln=M.parents.length:=⟨_,rfl⟩
 obtain⟨pM,cM,hsP⟩:∃ p c,sP=.slice p ln c:=by
  obtain⟨h1,⟨rfl,h0⟩ | ⟨g,cap,cur,rfl,-⟩⟩:=hV.rp
  ·exact⟨none,0,by rw [hln,h0]⟩
  ·exact⟨_,_,by rw [hln]⟩
 have c0:w.cell? ⟨q,0,none⟩=some (.slice pM ln cM):=by rw [cell_blk hV.blk,← hsP];rfl
 obtain⟨b,hb⟩:∃ b,b=sideB M h:=⟨_,rfl⟩;have HB:Hid (b=sideB M h):=hb
 have HI:Hid (sideB M h=true ↔ 0≤h/\h≤(ln:Int)):=by
  show _ ↔ _;rw [sideB_iff,hpl,hln];omega
 rw [<- hb];clear hV hb hpl hln hsP
 by_cases h0:h ≥ 0
 ·by_cases h1:h≤(ln:Int)
  ·have HE:Hid (b=true):=HB.out.trans (HI.out.2 ⟨h0,h1⟩)
   go_enter Tryz.func215,Tryz.ntmps215
   go_wp2_with fail
   go_ret
   exact⟨by rw [HE.out];rfl,Below.refl _ _⟩
  ·have HE:Hid (b=false):=by
    have:=mt HI.out.1 (fun e=>h1 e.2);exact HB.out.trans (by simpa using this)
   go_enter Tryz.func215,Tryz.ntmps215
   go_wp2_with fail
   go_ret
   exact⟨by rw [HE.out];rfl,Below.refl _ _⟩
 ·have HE:Hid (b=false):=by
   have:=mt HI.out.1 (fun e=>h0 e.1);exact HB.out.trans (by simpa using this)
  go_enter Tryz.func215,Tryz.ntmps215
  go_wp2_with fail
  go_ret
  exact⟨by rw [HE.out];rfl,Below.refl _ _⟩
theorem rMake_16 (hR:IsR w q M G) (hN:RGood M) {h tg bi:Int} {u v:Th} (hh:0≤h/\h<M.made.length) (hv:M.at tg=some v) (hu:M.at bi=some u) (hu3:u.kind=3) (huh:u.home=h) :
 Calls Tryz.prog 15 #[.pointer (some ⟨q,0,none⟩),.agg (thc (lt 16 h 0 0 0 0 tg bi 0 false))] w (MadeLR w q M G h (lt 16 h 0 0 0 0 tg bi 0 false)) :=
 (make7_W (F:=fun _=>False) hR hN.ok.len hN.last hN.mades (lt 16 h 0 0 0 0 tg bi 0 false) (SlAt.nil _ _ _ _) (SlAt.nil _ _ _ _) rfl rfl (depV_may (by rfl)) (fun x hx=>by cases hx) (Nat.zero_le _) (fun b h=>h.elim) hh (by show (0:Int)≤16/\(16:Int)≤255;decide) (by show (16:Int)≠13/\(16:Int)≠14/\(16:Int)≠15;decide) 0
  (fun w' hb=>form7_16 w' M.made.length h hh tg bi) fun w' hb =>
  askedq_16 (hR.below hb) hN.ok (lt 16 h 0 0 0 0 tg bi 0 false) 0 rfl (by show (M.at tg).isSome=true;rw [hv];rfl) hu ⟨hu3,huh⟩ [] (Nat.zero_le _) (fun w2 hb2=>refs7_lt w2 16 h 0 0 tg bi 0 false) fun x hx=>by cases hx).mono fun e w' h=>h.light
def withE (M:WM) (h r n:Int):Int:=if sideB M h=true then if (M.at r).isSome=true then if (M.at n).isSome=true then if (at7 M n).kind=3/\(at7 M n).home=h then 0 else 130 else 5 else 5 else 2
theorem with13_no (hR:IsR w q M G) (hN:RGood M) (hpl:M.made.length=M.parents.length+1) {h r n:Int} (he:withE M h r n≠0) :
 Calls Tryz.prog 120 #[.pointer (some ⟨q,0,none⟩),.int .i64 h,.int .i64 r,.int .i64 n] w fun e w'=>e=.returned (.tuple #[.int .i64 0,.int .i64 (withE M h r n)])/\Bl w w':=by
 have HS:=(show Hid _ from side13_W hR hpl h);have HA:Hid (∀ w1 r,Bl w w1->Calls Tryz.prog 47 #[.pointer (some ⟨q,0,none⟩),.int .i64 r] w1 fun e w'=>e=.returned (.tuple #[.agg (thc (at7 M r)),.bool (M.at r).isSome])/\Bl w1 w'):=fun w1 r hb=>at7_W (hR.below hb) hN.ok.len r (fun x hx=>(hN.ok.kd x hx).1);have HAr:Hid (∀ w1,Bl w w1->Calls Tryz.prog 47 #[.pointer (some ⟨q,0,none⟩),.int .i64 r] w1 fun e w'=>e=.returned (.tuple #[.agg (thc (at7 M r)),.bool (M.at r).isSome])/\Bl w1 w'):=fun w1 hb=>HA.out w1 r hb;have HAn:Hid (∀ w1,Bl w w1->Calls Tryz.prog 47 #[.pointer (some ⟨q,0,none⟩),.int .i64 n] w1 fun e w'=>e=.returned (.tuple #[.agg (thc (at7 M n)),.bool (M.at n).isSome])/\Bl w1 w'):=fun w1 hb=>HA.out w1 n hb;have ho1:=hN.ok.one r;have ho2:=hN.ok.one n;obtain⟨E,hE⟩:∃ E,E=withE M h r n:=⟨_,rfl⟩;rw [<- hE]at he ⊢;unfold withE at hE;clear hR hN hpl HA;generalize at7 M r=t1 at *;generalize at7 M n=t2 at *;generalize (M.at r).isSome=B1 at *;generalize (M.at n).isSome=B2 at *;generalize sideB M h=B0 at *;have HE:Hid (E=if B0=true then if B1=true then if B2=true then if t2.kind=3/\t2.home=h then 0 else 130 else 5 else 5 else 2):=hE
 have HNE:Hid (E≠0):=he;clear hE he
 go_enter Tryz.func120,Tryz.ntmps120
 go_wp2_with fail
 refine Calls.mono HS.out ?_;rintro e w1 ⟨rfl,hb1⟩;have H1:=(show Hid (Bl w w1)from hb1);clear hb1 HS
 cases B0
 ·have HX:Hid (E=2):=HE.out;clear HE HNE
  go_wp2_with fail
  go_ret2
  exact⟨by rw [HX.out];rfl,H1.out⟩
 go_wp2_with fail
 refine Calls.mono (HAr.out w1 H1.out) ?_;rintro e w2 ⟨rfl,hb2⟩;obtain⟨w3,hst,hb3,-,-⟩:=boxed_what' w2 (thc t1) rfl ho1;have H3:=(show Hid (Bl w w3)from H1.out.trans ((hb2.trans (hb3.mono hb2.size)).mono H1.out.size));clear hb2 hb3 H1
 go_wp2_with fail
 clear hst;refine Calls.mono (HAn.out w3 H3.out) ?_;rintro e w4 ⟨rfl,hb4⟩;obtain⟨w5,hst,hb5,hg5,-⟩:=boxed_what' w4 (thc t2) rfl ho2;have k0:w5.cell? ⟨w4.heap.size,0,none⟩=some (.int .u8 t2.kind):=by rw [cell_blk hg5];rfl
 have k1:w5.cell? ⟨w4.heap.size,1,none⟩=some (.int .i64 t2.home):=by rw [cell_blk hg5];rfl
 have H5:=(show Hid (Bl w w5)from H3.out.trans ((hb4.trans (hb5.mono hb4.size)).mono H3.out.size));clear hb4 hb5 hg5 H3 HAr HAn
 cases B1
 ·have HX:Hid (E=5):=HE.out;clear HE HNE
  go_wp2_with fail
  go_ret2
  exact⟨by rw [HX.out];rfl,H5.out⟩
 cases B2
 ·have HX:Hid (E=5):=HE.out;clear HE HNE
  go_wp2_with fail
  go_ret2
  exact⟨by rw [HX.out];rfl,H5.out⟩
 have HE2:Hid (E=if t2.kind=3/\t2.home=h then 0 else 130):=HE.out
 have hc:¬ (t2.kind=3/\t2.home=h):=fun hc=>HNE.out (by rw [HE2.out,if_pos hc]);have HX:Hid (E=130):=by show _=_;rw [HE2.out,if_neg hc]
 clear HE HNE HE2
 by_cases h3:t2.kind=3
 ·have hkb:(t2.kind==3)=true:=by simpa using h3
  have hhb:(t2.home==h)=false:=by simpa using fun e=>hc ⟨h3,e⟩
  have hkn:(t2.kind != 3)=false:=by rw [bne,hkb];rfl
  have hhn:(t2.home != h)=true:=by rw [bne,hhb];rfl
  clear h3 hc
  go_wp2_with fail
  go_ret2
  exact⟨by rw [HX.out];rfl,H5.out⟩
 ·have hkb:(t2.kind==3)=false:=by simpa using h3
  clear h3 hc
  go_wp2_with fail
  go_ret2
  exact⟨by rw [HX.out];rfl,H5.out⟩
theorem with13_W (hR:IsR w q M G) (hN:RGood M) (hpl:M.made.length=M.parents.length+1) {h r n:Int} (he:withE M h r n=0) :
 Calls Tryz.prog 120 #[.pointer (some ⟨q,0,none⟩),.int .i64 h,.int .i64 r,.int .i64 n] w (MadeLR w q M G h (tapT h r n)):=by
 have HS:=(show Hid _ from side13_W hR hpl h);have HA:Hid (∀ w1 r,Bl w w1->Calls Tryz.prog 47 #[.pointer (some ⟨q,0,none⟩),.int .i64 r] w1 fun e w'=>e=.returned (.tuple #[.agg (thc (at7 M r)),.bool (M.at r).isSome])/\Bl w1 w'):=fun w1 r hb=>at7_W (hR.below hb) hN.ok.len r (fun x hx=>(hN.ok.kd x hx).1);have HAr:Hid (∀ w1,Bl w w1->Calls Tryz.prog 47 #[.pointer (some ⟨q,0,none⟩),.int .i64 r] w1 fun e w'=>e=.returned (.tuple #[.agg (thc (at7 M r)),.bool (M.at r).isSome])/\Bl w1 w'):=fun w1 hb=>HA.out w1 r hb;have HAn:Hid (∀ w1,Bl w w1->Calls Tryz.prog 47 #[.pointer (some ⟨q,0,none⟩),.int .i64 n] w1 fun e w'=>e=.returned (.tuple #[.agg (thc (at7 M n)),.bool (M.at n).isSome])/\Bl w1 w'):=fun w1 hb=>HA.out w1 n hb;have ho1:=hN.ok.one r;have ho2:=hN.ok.one n
 have hb0:sideB M h=true:=by
  by_cases e:sideB M h=true
  ·exact e
  ·unfold withE at he;rw [if_neg e]at he;cases he
 have hb1':(M.at r).isSome=true:=by
  by_cases e:(M.at r).isSome=true
  ·exact e
  ·unfold withE at he;rw [if_pos hb0,if_neg e]at he;cases he
 have hb2':(M.at n).isSome=true:=by
  by_cases e:(M.at n).isSome=true
  ·exact e
  ·unfold withE at he;rw [if_pos hb0,if_pos hb1',if_neg e]at he;cases he
 have h3:(at7 M n).kind=3/\(at7 M n).home=h:=by
  by_cases e:(at7 M n).kind=3/\(at7 M n).home=h
  ·exact e
  ·unfold withE at he;rw [if_pos hb0,if_pos hb1',if_pos hb2',if_neg e]at he;cases he
 have HMk:Hid (∀ w1,Bl w w1->Calls Tryz.prog 15 #[.pointer (some ⟨q,0,none⟩),.agg (thc (tapT h r n))] w1 (MadeLR w1 q M G h (tapT h r n))):=fun w1 hb=>by
  obtain⟨v,hv⟩:=Option.isSome_iff_exists.1 hb1';obtain⟨u,hu⟩:=Option.isSome_iff_exists.1 hb2';have eu:at7 M n=u:=by unfold at7;rw [hu];rfl
  rw [eu]at h3;exact rMake_16 (hR.below hb) hN (sideB_iff.1 hb0) hv hu h3.1 h3.2
 rw [hb0]at HS;rw [hb1']at HAr;rw [hb2']at HAn;clear hR hN hpl HA he hb0 hb1' hb2';generalize at7 M r=t1 at *;generalize at7 M n=t2 at *;have hkb:(t2.kind==3)=true:=by rw [h3.1];rfl
 have hhb:(t2.home==h)=true:=by rw [h3.2];simp
 have hkn:(t2.kind != 3)=false:=by rw [bne,hkb];rfl
 have hhn:(t2.home != h)=false:=by rw [bne,hhb];rfl
 clear h3
 go_enter Tryz.func120,Tryz.ntmps120
 go_wp2_with fail
 refine Calls.mono HS.out ?_;rintro e w1 ⟨rfl,hb1⟩;have H1:=(show Hid (Bl w w1)from hb1);clear hb1 HS
 go_wp2_with fail
 refine Calls.mono (HAr.out w1 H1.out) ?_;rintro e w2 ⟨rfl,hb2⟩;obtain⟨w3,hst,hb3,-,-⟩:=boxed_what' w2 (thc t1) rfl ho1;have H3:=(show Hid (Bl w w3)from H1.out.trans ((hb2.trans (hb3.mono hb2.size)).mono H1.out.size));clear hb2 hb3 H1
 go_wp2_with fail
 clear hst;refine Calls.mono (HAn.out w3 H3.out) ?_;rintro e w4 ⟨rfl,hb4⟩;obtain⟨w5,hst,hb5,hg5,-⟩:=boxed_what' w4 (thc t2) rfl ho2;have k0:w5.cell? ⟨w4.heap.size,0,none⟩=some (.int .u8 t2.kind):=by rw [cell_blk hg5];rfl
 have k1:w5.cell? ⟨w4.heap.size,1,none⟩=some (.int .i64 t2.home):=by rw [cell_blk hg5];rfl
 have H5:=(show Hid (Bl w w5)from H3.out.trans ((hb4.trans (hb5.mono hb4.size)).mono H3.out.size));clear hb4 hb5 hg5 H3 HAr HAn
 go_wp2_with fail
 refine Calls.mono (HMk.out w5 H5.out) ?_;rintro e w6 h6
 have H6:Hid (∃ x y:Int,e=.returned (.tuple #[.int .i64 x,.int .i64 y])/\MadeLR w q M G h (tapT h r n) (.returned (.tuple #[.int .i64 x,.int .i64 y])) w6):=by
  rcases h6 with ⟨m1,rfl,G',m2,m3⟩ | ⟨m1,rfl,m2⟩
  ·exact⟨_,_,rfl,.inl ⟨m1,rfl,G',m2,Below.keeps H5.out m3.1,fun b hb=>(m3.2 b hb).imp id fun h=>Nat.le_trans H5.out.size h⟩⟩
  ·exact⟨_,_,rfl,.inr ⟨m1,rfl,H5.out.trans (m2.mono H5.out.size)⟩⟩
 clear h6 HMk;obtain⟨x,y,rfl,h7⟩:=H6.out;have H7:Hid (MadeLR w q M G h (tapT h r n) (.returned (.tuple #[.int .i64 x,.int .i64 y])) w6):=h7;clear h7 H6
 go_wp2_with fail
 go_returns
 exact H7.out
end
section
def inB (l:List Int) (r:Int):Bool:=l.contains r
theorem in7_W {w:World} {pa:Option Addr} {c:Nat} {l:List Int} (hA:IntArg .i64 w pa l) (hl:l.length≤1000000) (r:Int) :
 Calls Tryz.prog 196 #[.slice pa l.length c,.int .i64 r] w fun e w'=>e=.returned (.bool (inB l r))/\Bl w w':=by
 obtain⟨n,hn⟩:∃ n,n=l.length:=⟨_,rfl⟩;have HA:Hid (IntArg .i64 w pa l/\n=l.length/\n≤1000000):=⟨hA,hn,by omega⟩;rw [<- hn];clear hA hl hn
 go_enter Tryz.func196,Tryz.ntmps196
 go_wp2_with fail
 go_loopw [5] (fun vi wr=>∃ i:Nat,vi=.int .i64 i/\i≤n/\Hid (Bl w wr/\∀ j x,j<i->l[j]? = some x->x≠r)) (fun vi _=>n - (intOf vi).toNat)
 case atStart=>exact⟨0,rfl,Nat.zero_le _,Below.refl _ _,fun j x h=>absurd h (Nat.not_lt_zero j)⟩
 case round =>
  obtain⟨i,rfl,hi,HB⟩:=hrel
  by_cases hin:i<n
  ·have hiz:(i:Int)<(n:Int):=by omega
   have hi0:(0:Int)≤(i:Int):=by omega
   obtain⟨x,hx⟩:∃ x,l[i]? = some x:=⟨_,List.getElem?_eq_getElem (by have:=HA.out.2.1;omega)⟩
   obtain⟨b,o,rfl,hc⟩:∃ b o,pa=some ⟨b,o,none⟩/\wr.cell? ⟨b,o+i,none⟩=some (.int .i64 x):=by
    rcases HA.out.1 with h | ⟨b,o,h1,h2,h3⟩
    ·rw [h]at hx;simp at hx
    ·exact⟨b,o,h1,(HB.out.1.cell (p:=⟨b,o+i,none⟩) h2).trans (h3 i x hx)⟩
   have hwi:wrap64 ((i:Int)+1)=(i:Int)+1:=by have:=HA.out.2.2;unfold wrap64;omega
   by_cases hr:x=r
   ·have hrb:(x==r)=true:=by simpa using hr
    have HR:Hid (inB l r=true):=by show l.contains r=true;rw [<- hr];exact List.contains_iff_mem.2 (List.mem_of_getElem? hx)
    have hr':x=r:=hr;clear hx hr
    go_wp2_with fail
    go_ret
    exact⟨by rw [HR.out];rfl,HB.out.1⟩
   ·have hrb:(x==r)=false:=by simpa using hr
    have HB2:Hid (Bl w wr/\∀ j x,j<i+1->l[j]? = some x->x≠r):=⟨HB.out.1,fun j y hj hy=>by
     by_cases e:j=i
     ·subst e;rw [hx]at hy
      cases hy
      exact hr
     ·exact HB.out.2 j y (by omega) hy⟩
    have hr':¬ x=r:=hr;clear hx hr
    go_wp2_with fail
    go_roundw
    case rel=>exact⟨i+1,by go_num,by omega,HB2.out⟩
    case measure=>rw [hwi];clear hwi;simp [intOf];omega
  ·have hiz:¬ (i:Int)<(n:Int):=by omega
   obtain rfl:i=n:=by omega
   have hkk:¬ (i:Int)<(i:Int):=by omega
   have HR:Hid (inB l r=false):=by
    show l.contains r=false
    cases e:l.contains r with
    | false=>rfl
    | true =>
      obtain⟨j,hj,ej⟩:=List.getElem_of_mem (List.contains_iff_mem.1 e);exact absurd ej (HB.out.2 j _ (by have:=HA.out.2.1;omega) (List.getElem?_eq_getElem hj))
   go_wp2_with fail
   go_ret
   exact⟨by rw [HR.out];rfl,HB.out.1⟩
theorem sizeEntry:(Tryz.prog.info? 117).map (·.size)=some 17:=by kernel_rfl
def ldE (a:Value):Sem Next:=do pure (.value (← Instr.loadAt 117 a))
def stE (a x:Value):Sem Next:=do Instr.storeAt 117 a x;pure .skip
theorem execOp_ldE (ρ:Operand->Value) (d:Option Tmp) (a:Operand) (ty:TypeId) (pos:String) (af:Array Edge) (g:Option (Nat × Bool)) :
 execOp ρ { dst:=d,op:=.load 117 a,type:=ty,pos:=pos,after:=af,guard:=g } = ldE (ρ a):=rfl
theorem execOp_stE (ρ:Operand->Value) (d:Option Tmp) (a x:Operand) (ty:TypeId) (pos:String) (af:Array Edge) (g:Option (Nat × Bool)) :
 execOp ρ { dst:=d,op:=.store 117 a x,type:=ty,pos:=pos,after:=af,guard:=g } = stE (ρ a) (ρ x):=rfl
theorem ldE_mid {w:World} {b o:Nat} {cs:Array Value} (hs:cs.size=17) (h:∀ k v,cs[k]? = some v->w.cell? ⟨b,o+k,none⟩=some v):(ldE (.pointer (some ⟨b,o,none⟩))).run Tryz.prog w=.ok (.value (.agg cs)) w:=by
 have:=run_loadAt_mid w b o 117 cs.toList _ (fun k v hv=>h k v (by simpa using hv)) Tryz.underlying117 rfl (by rw [Array.length_toList,hs];exact sizeEntry);simp only [ldE,Sem.run_bind,this,Result.andThen,Sem.run_pure,Array.toArray_toList]
theorem ldE_blk {w:World} {b:Nat} {cs:Array Value} {fr:Nat × Nat} (hg:w.heap[b]? = some (.cells cs 117 fr)) (hs:cs.size=17):(ldE (.pointer (some ⟨b,0,none⟩))).run Tryz.prog w=.ok (.value (.agg cs)) w:=by
 have:=run_loadAt_blk hg Tryz.underlying117 rfl (by rw [hs];exact sizeEntry);simp only [ldE,Sem.run_bind,this,Result.andThen,Sem.run_pure]
theorem stE_blk {w:World} {b:Nat} {c c':Array Value} (hg:w.heap[b]? = some (.cells c 117 (0,0))) (hs:c.size=17) (hs':c'.size=17) (h1:c'.all (·.oneCell')=true) :
 (stE (.pointer (some ⟨b,0,none⟩)) (.agg c')).run Tryz.prog w=.ok .skip (w.setRow b c'):=by
 have:=run_storeAt_blk (P:=Tryz.prog) hg (by rw [hs'];exact sizeEntry) (by rw [hs,hs']) h1;simp only [stE,Sem.run_bind,this,Result.andThen,Sem.run_pure]
theorem boxed_ent (w1:World) (xs:Array Value) (hs:xs.size=17) (h1:xs.all (·.oneCell')=true) :
 ∃ w2,(stE (.pointer (some ⟨w1.heap.size,0,none⟩)) (.agg xs)).run Tryz.prog (w1.alloc (.cells #[.int .i64 0,.int .u8 0,.int .i64 0,.int .u8 0,.int .i64 0,.string ⟨#[]⟩,.slice none 0 0,.int .i64 0,.slice none 0 0,.int .i64 0,.int .i64 0,.int .i64 0,.int .i64 0,.int .u8 0,.bool false,.slice none 0 0,.slice none 0 0] 117))=.ok .skip w2 /\
   Bl w1 w2/\w2.heap[w1.heap.size]? = some (.cells xs 117 (0,0))/\w2.heap.size=w1.heap.size+1 :=
 ⟨_,stE_blk (blk_new _ _) rfl hs h1,Below.setRow ((Below.refl _ w1).alloc (Nat.le_refl _) _) (Nat.le_refl _) _,heap_setRow_at (blk_new _ _),by simp [World.setRow]⟩
end
end Go.Proofs.YthaliljaglldjaaGreat
