/- Part of the proof. -/
import Derived.Test.YthaliljaglldjaaGreatmBY
namespace Go.Proofs.YthaliljaglldjaaGreat
set_option maxHeartbeats 16000000
set_option maxRecDepth 100000
open Go.RowKit Go.ChangeMaps Go.MapKept
section
variable {w:World} {p q:Nat} {M:WM} {F G:Nat->Prop}
theorem made_tallyNo (hW:IsW w p M F) (hl:M.last+1≤1099511627776) {h:Int} (home:0≤h/\h<M.made.length) (room:¬ M.made.getD h.toNat 0<512) :
 Calls Tryz.prog 211 #[.pointer (some ⟨p,0,none⟩),.agg (YthaliljaglldjaaGreat.wr 3 h 0 0 0 0 0 0 0 false)] w fun e w'=>Hid (e=.returned (.tuple #[.int .i64 0,.int .i64 8])/\Bl w w') :=
 tmade_W (R:=fun e w'=>e=.returned (.tuple #[.int .i64 0,.int .i64 8])/\Bl w w') fun w1 hb=>(Make_3 (hW.below hb) hl home (n:=0) (by decide)).mono fun e w' hm=>by
  rcases hm with ⟨hx,-⟩ | ⟨-,rfl,hb'⟩
  ·exact absurd hx room
  ·exact⟨_,_,rfl,rfl,hb.trans (hb'.mono hb.size)⟩
theorem tMake_512 (hW:IsW w p M F) (light:Hid (∀ r t,M.at r=some t->Lite t)) (hl:M.last+2≤1099511627776) {h r:Int} (home:0≤h/\h<M.made.length) (room:¬ M.made.getD h.toNat 0<512) {v:Th} (hr:M.at r=some v) :
 Calls Tryz.prog 114 #[.pointer (some ⟨p,0,none⟩),.int .i64 h,.int .i64 r] w fun e w'=>e=.returned (.tuple #[.int .i64 0,.int .i64 0,.int .i64 8])/\∃ F',IsW w' p M F'/\Grew F w F' w':=by
 have hmf:∀ (fn:Fn) (first cap:Array Value) (w:World),(Instr.makeFunc fn first cap).run Tryz.prog w=.ok (.func fn first cap) w:=fun _ _ _ _=>rfl;have HW:=(show Hid (IsW w p M F)from hW);have Hhome:=(show Hid (0≤h/\h<M.made.length)from home);have Hr:=(show Hid (M.at r=some v)from hr);have Hroom:=(show Hid (¬ M.made.getD h.toNat 0<512)from room);clear hW home hr room
 go_enter_defers Tryz.func114,Tryz.ntmps114
 go_wp2_with fail
 obtain⟨hb4,q3,q6,q7,q8,hs4⟩:=four w (.cells #[.pointer (some ⟨p,0,none⟩)] 31) (.cells #[.int .i64 0] 25) (.cells #[.int .i64 0] 25) (.cells #[.int .i64 0] 32);revert hb4 q3 q6 q7 q8 hs4;generalize (((w.alloc _).alloc _).alloc _).alloc _=w4;intro hb4 q3 q6 q7 q8 hs4;have c3:w4.cell? ⟨w.heap.size,0,none⟩=some (.pointer (some ⟨p,0,none⟩)):=by rw [cell_blk q3];rfl
 have c8:w4.cell? ⟨w.heap.size+3,0,none⟩=some (.int .i64 0):=by rw [cell_blk q8];rfl
 have f8:w4.frozen? ⟨w.heap.size+3,0,none⟩=false:=frozen_blk q8 0;have hsame:w4.setCell ⟨w.heap.size+3,0,none⟩ (.int .i64 0)=w4:=setCell_same q8 rfl;have HQ:=(show Hid _ from And.intro q3 (And.intro q6 (And.intro q7 q8)));have HB4:=(show Hid (Bl w w4/\w4.heap.size=w.heap.size+4)from⟨hb4,hs4⟩);clear q3 q6 q7 q8 hb4 hs4
 go_wp2_with fail
 refine(tmay_W (HW.out.below HB4.out.1) Hhome.out (HW.out.ok.at_wf Hr.out) Hr.out).mono ?_;rintro e _ ⟨rfl,rfl⟩
 go_wp2_with fail
 refine(Copy_W (HW.out.below HB4.out.1) light).mono ?_;rintro e w5 ⟨p',F5,rfl,hW5,hF5,hb5⟩;have hq:=HQ.out;have hb45:∀ b,b<w.heap.size+4->w5.heap[b]? = w4.heap[b]?:=fun b hb=>hb5.block b (by have:=HB4.out.2;omega);have hs5:w.heap.size+4≤w5.heap.size:=by have:=hb5.size;have:=HB4.out.2;omega
 have q9:=blk_new w5 (.cells #[.pointer (some ⟨p',0,none⟩)] 31);have hB6:Bl w5 (w5.alloc (.cells #[.pointer (some ⟨p',0,none⟩)] 31)):=(Below.refl _ _).alloc (Nat.le_refl _) _
 have HQ6:Hid ((w5.alloc (.cells #[.pointer (some ⟨p',0,none⟩)] 31)).heap[w.heap.size]? = some (.cells #[.pointer (some ⟨p,0,none⟩)] 31 (0,0))/\(w5.alloc (.cells #[.pointer (some ⟨p',0,none⟩)] 31)).heap[w.heap.size+1]? = some (.cells #[.int .i64 0] 25 (0,0)) /\
  (w5.alloc (.cells #[.pointer (some ⟨p',0,none⟩)] 31)).heap[w.heap.size+2]? = some (.cells #[.int .i64 0] 25 (0,0))/\(w5.alloc (.cells #[.pointer (some ⟨p',0,none⟩)] 31)).heap[w.heap.size+3]? = some (.cells #[.int .i64 0] 32 (0,0)) /\
  (w5.alloc (.cells #[.pointer (some ⟨p',0,none⟩)] 31)).heap[w5.heap.size]? = some (.cells #[.pointer (some ⟨p',0,none⟩)] 31 (0,0))) :=
  ⟨(hB6.block _ (by omega)).trans ((hb45 _ (by omega)).trans hq.1),(hB6.block _ (by omega)).trans ((hb45 _ (by omega)).trans hq.2.1),(hB6.block _ (by omega)).trans ((hb45 _ (by omega)).trans hq.2.2.1),(hB6.block _ (by omega)).trans ((hb45 _ (by omega)).trans hq.2.2.2),q9⟩
 have HB6:Hid (Bl w (w5.alloc (.cells #[.pointer (some ⟨p',0,none⟩)] 31))/\w.heap.size+4≤w5.heap.size/\w5.heap.size<(w5.alloc (.cells #[.pointer (some ⟨p',0,none⟩)] 31)).heap.size) :=
  ⟨(HB4.out.1.trans (hb5.mono HB4.out.1.size)).trans (hB6.mono (by omega)),hs5,by simp⟩
 have HCy:Hid (IsW (w5.alloc (.cells #[.pointer (some ⟨p',0,none⟩)] 31)) p' M F5/\∀ b,F5 b->w.heap.size+4≤b):=⟨hW5.below hB6,fun b hb=>by have:=hF5 b hb;have:=HB4.out.2;omega⟩;clear hq hb45 hs5 q9 hB6 hb5 hW5 hF5 c3 c8 f8 hsame HQ HB4
 go_upto_region 6 with fail
 revert HQ6 HB6 HCy;generalize w5.alloc _=w6;generalize w5.heap.size=b9;intro HQ6 HB6 HCy;clear w5;have c3:w6.cell? ⟨w.heap.size,0,none⟩=some (.pointer (some ⟨p,0,none⟩)):=by rw [cell_blk HQ6.out.1];rfl
 have hmt:=made_tallyNo (HW.out.below HB6.out.1) (by omega) Hhome.out (by have:=Hroom.out;omega);have HMT:=(show Hid _ from hmt);clear hmt
 go_wp2_with fail
 refine Calls.mono HMT.out ?_;rintro e w7 HM7;obtain⟨rfl,hb7⟩:=HM7.out;have hq:=HQ6.out;have r3:=below_blk hb7 hq.1;have r6:=below_blk hb7 hq.2.1;have r7:=below_blk hb7 hq.2.2.1;have r8:=below_blk hb7 hq.2.2.2.1;have r9:=below_blk hb7 hq.2.2.2.2;have f7:w7.frozen? ⟨w.heap.size+2,0,none⟩=false:=frozen_blk r7 0;have c7':w7.cell? ⟨w.heap.size+2,0,none⟩=some (.int .i64 0):=by rw [cell_blk r7];rfl
 have e7:w7.setCell ⟨w.heap.size+2,0,none⟩ (.int .i64 0)=w7:=setCell_same r7 rfl;have f8:w7.frozen? ⟨w.heap.size+3,0,none⟩=false:=frozen_blk r8 0;have c8'':w7.cell? ⟨w.heap.size+3,0,none⟩=some (.int .i64 0):=by rw [cell_blk r8];rfl
 have s3:=blk_other r3 ⟨w.heap.size+3,0,none⟩ (.int .i64 8) (by show w.heap.size≠w.heap.size+3;omega);have s6:=blk_other r6 ⟨w.heap.size+3,0,none⟩ (.int .i64 8) (by show w.heap.size+1≠w.heap.size+3;omega);have s7:=blk_other r7 ⟨w.heap.size+3,0,none⟩ (.int .i64 8) (by show w.heap.size+2≠w.heap.size+3;omega);have s8:=blk_setCell r8 0 (.int .i64 8);have s9:=blk_other r9 ⟨w.heap.size+3,0,none⟩ (.int .i64 8) (by show b9≠w.heap.size+3;have:=HB6.out.2;omega);have hkk:Keeps (fun b=>b=w.heap.size+3) w7 (w7.setCell ⟨w.heap.size+3,0,none⟩ (.int .i64 8)):=Keeps.setCell w7 _ _ rfl;have hlt:∀ b,F b->b<w.heap.size:=HW.out.lt;have hb67:Bl w w7:=HB6.out.1.trans (hb7.mono HB6.out.1.size)
 have HW10:Hid (IsW (w7.setCell ⟨w.heap.size+3,0,none⟩ (.int .i64 8)) p M F/\Grew F w F (w7.setCell ⟨w.heap.size+3,0,none⟩ (.int .i64 8))) :=
  ⟨(HW.out.below hb67).keeps hkk (fun b hb' e=>by have:=hlt b hb';omega),(Grew.refl_below hb67).put _ (by omega) _⟩
 have HCy10:Hid (IsW (w7.setCell ⟨w.heap.size+3,0,none⟩ (.int .i64 8)) p' M F5):=(HCy.out.1.below hb7).keeps hkk (fun b hb' e=>by have:=HCy.out.2 b hb';omega);have HQ10:=(show Hid _ from And.intro s3 (And.intro s6 (And.intro s7 (And.intro s8 s9))));have HN10:Hid (w.heap.size+4≤b9/\∀ b,w.heap.size≤b->b≤b9->¬ F b):=⟨HB6.out.2.1,fun b h1 _ e=>by have:=hlt b e;omega⟩;clear hq r3 r6 r7 r8 r9 s3 s6 s7 s8 s9 hkk hb7 hb67 hlt HM7 HMT c3 HQ6 HB6 HCy
 go_upto_region 7 with fail
 revert HW10 HQ10 HCy10;clear f7 c7' e7 f8 c8'';generalize w7.setCell _ _=w10;intro HW10 HCy10 HQ10;have c8:w10.cell? ⟨w.heap.size+3,0,none⟩=some (.int .i64 8):=by rw [cell_blk HQ10.out.2.2.2.1];rfl
 go_wp2_with fail
 clear c8;refine leaves_cons (f:=210) (args:=#[.pointer (some ⟨w.heap.size+3,0,none⟩),.pointer (some ⟨w.heap.size,0,none⟩),.pointer (some ⟨b9,0,none⟩),.pointer (some ⟨w.heap.size+1,0,none⟩),.pointer (some ⟨w.heap.size+2,0,none⟩)]) (by simp) (by simp [go_sem]) ?_
 refine(tMake1_bad (w.heap.size+3) w.heap.size b9 (w.heap.size+1) (w.heap.size+2) .returning HW10.out.1 HCy10.out light HQ10.out.2.2.2.1 HQ10.out.1 HQ10.out.2.2.2.2 HQ10.out.2.1 HQ10.out.2.2.1
  (HN10.out.2 _ (by omega) (by have:=HN10.out.1;omega)) (HN10.out.2 _ (by omega) (by have:=HN10.out.1;omega)) (HN10.out.2 _ (by omega) (by have:=HN10.out.1;omega)) (by omega) (by omega) (by omega)).mono ?_
 rintro e u' w11 ⟨rfl,rfl,h11⟩;obtain⟨F',hW',hg',c6,c7,c8⟩:=h11.out;refine⟨.tuple #[.int .i64 0,.int .i64 0,.int .i64 8],?_,rfl,F',hW',hg' F w HW10.out.2 (by omega) (by omega)⟩;simp [results,Tryz.f114,go_sem,c6,c7,c8]
def Tw3 (w:World) (p q:Nat) (M:WM) (F G:Nat->Prop) (f:FuncId) (a:Array Value) (g:FuncId) (b:Array Value):Prop :=
 Calls Tryz.prog f a w fun e w5=>∃ x y z,e=.returned (.tuple #[.int .i64 x,.int .i64 y,.int .i64 z])/\Keeps (fun b=>F b\/G b) w w5 /\
  ∀ w',Bl w5 w'->Calls Tryz.prog g b w' fun e w6=>e=.returned (.tuple #[.int .i64 x,.int .i64 y,.int .i64 z])/\TStep w p q M F G w6
theorem TP.lite (h:TP M):∀ r t,M.at r=some t->Lite t:=fun r t ht=>by
 obtain⟨k,hh,n,tg,bi,s,e⟩:=(h.at ht).lt;exact⟨_,_,_,_,_,_,_,_,_,_,e,plain0⟩
theorem mk13_may {h r:Int} (he:mayT M h r≠0):mk13E M h r=mayT M h r:=by
 unfold mk13E mayT at *;split
 ·rw [if_pos (by assumption)]at he;split
  ·rw [if_pos (by assumption)]at he;exact absurd rfl he
  ·rfl
 ·rfl
theorem mk13_yes {h r:Int} (he:mayT M h r=0):sideB M h=true/\(∃ v,M.at r=some v)/\mk13E M h r=if M.made.getD h.toNat 0+2 > 512 then 8 else 0:=by
 unfold mayT at he;split at he
 ·rename_i h1
  split at he
  ·rename_i h2
   exact⟨h1,Option.isSome_iff_exists.1 h2,by unfold mk13E;rw [if_pos h1,if_pos h2]⟩
  ·cases he
 ·cases he
theorem mk2 (S:TS w p q M F G) (hl:M.last+2≤100000) {h r:Int} (hr:(Lit.int .i64 r).wf=true) :
 Tw3 w p q M F G 114 #[.pointer (some ⟨p,0,none⟩),.int .i64 h,.int .i64 r] 118 #[.pointer (some ⟨q,0,none⟩),.int .i64 h,.int .i64 r]:=by
 have hQ:=S.tp.q (by omega)
 by_cases he:mayT M h r=0
 rotate_left
 ·refine(tMake_no S.W hr he).mono ?_;rintro e w5 ⟨rfl,hb⟩;refine⟨_,_,_,rfl,Keeps.of_below hb,fun w5' hb'=>?_⟩;have:=make13_no (S.R.below (hb.trans (hb'.mono hb.size))) hQ (h:=h) (r:=r) (by rw [mk13_may he];exact he);rw [mk13_may he]at this;refine this.mono ?_;rintro e w6 ⟨rfl,hb6⟩;exact⟨rfl,S.same ((hb.trans (hb'.mono hb.size)).trans (hb6.mono (Nat.le_trans hb.size hb'.size)))⟩
 obtain⟨hs,⟨v,hv⟩,hE⟩:=mk13_yes he;have home:=sideB_iff.1 hs;have lite:=(show Hid _ from S.tp.lite)
 by_cases room:M.made.getD h.toNat 0+1<512
 ·rw [if_neg (by omega)]at hE;have hA:=tally_add (M:=M) (n:=0) (by omega) home (by omega);have hP1:TP (M.add (tallyT h 0)):=S.tp.add hA (.inr (.inl ⟨h,0,rfl,by decide,by decide⟩));have hml:(M.add (tallyT h 0)).made.length=M.made.length:=by rw [hP1.made,S.tp.made]
  have hgd:(M.add (tallyT h 0)).made.getD h.toNat 0=M.made.getD h.toNat 0+1:=by
   show (if (3:Int)=14 then M.made else M.made.set h.toNat (M.made.getD h.toNat 0+1)).getD h.toNat 0=_
   rw [if_neg (by decide)];have:h.toNat<M.made.length:=by omega
   simp [List.getD_eq_getElem?_getD,this]
  have hv1:=WM.add_at_old S.tp.ok (tallyT h 0) hv;have hn1:=WM.add_at_new S.tp.ok (tallyT h 0);have hB:AddOk (M.add (tallyT h 0)) (tapT h r (M.last+1)):=tap_add hP1.ok (by show M.last+1+1≤_;omega) (by rw [hml];exact home) (by rw [hgd];exact room) hv1 (hP1.ok.at_wf hn1);have hP2:=hP1.add hB (.inr (.inr (.inr (.inr (.inr (.inr ⟨h,r,M.last+1,rfl,⟨v,WM.add_at_old hP1.ok _ hv1⟩,_,WM.add_at_old hP1.ok _ hn1,rfl,rfl⟩))))));refine(tMake_W S.W lite (by omega) home room hv).mono ?_;rintro e w5 ⟨rfl,F',hW,hg⟩;refine⟨_,_,_,rfl,hg.1.mono fun _ _ h=>.inl h,fun w5' hb'=>(make13_W (S.R5 (hg.on hb')) hQ hl hE).mono ?_⟩;rintro e w6 ⟨rfl,G',hR,hg6⟩;exact⟨rfl,S.two (hW.below hb') (hg.on hb') hR hg6 hP2 (by show M.last+1+1≤M.last+2;omega)⟩
 ·rw [if_pos (by omega)]at hE
  have hfull:Calls Tryz.prog 114 #[.pointer (some ⟨p,0,none⟩),.int .i64 h,.int .i64 r] w fun e w'=>e=.returned (.tuple #[.int .i64 0,.int .i64 0,.int .i64 8])/\∃ F',IsW w' p M F'/\Grew F w F' w':=by
   by_cases e:M.made.getD h.toNat 0=511
   ·exact tMake_full S.W lite (by omega) home e hv
   ·exact tMake_512 S.W lite (by omega) home (by omega) hv
  refine hfull.mono ?_;rintro e w5 ⟨rfl,F',hW,hg⟩;refine⟨_,_,_,rfl,hg.1.mono fun _ _ h=>.inl h,fun w5' hb'=>?_⟩;have:=make13_no (S.R5 (hg.on hb')) hQ (h:=h) (r:=r) (by rw [hE];decide);rw [hE]at this;refine this.mono ?_;rintro e w6 ⟨rfl,hb6⟩;exact⟨rfl,S.two (hW.below hb') (hg.on hb') ((S.R5 (hg.on hb')).below hb6) ⟨Keeps.of_below hb6,fun _ h=>.inl h⟩ S.tp (by omega)⟩
end
end Go.Proofs.YthaliljaglldjaaGreat
namespace Go.Proofs.YthaliljaglldjaaGreat
set_option maxHeartbeats 16000000
set_option maxRecDepth 100000
open Go.RowKit Go.Shelf Go.ChangeMaps Go.MapKept
section
attribute [local go_sem] Oper.semAt_some
def isOf (r:Int) (x:Int × Th):Bool:=x.2.kind==16 && x.2.bi==r
def ofL (r:Int) (xs:List (Int × Th)):List Int:=(xs.filter (isOf r)).map (·.1)
theorem ofL_skip {r:Int} {x:Int × Th} (h:isOf r x=false) (xs:List (Int × Th)):ofL r (xs ++ [x])=ofL r xs:=by simp [ofL,List.filter_append,h]
theorem ofL_push {r:Int} {x:Int × Th} (h:isOf r x=true) (xs:List (Int × Th)):ofL r (xs ++ [x])=ofL r xs ++ [x.1]:=by simp [ofL,List.filter_append,h]
structure OfAt (w:World) (b0 B:Nat) (p:Nat) (r:Int) (xs:List (Int × Th)) (W:World):Prop where
 below:Bl w W
 size:b0≤W.heap.size
 q1:W.cell? ⟨w.heap.size,0,none⟩=some (.pointer (some ⟨p,0,none⟩))
 q2:W.cell? ⟨w.heap.size+1,0,none⟩=some (.int .i64 r)
 row:∃ v,W.heap[B]? = some (.cells #[v] 267 (0,0))/\W.ownsRow b0 25 1 v (ofL r xs).length ((ofL r xs).map (Value.int .i64))
theorem OfAt.grown {w W W':World} {b0 B p:Nat} {r:Int} {xs:List (Int × Th)} {row:Option Nat} (h:OfAt w b0 B p r xs W) (hB:B<b0) (hb0:w.heap.size+2≤b0) (hg:W.grownBy W' row)
 (hr:∀ x,row=some x->b0≤x/\∃ o:Obj,W.heap[x]? = some o/\o.isCells=false):OfAt w b0 B p r xs W':=by
 have hk:∀ c,c<b0->c<W.heap.size->W'.heap[c]? = W.heap[c]?:=fun c hc hl=>hg.block c hl (fun e=>by have:=(hr c e.symm).1;omega);obtain⟨v,hv,hrow⟩:=h.row;have l1:=World.block_lt_of_cell? _ _ h.q1;have l2:=World.block_lt_of_cell? _ _ h.q2;refine⟨h.below.grown hg h.below.size (fun k e=>by have:=(hr k e).1;omega),Nat.le_trans h.size hg.size,?_,?_,v,(hk B hB (blk_lt hv)).trans hv,row_from hrow hg (fun x e=>(hr x e).2)⟩
 ·rw [World.cell?_of_block (hk _ (by show w.heap.size<b0;omega) l1)];exact h.q1
 ·rw [World.cell?_of_block (hk _ (by show w.heap.size+1<b0;omega) l2)];exact h.q2
theorem OfAt.skip {w W:World} {b0 B p:Nat} {r:Int} {xs:List (Int × Th)} {x:Int × Th} (h:OfAt w b0 B p r xs W) (hx:isOf r x=false):OfAt w b0 B p r (xs ++ [x]) W :=
 ⟨h.below,h.size,h.q1,h.q2,by rw [ofL_skip hx];exact h.row⟩
theorem OfAt.push {w:World} {b0 B p:Nat} {r:Int} {xs:List (Int × Th)} {x:Int × Th} {W2 W3:World} {v:Value} (h:OfAt w b0 B p r xs W2) (hB:B<b0) (hb0:w.heap.size+2≤b0) (hBx:w.heap.size+1<B)
 (hv:W2.heap[B]? = some (.cells #[v] 267 (0,0))) (hrow:W2.ownsRow b0 25 1 v (ofL r xs).length ((ofL r xs).map (Value.int .i64))) (ha:AddPost W2 b0 B v (ofL r xs) x.1 W3) (hx:isOf r x=true) :
 OfAt w b0 B p r (xs ++ [x]) W3/\KeepsOthers W2 W3/\KpO (boxOwn B) W2 W3:=by
 obtain⟨v',a1,a2,a3,a4⟩:=ha
 have hvb:∀ b,v.ownBlock=some b->b0≤b/\∃ cs e fr,W2.heap[b]? = some (.cells cs e fr):=fun b hb=>by
  rcases hrow.2 with ⟨rfl,-⟩ | ⟨g,cap,cur,rfl,h1,hg,-⟩
  ·cases hb
  ·simp only [Value.ownBlock,Option.some.injEq]at hb;subst hb;exact⟨h1,_,_,_,hg⟩
 have ho:∀ b,b<W2.heap.size->b<b0->b≠B->W3.heap[b]? = W2.heap[b]?:=fun b h1 h2 h3=>a4.block b h1 fun e=>e.elim h3 fun e=>by have:=(hvb b e).1;omega
 have l1:=World.block_lt_of_cell? _ _ h.q1;have l2:=World.block_lt_of_cell? _ _ h.q2;refine⟨⟨h.below.trans (Keeps.below a4 h.below.size fun b e=>e.elim (fun e=>by omega) fun e=>by have:=(hvb b e).1;omega),Nat.le_trans h.size a4.size,?_,?_,v',a1,by rw [ofL_push hx];exact a2⟩,⟨a4.size,fun k o hk hc=>?_⟩,⟨a4.size,fun b cs e fr hb hn=>?_,fun b hb=>?_⟩⟩
 ·rw [World.cell?_of_block (ho _ l1 (by show w.heap.size<b0;omega) (by show w.heap.size≠B;omega))];exact h.q1
 ·rw [World.cell?_of_block (ho _ l2 (by show w.heap.size+1<b0;omega) (by show w.heap.size+1≠B;omega))];exact h.q2
 ·refine(a4.block k (blk_lt hk) fun e=>?_).trans hk
  rcases e with rfl | e
  ·rw [hv]at hk
   cases hk
   cases hc
  ·obtain⟨-,cs,e',fr,hb⟩:=hvb k e;rw [hb]at hk
   cases hk
   cases hc
 ·exact(a4.block b (blk_lt hb) fun e'=>hn (e'.imp id fun e'=>⟨v,by rw [cell_blk hv];rfl,e'⟩)).trans hb
 ·rcases hb with rfl | ⟨u,hu,hub⟩
  ·exact .inl (.inl rfl)
  ·have hu':v'=u:=by
    rw [cell_blk a1]at hu;exact Option.some.inj (show some v'=some u from hu)
   subst hu'
   rcases a3 with h4 | h4
   ·exact .inl (.inr ⟨v,by rw [cell_blk hv];rfl,h4.symm.trans hub⟩)
   ·rw [h4]at hub
    cases hub
    exact .inr (by omega)
theorem Of_W {w:World} {p:Nat} {M:WM} {F:Nat->Prop} (hW:IsW w p M F) {r h c:Int} (ht:M.at r=some (tallyT h c)) (hT:∀ x ∈ M.things,(∃ h' tg n,x.2=tapT h' tg n)\/x.2.kind≠16/\∃ k h' n tg bi s,x.2=lt k h' 0 0 n 0 tg bi s false) :
 Calls Tryz.prog 127 #[.pointer (some ⟨p,0,none⟩),.int .i64 r] w fun e w'=>∃ v,e=.returned (.tuple #[v,.int .i64 0]) /\
  w'.ownsRow w.heap.size 25 1 v (ofL r M.things).length ((ofL r M.things).map (Value.int .i64))/\Bl w w':=by
 have HW:=(show Hid (IsW w p M F)from hW);have hr:=hW.ok.at_wf ht;have HS:Hid (∀ w1,Bl w w1->Calls Tryz.prog 41 #[.pointer (some ⟨p,0,none⟩)] w1 fun e w'=>e=.returned (.int .i64 M.made.length)/\w1=w'):=fun w1 hb=>Sides_W (hW.below hb)
 have HI:Hid (∀ w1,Bl w w1->Calls Tryz.prog 49 #[.pointer (some ⟨p,0,none⟩),.int .i64 r] w1 fun e w'=>e=.returned (.bool true)/\w1=w'):=fun w1 hb=>by
  have:=Is_W (hW.below hb) hr;rw [ht]at this;exact this
 have HK:Hid (∀ w1,Bl w w1->Calls Tryz.prog 50 #[.pointer (some ⟨p,0,none⟩),.int .i64 r] w1 fun e w'=>e=.returned (.int .u8 3)/\w1=w'):=fun w1 hb=>by
  have:=Kind_W (hW.below hb) hr;have e:M.kindOf r=3:=by unfold WM.kindOf;rw [ht];rfl
  rw [e]at this;exact this
 have HT:=(show Hid _ from hT)
 have hne:((M.made.length:Int)==0)=false:=by
  have:=hW.ok.made;exact beq_eq_false_iff_ne.2 (by omega)
 have HB0:Hid (Bl w ((w.alloc (.cells #[.pointer (some ⟨p,0,none⟩)] 31)).alloc (.cells #[.int .i64 r] 25))):=(((Below.refl _ w).alloc (Nat.le_refl _) _).alloc (by simp) _);clear hW ht hT hr;refine(callsIn_wide (n:=5)).1 ?_;refine callsIn_of_wp_marks Tryz.func127 rfl trivial ?_ rfl;simp only [Tryz.ntmps127,List.size_toArray,List.length_cons,List.length_nil,Nat.reduceAdd,Nat.reduceSub,Array.replicate_succ,Array.replicate_zero,List.push_toArray,List.append_toArray,List.nil_append,List.cons_append]
 gi_wp2_with fail
 refine⟨trivial,(callsIn_wide.2 (HS.out _ HB0.out)).mono ?_⟩;rintro e _ ⟨rfl,rfl⟩
 gi_wp2_with fail
 refine⟨trivial,(callsIn_wide.2 (HI.out _ HB0.out)).mono ?_⟩;rintro e _ ⟨rfl,rfl⟩
 gi_wp2_with fail
 refine⟨trivial,(callsIn_wide.2 (HK.out _ HB0.out)).mono ?_⟩;rintro e _ ⟨rfl,rfl⟩;clear HS HI HK
 gi_wp2_with fail
 obtain⟨w3,hw3⟩:∃ w3,w3=((w.alloc (.cells #[.pointer (some ⟨p,0,none⟩)] 31)).alloc (.cells #[.int .i64 r] 25)).alloc (.cells #[.slice none 0 0] 267):=⟨_,rfl⟩;rw [<- hw3];obtain⟨B,hBe⟩:∃ B,B=w.heap.size+1+1:=⟨_,rfl⟩;rw [<- hBe];have HB2e:Hid (B=w.heap.size+2):=hBe;have HZ3:Hid (w3.heap.size=w.heap.size+3):=by show _=_;rw [hw3];simp
 have q1:w3.cell? ⟨w.heap.size,0,none⟩=some (.pointer (some ⟨p,0,none⟩)):=by
  rw [hw3,cell_blk (blk_old _ _ (blk2_old w _ _))];rfl
 have q2:w3.cell? ⟨w.heap.size+1,0,none⟩=some (.int .i64 r):=by
  rw [hw3,cell_blk (blk_old _ _ (blk2_new w _ _))];rfl
 have HB2:Hid (Bl w w3):=by rw [hw3];exact HB0.out.alloc (by simp;omega) _
 have HC8:Hid (w3.heap[B]? = some (.cells #[.slice none 0 0] 267 (0,0))):=by
  have:=World.alloc_heap_new ((w.alloc (.cells #[.pointer (some ⟨p,0,none⟩)] 31)).alloc (.cells #[.int .i64 r] 25)) (.cells #[.slice none 0 0] 267);have e:((w.alloc (.cells #[.pointer (some ⟨p,0,none⟩)] 31)).alloc (.cells #[.int .i64 r] 25)).heap.size=B:=by rw [hBe];simp
  rw [hw3,← e];exact this
 have HBe:Hid (w.heap.size+1<B):=by show _<_;omega
 clear hw3 HB0 hBe;refine⟨trivial,(callsIn_wide.2 (Things_W w3 p)).mono ?_⟩;rintro e _ ⟨rfl,rfl⟩
 gi_wp2_with fail
 have hB3:B<w3.heap.size:=blk_lt HC8.out;have HB4:Hid (Bl w (w3.alloc (.cells #[.pointer (some ⟨p,0,none⟩)] 31))):=HB2.out.alloc HB2.out.size _;have hc8:(w3.alloc (.cells #[.pointer (some ⟨p,0,none⟩)] 31)).heap[B]? = some (.cells #[.slice none 0 0] 267 (0,0)):=(Below.heap_alloc _ _ _ hB3).trans HC8.out
 have hbx:(w3.alloc (.cells #[.pointer (some ⟨p,0,none⟩)] 31)).cell? ⟨w3.heap.size,0,none⟩=some (.pointer (some ⟨p,0,none⟩)):=by
  rw [cell_blk (World.alloc_heap_new w3 _)];rfl
 have hin:OfAt w (w3.alloc (.cells #[.pointer (some ⟨p,0,none⟩)] 31)).heap.size B p r [] (w3.alloc (.cells #[.pointer (some ⟨p,0,none⟩)] 31)):=by
  refine⟨HB4.out,Nat.le_refl _,?_,?_,_,hc8,World.ownsRow_nil _ _ _ _⟩
  ·rw [World.cell?_of_block (Below.heap_alloc _ _ _ (World.block_lt_of_cell? _ _ q1))];exact q1
  ·rw [World.cell?_of_block (Below.heap_alloc _ _ _ (World.block_lt_of_cell? _ _ q2))];exact q2
 have hsz4:w.heap.size+2≤(w3.alloc (.cells #[.pointer (some ⟨p,0,none⟩)] 31)).heap.size/\B<(w3.alloc (.cells #[.pointer (some ⟨p,0,none⟩)] 31)).heap.size:=by
  have h1:=HZ3.out;have h2:=HB2e.out;simp;omega
 have hown:∀ W,Below (w3.alloc (.cells #[.pointer (some ⟨p,0,none⟩)] 31)).heap.size (w3.alloc (.cells #[.pointer (some ⟨p,0,none⟩)] 31)) W->∀ b,boxOwn B W b->b<(w3.alloc (.cells #[.pointer (some ⟨p,0,none⟩)] 31)).heap.size:=by
  rintro W hb b (rfl | ⟨v,hv,hv2⟩)
  ·exact hsz4.2
  ·rw [cell_blk ((hb.block _ hsz4.2).trans hc8)]at hv
   cases hv
   cases hv2
 have hseq:=things1_seq (n:=4) (HW.out.below HB4.out) hbx (boxOwn B) hown (fun y:{x // x ∈ M.things}=>y.1) M.things.attach (List.attach_map_subtype_val _);have HSQ:=(show Hid _ from hseq);clear hseq hown hbx hc8 q1 q2;generalize hw4:w3.alloc (.cells #[.pointer (some ⟨p,0,none⟩)] 31)=w4 at *;generalize w3.heap.size=bx at *
 refine wpIn_rangeFunc_ownF rfl (by decide) (gf:=224) (lb:=#[.pointer (some ⟨bx,0,none⟩)]) rfl trivial (enters_of Tryz.func224 (by kernel_rfl) rfl) HSQ.out (fun h k=>h.trans k)
  (fun W l o o' hl ho hc _=>boxOwn_put hsz4.2 W l o o' hl ho hc) (Below.refl _ _) (fun _=>rfl)
  (fun(pre:List {x // x ∈ M.things}) W=>OfAt w w4.heap.size B p r (pre.map (fun x=>x.1)) W) (fun _ _ _=>False)
  (fun s W W' row hs hg hr=>by exact OfAt.grown hs hsz4.2 hsz4.1 hg hr) (fun _ _ _ _ _ hs _ _=>hs) hin
  (fun x=>{ tmps:=#[.pointer (some ⟨p,0,none⟩),.int .i64 r,.pointer (some ⟨w.heap.size,0,none⟩),.pointer (some ⟨w.heap.size+1,0,none⟩),.slice none 0 0,.int .i64 0,.pointer (some ⟨B,0,none⟩),.int .i64 x.1.1,.int .u8 x.1.2.kind,undef,undef,.pointer (some ⟨p,0,none⟩),.bool false,.bool false,.pointer (some ⟨p,0,none⟩),.int .i64 M.made.length,.bool false,.bool false,.pointer (some ⟨p,0,none⟩),.int .i64 r,.bool true,.bool false,.pointer (some ⟨p,0,none⟩),.int .i64 r,.int .u8 3,.bool false,.pointer (some ⟨p,0,none⟩),.func (.func 224) #[] #[.pointer (some ⟨bx,0,none⟩)],.int .i64 x.1.1,.int .u8 x.1.2.kind,undef,undef,undef,undef,undef,undef,undef,undef,undef,undef,undef,undef,undef,undef,undef,undef,undef,undef,undef,undef,undef],defers:=[] }) ?assign ?body ?done ?stop
 case assign =>
  intro l x W K hK
  gi_wp2
  exact hK
 case body =>
  rintro l pre ⟨⟨i,t⟩,hm⟩ W hI hlen
  have Hk1:Hid (((ofL r (pre.map (fun x=>x.1))).length:Int)≤1099511627776):=by
   have h1:=HW.out.ok.len_le;have h2:=HW.out.ok.last.2;have h3:=List.length_filter_le (isOf r) (pre.map (fun x=>x.1));rw [List.length_map]at h3;show _≤_;unfold ofL;rw [List.length_map];omega
  clear hlen;have hat:M.at i=some t:=HW.out.ok.at_of_mem hm;have hiw:=HW.out.ok.at_wf hat;have HBW:Hid (B<W.heap.size):=Nat.lt_of_lt_of_le hsz4.2 hI.size
  rcases HT.out (i,t) hm with ⟨h',tg,n,rfl⟩ | ⟨hk,k,h',n,tg,bi,s,rfl⟩
  ·have HTA:=(show Hid _ from Tally_tap (HW.out.below hI.below) hat);have HI:=(show Hid _ from hI);have q1:=hI.q1;have q2:=hI.q2;clear hI hat
   gi_wp2_with fail
   refine⟨trivial,(CallsIn.inRound l (callsIn_wide.2 HTA.out)).mono ?_⟩;rintro e W2 ⟨rfl,hb2⟩;have HBW2:=(show Hid (Bl W W2)from hb2);have HI2:Hid (OfAt w w4.heap.size B p r (List.map (fun x=>x.val) pre) W2):=OfAt.grown HI.out hsz4.2 hsz4.1 (grownBy_of_below hb2) (fun _ e=>by cases e);have q3:=HI2.out.q2;obtain⟨vB,hv,hrow⟩:=HI2.out.row;have HV:=(show Hid _ from hv);have HRow:=(show Hid _ from hrow);clear hb2 hv hrow q1 q2 HTA
   by_cases hmr:n=r
   ·have Hx:Hid (isOf r (i,tapT h' tg n)=true):=by show _=_;simp [isOf,hmr]
    have hmr':(n==r)=true:=by simpa using hmr
    have hne:vB.ownBlock≠some B:=fun e=>by
     rcases HRow.out.2 with ⟨rfl,-⟩ | ⟨g,cap,cur,rfl,h1,-⟩
     ·cases e
     ·injection e with e
      have e:g=B:=e;have:=hsz4.2;omega
    have HAdd:=(show Hid _ from add_W W2 i HV.out HRow.out hne HI2.out.size Hk1.out);clear hmr hne
    gi_wp2_with fail
    refine⟨trivial,(CallsIn.inRound l (callsIn_wide.2 HAdd.out)).mono ?_⟩;rintro e W3 ⟨rfl,ha⟩;obtain⟨p1,p2,p3⟩:=OfAt.push (x:=(i,tapT h' tg n)) HI2.out hsz4.2 hsz4.1 HBe.out HV.out HRow.out ha.out Hx.out;have HP:Hid (KeepsOthers W W3/\KpO (boxOwn B) W W3/\OfAt w w4.heap.size B p r (List.map (fun x=>x.val) pre ++ [(i,tapT h' tg n)]) W3):=⟨(keepsOthers_of_below HBW2.out).trans p2,(KpO_of_below HBW.out HBW2.out).trans p3,p1⟩;clear p1 p2 p3 ha HAdd
    gi_wp2_with fail
    refine⟨HP.out.1,HP.out.2.1,?_⟩;show OfAt _ _ _ _ _ (List.map _ (pre ++ [_])) _;rw [List.map_append];exact HP.out.2.2
   ·have hmr':(n==r)=false:=by simpa using hmr
    have Hx:Hid (isOf r (i,tapT h' tg n)=false):=by show _=_;simp [isOf,hmr]
    gi_wp2_with fail
    refine⟨keepsOthers_of_below HBW2.out,KpO_of_below HBW.out HBW2.out,?_⟩;show OfAt _ _ _ _ _ (List.map _ (pre ++ [_])) _;rw [List.map_append];exact OfAt.skip HI2.out Hx.out
  ·have hk':k≠16:=hk;have hk0:(k==16)=false:=by simpa using hk'
   have HTA:=(show Hid _ from Tally_not (HW.out.below hI.below) hat plain0 hk');have HI:=(show Hid _ from hI);have Hx:Hid (isOf r (i,lt k h' 0 0 n 0 tg bi s false)=false):=by show _=_;simp [isOf,hk']
   have q1:=hI.q1;clear hI hat hk hk'
   gi_wp2_with fail
   refine⟨trivial,(CallsIn.inRound l (callsIn_wide.2 HTA.out)).mono ?_⟩;rintro e W2 ⟨rfl,hb2⟩;have HBW2:=(show Hid (Bl W W2)from hb2);have HI2:Hid (OfAt w w4.heap.size B p r (List.map (fun x=>x.val) pre) W2):=OfAt.grown HI.out hsz4.2 hsz4.1 (grownBy_of_below hb2) (fun _ e=>by cases e);clear hb2 q1 HTA
   gi_wp2_with fail
   refine⟨keepsOthers_of_below HBW2.out,KpO_of_below HBW.out HBW2.out,?_⟩;show OfAt _ _ _ _ _ (List.map _ (pre ++ [_])) _;rw [List.map_append];exact OfAt.skip HI2.out Hx.out
 case done =>
  rintro D ys W hD rfl hI hK;rw [List.attach_map_subtype_val]at hI;obtain⟨vB,hv,hrow⟩:=hI.row;have cB:W.cell? ⟨B,0,none⟩=some vB:=by rw [cell_blk hv];rfl
  have HI:=(show Hid _ from hI);have HRow:=(show Hid _ from hrow);clear hI hv hrow
  gi_wp2_with fail
  refine⟨by simp,.inl ⟨_,_,rfl,run_takeDeferred hK,?_⟩⟩;refine⟨_,results_tmp2 rfl _ _ _,vB,rfl,row_base (by omega) (row_from HRow.out (grownBy_putObj' W D _) (fun x e=>by cases e;exact⟨_,hK,rfl⟩)),?_⟩;exact(HI.out.grown hsz4.2 hsz4.1 (grownBy_putObj' W D _) (fun x e=>by cases e;exact⟨hD,_,hK,rfl⟩)).below
 case stop =>
  rintro D c pre W _ _ h _;exact h.elim
end
end Go.Proofs.YthaliljaglldjaaGreat
namespace Go.Proofs.YthaliljaglldjaaGreat
set_option maxHeartbeats 16000000
set_option maxRecDepth 100000
open Go.RowKit Go.ChangeMaps Go.MapKept
section
variable {w:World} {p q:Nat} {M:WM} {F G:Nat->Prop}
def NumsOk (w:World) (L:List Int) (y:Int) (e:Ending) (w':World):Prop:=∃ v,e=.returned (.tuple #[v,.int .i64 y])/\w'.ownsRow w.heap.size 25 1 v L.length (L.map (Value.int .i64))/\Bl w w'
theorem NumsOk.nil {w w':World} {y:Int} (pa:Option Addr) (h:Bl w w') (hp:pa=none):NumsOk w [] y (.returned (.tuple #[.slice pa 0 0,.int .i64 y])) w':=by
 subst hp;exact⟨_,rfl,World.ownsRow_nil _ _ _ _,h⟩
theorem taps2 (hP:TP M) (hl:M.last+2≤100000) {r:Int} (hr:(Lit.int .i64 r).wf=true):∃ (L:List Int) (y:Int),L.length≤100000/\(∀ w,IsW w p M F->Calls Tryz.prog 117 #[.pointer (some ⟨p,0,none⟩),.int .i64 r] w (NumsOk w L y)) /\
 ∀ w,IsR w q M G->Calls Tryz.prog 121 #[.pointer (some ⟨q,0,none⟩),.int .i64 r] w (NumsOk w L y):=by
 have hQ:=hP.q (by omega);have hlen:M.things.length≤100000:=hQ.good.ok.len
 cases ht:M.at r with
 | none =>
   refine⟨[],5,by simp,fun w hW=>(Taps_0 hW hr ht).mono ?_,fun w hR=>(taps13_no hR hQ.good.ok hP.ok ht).mono ?_⟩
   ·rintro e w' ⟨rfl,hb⟩;exact NumsOk.nil none hb rfl
   ·rintro e w' ⟨rfl,hb⟩;exact NumsOk.nil none hb rfl
 | some t =>
   obtain⟨l,hw,-⟩:=way_ex hP.ok r
   have hl0:l ≠ []:=fun e=>by
    rw [e]at hw
    cases hk:wrapsB t.kind with
    | true =>
      obtain⟨l',e1,-⟩:=hw.wrap ht hk
      cases e1
    | false=>have:=hw.base ht hk;cases this
   refine⟨M.tapsL l,0,?_,fun w hW=>Taps_W hW hw ht,fun w hR=>taps13_W hR hQ.good.ok hP.ok hw hl0⟩;have h1:=way_len hP.ok hw;have h2:(M.tapsL l).length≤l.length:=List.length_filter_le _ _;omega
end
section
variable {w:World} {p q:Nat} {M:WM} {F G:Nat->Prop}
theorem Of_no (hW:IsW w p M F) {r:Int} (hr:(Lit.int .i64 r).wf=true) (he:tapE M 3 r≠0) :
 Calls Tryz.prog 127 #[.pointer (some ⟨p,0,none⟩),.int .i64 r] w fun e w'=>e=.returned (.tuple #[.slice none 0 0,.int .i64 (tapE M 3 r)])/\Bl w w':=by
 have HB0:Hid (Bl w ((w.alloc (.cells #[.pointer (some ⟨p,0,none⟩)] 31)).alloc (.cells #[.int .i64 r] 25))):=(((Below.refl _ w).alloc (Nat.le_refl _) _).alloc (by simp) _);have HS:Hid (∀ w1,Bl w w1->Calls Tryz.prog 41 #[.pointer (some ⟨p,0,none⟩)] w1 fun e w'=>e=.returned (.int .i64 M.made.length)/\w1=w'):=fun w1 hb=>Sides_W (hW.below hb)
 have hne:((M.made.length:Int)==0)=false:=by
  have:=hW.ok.made;exact beq_eq_false_iff_ne.2 (by omega)
 cases ht:M.at r with
 | none =>
   have HE:Hid (tapE M 3 r=5):=tapE_none ht
   have HI:Hid (∀ w1,Bl w w1->Calls Tryz.prog 49 #[.pointer (some ⟨p,0,none⟩),.int .i64 r] w1 fun e w'=>e=.returned (.bool false)/\w1=w'):=fun w1 hb=>by
    have:=Is_W (hW.below hb) hr;rw [ht]at this;exact this
   clear hW ht hr he
   go_enter Tryz.func127,Tryz.ntmps127
   go_wp2_with fail
   refine Calls.mono (HS.out _ HB0.out) ?_;rintro e _ ⟨rfl,rfl⟩
   go_wp2_with fail
   refine Calls.mono (HI.out _ HB0.out) ?_;rintro e _ ⟨rfl,rfl⟩
   go_wp2_with fail
   go_ret2
   exact⟨by rw [HE.out];rfl,HB0.out⟩
 | some t =>
   have hk:t.kind≠3:=fun e=>he (by rw [tapE_some ht,if_pos e]);have HE:Hid (tapE M 3 r=130):=by show _=_;rw [tapE_some ht,if_neg hk]
   have HI:Hid (∀ w1,Bl w w1->Calls Tryz.prog 49 #[.pointer (some ⟨p,0,none⟩),.int .i64 r] w1 fun e w'=>e=.returned (.bool true)/\w1=w'):=fun w1 hb=>by
    have:=Is_W (hW.below hb) hr;rw [ht]at this;exact this
   have HK:Hid (∀ w1,Bl w w1->Calls Tryz.prog 50 #[.pointer (some ⟨p,0,none⟩),.int .i64 r] w1 fun e w'=>e=.returned (.int .u8 t.kind)/\w1=w'):=fun w1 hb=>by
    have:=Kind_W (hW.below hb) hr;have e:M.kindOf r=t.kind:=by unfold WM.kindOf;rw [ht];rfl
    rw [e]at this;exact this
   have hkb:(t.kind != 3)=true:=by simpa using hk
   clear hW ht hr he hk
   go_enter Tryz.func127,Tryz.ntmps127
   go_wp2_with fail
   refine Calls.mono (HS.out _ HB0.out) ?_;rintro e _ ⟨rfl,rfl⟩
   go_wp2_with fail
   refine Calls.mono (HI.out _ HB0.out) ?_;rintro e _ ⟨rfl,rfl⟩
   go_wp2_with fail
   refine Calls.mono (HK.out _ HB0.out) ?_;rintro e _ ⟨rfl,rfl⟩
   go_wp2_with fail
   go_ret2
   exact⟨by rw [HE.out];rfl,HB0.out⟩
theorem TP.forOf (h:TP M):∀ x ∈ M.things,(∃ h' tg n,x.2=tapT h' tg n)\/x.2.kind≠16/\∃ k h' n tg bi s,x.2=lt k h' 0 0 n 0 tg bi s false:=fun x hx=>by
 by_cases hk:x.2.kind=16
 ·obtain⟨hh,y,n,c,e,-⟩:=h.tap (h.ok.at_of_mem hx) hk;exact .inl ⟨hh,y,n,e⟩
 ·exact .inr ⟨hk,(h.things x hx).lt⟩
theorem of2 (hP:TP M) (hl:M.last+2≤100000) {r:Int} (hr:(Lit.int .i64 r).wf=true):∃ (L:List Int) (y:Int),L.length≤100000/\(∀ w,IsW w p M F->Calls Tryz.prog 127 #[.pointer (some ⟨p,0,none⟩),.int .i64 r] w (NumsOk w L y)) /\
 ∀ w,IsR w q M G->Calls Tryz.prog 128 #[.pointer (some ⟨q,0,none⟩),.int .i64 r] w (NumsOk w L y):=by
 have hQ:=hP.q (by omega);have hlen:M.things.length≤100000:=hQ.good.ok.len
 by_cases he:tapE M 3 r=0
 ·cases ht:M.at r with
  | none=>rw [tapE_none ht]at he;cases he
  | some t =>
    have hk:t.kind=3:=by
     rw [tapE_some ht]at he
     by_cases e:t.kind=3
     ·exact e
     ·rw [if_neg e]at he;cases he
    obtain⟨hh,c,rfl,-⟩:=hP.tally ht hk;refine⟨ofTo M r M.things.length,0,Nat.le_trans (ofTo_len M r _) hlen,fun w hW=>?_,fun w hR=>of13_W hR hQ.good.ok r he⟩;have e:ofTo M r M.things.length=ofL r M.things:=ofTo_all M r;rw [e];exact Of_W hW ht hP.forOf
 ·refine⟨[],tapE M 3 r,by simp,fun w hW=>(Of_no hW hr he).mono ?_,fun w hR=>(of13_no hR hQ.good.ok r he).mono ?_⟩
  ·rintro e w' ⟨rfl,hb⟩;exact NumsOk.nil none hb rfl
  ·rintro e w' ⟨rfl,hb⟩;exact NumsOk.nil none hb rfl
end
section
theorem rowN_lt {w:World} {base n:Nat} {e:TypeId} {v:Value} {xs:List Value} (h:w.ownsRow base e 1 v n xs) (b:Nat) (hb:v.ownBlock=some b):b<w.heap.size:=by
 rcases h.2 with ⟨rfl,-⟩ | ⟨g,cap,cur,rfl,-,hg,-⟩
 ·cases hb
 ·cases hb
  exact blk_lt hg
theorem rowN_ge {w:World} {base n:Nat} {e:TypeId} {v:Value} {xs:List Value} (h:w.ownsRow base e 1 v n xs) (b:Nat) (hb:v.ownBlock=some b):base≤b:=by
 rcases h.2 with ⟨rfl,-⟩ | ⟨g,cap,cur,rfl,h1,-⟩
 ·cases hb
 ·cases hb
  exact h1
structure NmAt (w wr:World) (pa:Option Addr) (n i:Nat):Prop where
 k:Keeps (fun b=>∃ g,pa=some ⟨g,0,none⟩/\b=g) w wr
 cells:∀ g j,pa=some ⟨g,0,none⟩->i≤j->wr.cell? ⟨g,j,none⟩=w.cell? ⟨g,j,none⟩
 blk:∀ g,pa=some ⟨g,0,none⟩->0<n->∃ cur,wr.heap[g]? = some (.cells cur 25 (0,0))
theorem numbers13_W {w:World} {xs:List Int} {b1 b2:Nat} {v1 v2:Value} (h1:w.ownsRow b1 25 1 v1 xs.length (xs.map (Value.int .i64))) (h2:w.ownsRow b2 25 1 v2 xs.length (xs.map (Value.int .i64)))
 (hne:∀ b,v1.ownBlock=some b->v2.ownBlock≠some b) (hl:xs.length≤100000) :
 Calls Tryz.prog 122 #[v1,v2] w fun e w'=>e=.returned (.bool true)/\Keeps (fun b=>v1.ownBlock=some b) w w':=by
 have hblk:∀ g c,v1=.slice (some ⟨g,0,none⟩) xs.length c->0<xs.length->∃ cur,w.heap[g]? = some (.cells cur 25 (0,0)):=fun g c e h0=>by
  obtain⟨-,⟨h,hn⟩ | ⟨g',cap,cur,h,-,hg,-⟩⟩:=h1
  ·omega
  ·rw [h]at e
   cases e
   exact⟨cur,hg⟩
 obtain⟨a1,c1,rfl,hc1⟩:=row_slice h1;obtain⟨a2,c2,rfl,hc2⟩:=row_slice h2;obtain⟨n,hn⟩:∃ n,n=xs.length:=⟨_,rfl⟩;have HC1:=(show Hid _ from hc1);have HC2:=(show Hid _ from hc2);have HB0:Hid (∀ g,a1=some ⟨g,0,none⟩->0<n->∃ cur,w.heap[g]? = some (.cells cur 25 (0,0))):=fun g e h0=>hblk g c1 (by rw [e]) (by omega)
 have HNE:Hid (∀ g g',a1=some ⟨g,0,none⟩->a2=some ⟨g',0,none⟩->g'≠g):=fun g g' e e' h=>by
  subst h;exact hne g' (by rw [e];rfl) (by rw [e'];rfl)
 rw [<- hn]at HC1 HC2 ⊢;have HN:Hid (n=xs.length/\n≤100000):=⟨hn,by omega⟩;have HPost:Hid (∀ wr i,NmAt w wr a1 n i->Keeps (fun b=>(Value.slice a1 n c1).ownBlock=some b) w wr):=fun wr i h=>h.k.mono fun b _ ⟨g,e,hb⟩=>by subst hb;rw [e];rfl
 clear h1 h2 hc1 hc2 hn hl hblk hne
 go_enter Tryz.func122,Tryz.ntmps122
 go_wp2_with fail
 go_loopw [5,6] (fun vo vi wr=>∃ i:Nat,vo=.bool true/\vi=.int .i64 i/\i≤n/\Hid (NmAt w wr a1 n i)) (fun _ vi _=>n - (intOf vi).toNat)
 case atStart=>exact⟨0,rfl,rfl,Nat.zero_le _,⟨Keeps.refl _ _,fun _ _ _ _=>rfl,HB0.out⟩⟩
 case round =>
  obtain⟨i,rfl,rfl,hi,HB⟩:=hrel
  by_cases hin:i<n
  ·have hiz:(i:Int)<(n:Int):=by omega
   have hi0:(0:Int)≤(i:Int):=by omega
   have hwi:wrap64 ((i:Int)+1)=(i:Int)+1:=by have:=HN.out.2;unfold wrap64;omega
   obtain⟨x,hx⟩:∃ x,xs[i]? = some x:=⟨_,List.getElem?_eq_getElem (by have:=HN.out.1;omega)⟩;obtain⟨g1,rfl,k1⟩:=HC1.out i hin;obtain⟨g2,rfl,k2⟩:=HC2.out i hin;rw [List.getElem?_map,hx]at k1 k2;have hg21:g2≠g1:=HNE.out g1 g2 rfl rfl;have d1:wr.cell? ⟨g1,i,none⟩=some (.int .i64 x):=(HB.out.cells g1 i rfl (Nat.le_refl _)).trans k1;have d2:wr.cell? ⟨g2,i,none⟩=some (.int .i64 x):=(World.cell?_of_block (a:=⟨g2,i,none⟩) (HB.out.k.block g2 (World.block_lt_of_cell? _ _ k2) (fun⟨g,e,h⟩=>by cases e;exact hg21 h))).trans k2;obtain⟨cur,hcur⟩:=HB.out.blk g1 rfl (by omega);have f1:wr.drew.frozen? ⟨g1,i,none⟩=false:=frozen_blk hcur i;have e1:wr.drew.cell? ⟨g1,i,none⟩=some (.int .i64 x):=d1
   have HB2:Hid (NmAt w (wr.drew.setCell ⟨g1,i,none⟩ (.int .i64 77)) (some ⟨g1,0,none⟩) n (i+1)):={
    k:=(HB.out.k.then_below below_drew).trans (Keeps.setCell (S:=fun b=>b=g1) wr.drew ⟨g1,i,none⟩ (.int .i64 77) rfl) (fun _ _ h=>h) (fun b _ h=>⟨g1,rfl,h⟩)
    cells:=fun g j e hj=>by
     cases e
     have hc':(wr.drew.setCell ⟨g1,i,none⟩ (.int .i64 77)).cell? ⟨g1,j,none⟩=wr.cell? ⟨g1,j,none⟩:=by
      rw [cell_blk (blk_setCell (w:=wr.drew) hcur i (.int .i64 77)),cell_blk hcur];show (cur.setIfInBounds i _)[j]? = cur[j]?;rw [Array.getElem?_setIfInBounds,if_neg (by omega)]
     rw [hc'];exact HB.out.cells g1 j rfl (by omega)
    blk:=fun g e _=>by
     cases e
     exact⟨_,blk_setCell (w:=wr.drew) hcur i _⟩ }
   clear k1 k2 hx hcur HB hg21
   go_wp2_with fail
   go_region
   all_goals
    go_wp2_with fail
    go_roundw
    case rel=>exact⟨i+1,rfl,by go_num,by omega,HB2.out⟩
    case measure=>rw [hwi];clear hwi;simp [intOf];omega
  ·have hiz:¬ (i:Int)<(n:Int):=by omega
   obtain rfl:i=n:=by omega
   have hkk:¬ (i:Int)<(i:Int):=by omega
   go_wp2_with fail
   go_ret
   exact⟨rfl,HPost.out wr i HB.out⟩
end
end Go.Proofs.YthaliljaglldjaaGreat
