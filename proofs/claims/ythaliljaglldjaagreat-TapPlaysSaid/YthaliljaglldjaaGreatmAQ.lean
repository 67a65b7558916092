/- Part of the proof. -/
import Derived.Test.YthaliljaglldjaaGreatmAP
namespace Go.Proofs.YthaliljaglldjaaGreat
set_option maxHeartbeats 16000000
set_option maxRecDepth 20000
open Go.RowKit Go.ChangeMaps Go.MapKept
section
variable {w:World} {p:Nat} {M:WM} {F:Nat->Prop}
end
section
variable {w:World} {p:Nat} {M:WM} {F:Nat->Prop} {pa:Option Addr} {pc cg cc mg mc tb fb fn:Nat} {bl:Int->Nat}
theorem thf_set (M:WM) (r:Int) (t:Th) (bl:Int->Nat) (key:Value):thf (M.set r t) bl key=thf M bl key:=by
 unfold thf;split
 ·rw [WM.set_at];split
  ·cases M.at _ <;> rfl
  ·rfl
 ·rfl
theorem faf_set {r:Int} {u t:Th} (hM:M.ok) (h:SetOk M r u t) (key:Value):faf (M.set r t) key=faf M key:=by
 unfold faf;split
 ·split
  ·rw [WM.set_find hM h]
  ·rfl
 ·rfl
theorem WV.turn (h:WV w p M F pa pc cg cc mg mc tb fb fn bl) {r:Int} {u t:Th} (hs:SetOk M r u t) {w':World} (_:w.heap.size≤w'.heap.size) (hB:w'.heap[bl r]? = some (.cells (thc t) 46 (0,0)))
 (hoth:∀ b,F b->b≠bl r->w'.heap[b]? = w.heap[b]?) {F':Nat->Prop} (hF:∀ b,F b->F' b) (hlt:∀ b,F' b->b<w'.heap.size) (hd:Deep w' F' t):WV w' p (M.set r t) F' pa pc cg cc mg mc tb fb fn bl:=by
 have hBr:=(h.blk r u hs.was).1
 have keep:∀ b o,F b->w.heap[b]? = some o->(∀ (cs:Array Value) (fr:Nat × Nat),o≠Obj.cells cs 46 fr)->w'.heap[b]? = w.heap[b]?:=fun b o hFb hb ho=>by
  refine hoth b hFb fun e=>?_;subst e;rw [hBr]at hb
  cases hb
  exact ho _ _ rfl
 obtain⟨mcur,hm⟩:=h.mad.is;obtain⟨ccur,hc⟩:=h.cut.is;obtain⟨tes,tcl,ht⟩:=h.things.is;obtain⟨fes,fcl,hf⟩:=h.facets.is
 exact {
  hp:=(keep p _ h.own.1 h.hp (by simp)).trans h.hp
  pars:=fun j x hx=>by
   obtain⟨b,o,h1,h2,⟨cs,fr,h3⟩,h4⟩:=h.pars j x hx;have k:=keep b _ h2 h3 (by simp);exact⟨b,o,h1,hF _ h2,⟨cs,fr,k.trans h3⟩,(World.cell?_of_block (a:=⟨b,o+j,none⟩) k).trans h4⟩
  cut:=h.cut.of_block (keep cg _ h.own.2.1 hc (by simp))
  mad:=h.mad.of_block (keep mg _ h.own.2.2.1 hm (by simp))
  things:=by
   rw [WM.set_len];exact(h.things.of_block (keep tb _ h.own.2.2.2.1 ht (by simp))).congr (fun key _ _=>thf_set M r t bl key)
  facets:=(h.facets.of_block (keep fb _ h.own.2.2.2.2 hf (by simp))).congr (fun key _ _=>faf_set h.ok hs key)
  fnle:=h.fnle
  blk:=fun q v hv=>by
   rcases WM.set_at_some hv with ⟨rfl,rfl,-⟩ | ⟨hne,hv⟩
   ·exact⟨hB,hF _ (h.blk _ _ hs.was).2.1,hd⟩
   ·obtain⟨h1,h2,h3⟩:=h.blk q v hv;have hbl:bl q≠bl r:=fun e=>hne (h.inj q r v u hv hs.was e);refine⟨(hoth _ h2 hbl).trans h1,hF _ h2,h3.of_blocks (fun b cs e fr hFb hb he=>keep b _ hFb hb fun cs' fr' x=>?_) hF⟩
    cases x
    simp [deepTy]at he
  inj:=fun q q' v v' hv hv' e=>by
   have key:∀ {q v},(M.set r t).at q=some v->∃ x,M.at q=some x:=fun {q v} hv=>by
    rcases WM.set_at_some hv with ⟨-,-,x⟩ | ⟨-,hv⟩
    ·exact x
    ·exact⟨_,hv⟩
   obtain⟨x,hx⟩:=key hv;obtain⟨y,hy⟩:=key hv';exact h.inj q q' x y hx hy e
  own:=⟨hF _ h.own.1,hF _ h.own.2.1,hF _ h.own.2.2.1,hF _ h.own.2.2.2.1,hF _ h.own.2.2.2.2⟩
  tf:=h.tf
  lt:=hlt
  ok:=WM.set_ok h.ok hs }
theorem thf_del (M:WM) (r:Int) (bl:Int->Nat):thf (M.del r) bl (.int .i64 r)=none/\∀ x,x≠.int .i64 r->thf (M.del r) bl x=thf M bl x:=by
 refine⟨by simp [thf,WM.del_at],fun x hx=>?_⟩;unfold thf;split
 ·rename_i q
  have hne:q≠r:=fun e=>hx (by rw [e]);rw [WM.del_at,if_neg hne]
 ·rfl
end
section
variable {w:World} {p:Nat} {M:WM} {F:Nat->Prop}
theorem Lay_lt (hW:IsW w p M F) {r k h vk vn n l tg bi s vk' vn' n' l':Int} {fu':Bool} (hr:(Lit.int .i64 r).wf=true) (ht:M.at r=some (lt k h vk vn n l tg bi s false)) (hp:Plain vk' vn')
 (hform:∀ w,IsW w p M F->Calls Tryz.prog 74 #[.pointer (some ⟨p,0,none⟩),.agg (wr k h vk' vn' n' l' tg bi s fu')] w fun e w'=>e=.returned (.bool true)/\Bl w w') :
 Calls Tryz.prog 107 #[.pointer (some ⟨p,0,none⟩),.int .i64 r,.agg (wr k h vk' vn' n' l' tg bi s fu')] w fun e w'=>e=.returned (.int .i64 0)/\IsW w' p (M.set r (lt k h vk' vn' n' l' tg bi s fu')) F/\Keeps F w w':=by
 have hB0:Bl w (w.alloc (.cells (wr k h vk' vn' n' l' tg bi s fu') 46)):=(Below.refl _ _).alloc (Nat.le_refl _) _;have b0:=blk_new w (.cells (wr k h vk' vn' n' l' tg bi s fu') 46);obtain⟨wa,hwa⟩:∃ wa,wa=w.alloc (.cells (wr k h vk' vn' n' l' tg bi s fu') 46):=⟨_,rfl⟩;have HB0:Hid (Bl w wa):=by rw [hwa];exact hB0
 have Hb0:Hid (wa.heap[w.heap.size]? = some (.cells (wr k h vk' vn' n' l' tg bi s fu') 46 (0,0))):=by rw [hwa];exact b0
 have Hwa:=(show Hid _ from hwa);have HW:Hid (IsW w p M F):=hW;have Hf:=(show Hid _ from hform);have Ht:Hid (M.at r=some (lt k h vk vn n l tg bi s false)):=ht;obtain⟨pa,pc,cg,cc,mg,mc,tb,fb,fn,bl,hV⟩:=hW;have HV:=(show Hid _ from hV)
 have ds:Hid (∀ w',Bl wa w'->w'.cell? ⟨w.heap.size,0,none⟩=some (.int .u8 k)/\w'.cell? ⟨w.heap.size,1,none⟩=some (.int .i64 h)/\w'.cell? ⟨w.heap.size,10,none⟩=some (.int .i64 tg)/\w'.cell? ⟨w.heap.size,11,none⟩=some (.int .i64 bi)/\w'.cell? ⟨w.heap.size,12,none⟩=some (.int .u8 s) /\
  w'.cell? ⟨bl r,0,none⟩=some (.int .u8 k)/\w'.cell? ⟨bl r,1,none⟩=some (.int .i64 h)/\w'.cell? ⟨bl r,10,none⟩=some (.int .i64 tg)/\w'.cell? ⟨bl r,11,none⟩=some (.int .i64 bi)/\w'.cell? ⟨bl r,12,none⟩=some (.int .u8 s)/\w'.cell? ⟨bl r,13,none⟩=some (.bool false) /\
  (ldW (.pointer (some ⟨w.heap.size,0,none⟩))).run Tryz.prog w'=.ok (.value (.agg (wr k h vk' vn' n' l' tg bi s fu'))) w'/\IsW w' p M F):=fun w' hb=>by
  have hbl:=(HV.out.below (HB0.out.trans (hb.mono HB0.out.size))).blk r _ Ht.out;obtain⟨q0,q1,-,-,q10,q11,q12,q13⟩:=thc_cell hbl.1;have hg:=below_blk hb Hb0.out;exact⟨by rw [cell_blk hg];rfl,by rw [cell_blk hg];rfl,by rw [cell_blk hg];rfl,by rw [cell_blk hg];rfl,by rw [cell_blk hg];rfl,q0,q1,q10,q11,q12,q13,loadWhat_blk hg rfl,HW.out.below (HB0.out.trans (hb.mono HB0.out.size))⟩
 clear hV hB0 b0 hform ht hwa
 go_enter Tryz.func107,Tryz.ntmps107
 go_wp2_with fail
 rw [<- Hwa.out];have hWa:=HW.out.below HB0.out;refine(none_W hWa).mono ?_;rintro e _ ⟨rfl,rfl⟩
 go_wp2_with fail
 refine(Is_W hWa hr).mono ?_;rw [Ht.out];rintro e _ ⟨rfl,rfl⟩;have c2:=(HV.out.below HB0.out).c2;have hlk:=(HV.out.below HB0.out).look hr;rw [Ht.out]at hlk;simp only [Option.map_some]at hlk;clear hWa
 go_wp2_with fail
 refine region_class (C:=fun w'=>Bl wa w') (by kernel_rfl) (by kernel_rfl) below_drew ?_
 repeat (first
  | go_big_quiet_step (fail)
  | quiet_step (fail)
  | (refine wpQuiet_step (fun K hK=>?_);go_simp;first
   | (refine hK _ ?_;clear hK K)
   | (apply Exists.intro
      refine⟨fun w' hC=>?_,hK _ ?_⟩
      ·obtain⟨q1,q2,q3,q4,q5,q6,q7,q8,q9,q10,q11,q12,q13⟩:=ds.out w' hC
       first
        | exact rfl
        | (go_simp;exact rfl)
        | (go_simp;exact⟨rfl,rfl⟩)
        | exact(Hf.out w' q13).mono fun e w'' ⟨he,hb⟩=>⟨he,hC.trans (hb.mono hC.size)⟩
      clear hK K)))
 refine wpQuiet_nil ?_;intro w5 hC5;have HB5:=(show Hid (Bl wa w5)from hC5);have l5:=(ds.out w5 hC5).2.2.2.2.2.2.2.2.2.2.2.1;clear hC5 c2 hlk
 go_wp2_with fail
 refine(names_W _ _ k h vk' vn' n' l' tg bi s fu' hp).mono ?_;rintro e w6 ⟨rfl,hb6⟩;have HB6:Hid (Bl wa w6):=HB5.out.trans (hb6.mono HB5.out.size);have l6:=(ds.out w6 HB6.out).2.2.2.2.2.2.2.2.2.2.2.1;clear hb6 l5 HB5
 go_wp2_with fail
 refine(ownWhat_W _ k h vk' vn' n' l' tg bi s fu' hp).mono ?_;rintro e w7 ⟨rfl,hb7⟩;have HB7:Hid (Bl wa w7):=HB6.out.trans (hb7.mono HB6.out.size);have B7:=((HV.out.below (HB0.out.trans (HB7.out.mono HB0.out.size))).blk r _ Ht.out).1;rw [thc_lt]at B7;have hst:=storeWhat_blk (c':=(wr k h vk' vn' n' l' tg bi s fu')) B7 rfl rfl (by simp [go_sem]);have G7:=(show Hid _ from heap_setRow_at (c':=(wr k h vk' vn' n' l' tg bi s fu')) B7);have HB8:=(show Hid (Bl w w7)from HB0.out.trans (HB7.out.mono HB0.out.size));clear hb7 B7 l6
 go_wp2_with fail
 go_ret
 refine⟨rfl,?_,?_⟩
 ·have hV7:=HV.out.below HB8.out;refine⟨pa,pc,cg,cc,mg,mc,tb,fb,fn,bl,hV7.turn (u:=lt k h vk vn n l tg bi s false) (t:=lt k h vk' vn' n' l' tg bi s fu') ⟨Ht.out,rfl,rfl,fun _=>rfl,(hV7.ok.wf _ _ Ht.out).tgt,rfl,rfl⟩ (by simp [World.setRow]) G7.out (fun b _ hb=>heap_setRow_other _ _ _ _ hb) (fun _ h=>h) (fun b hb=>by have:=hV7.lt b hb;simpa [World.setRow]using this) (deep_lt _ _ _ _ _ _ _ _ _ _ _ _)⟩
 ·have hF:=(HV.out.blk r _ Ht.out).2.1;exact Below.keeps HB8.out ⟨rfl,rfl,rfl,by simp [World.setRow],fun b _ hb=>heap_setRow_other _ _ _ _ (fun e=>hb (e ▸ hF))⟩
end
section
variable {w:World} {p:Nat} {M:WM} {F:Nat->Prop}
def asksByB (k:Int):Bool:=k==15 || k==16
theorem asksOf_W (k:Int) (w:World):Calls Tryz.prog 76 #[.int .u8 k] w fun e w'=>e=.returned (.bool (asksOfB k))/\w=w':=by
 have hwr:=wraps_W k w
 by_cases h6:k=6
 ·subst h6
  go_enter Tryz.func76,Tryz.ntmps76
  go_wp2
  go_ret
  exact⟨rfl,rfl⟩
 by_cases h7:k=7
 ·subst h7
  go_enter Tryz.func76,Tryz.ntmps76
  go_wp2
  go_ret
  exact⟨rfl,rfl⟩
 by_cases h9:k=9
 ·subst h9
  go_enter Tryz.func76,Tryz.ntmps76
  go_wp2
  go_ret
  exact⟨rfl,rfl⟩
 by_cases h11:k=11
 ·subst h11
  go_enter Tryz.func76,Tryz.ntmps76
  go_wp2
  go_ret
  exact⟨rfl,rfl⟩
 have e6:(k==6)=false:=by simpa using h6
 have e7:(k==7)=false:=by simpa using h7
 have e9:(k==9)=false:=by simpa using h9
 have e11:(k==11)=false:=by simpa using h11
 have hv:asksOfB k=wrapsB k:=by simp [asksOfB,e6,e7,e9,e11]
 rw [hv];clear hv h6 h7 h9 h11
 go_enter Tryz.func76,Tryz.ntmps76
 go_wp2_with fail
 refine hwr.mono ?_;rintro e _ ⟨rfl,rfl⟩
 go_wp2_with fail
 go_ret
 exact⟨rfl,rfl⟩
def gateM (M:WM) (t:Th):WM:=match (M.add t).at t.bi with
 | some u=>(M.add t).set t.bi { u with tgt:=M.last+1 }
 | none=>M.add t
def makeM (M:WM) (t:Th):WM:=if t.kind=15 then gateM M t else M.add t
def MadeG (w:World) (p:Nat) (M:WM) (F:Nat->Prop) (h:Int) (T:Th->Prop) (e:Ending) (w':World):Prop :=
 (M.made.getD h.toNat 0<512/\e=.returned (.tuple #[.int .i64 (M.last+1),.int .i64 0])/\∃ t F',T t/\IsW w' p (makeM M t) F'/\Grew F w F' w') \/
 (¬ M.made.getD h.toNat 0<512/\e=.returned (.tuple #[.int .i64 0,.int .i64 8])/\Bl w w')
def newB (w w':World):Nat->Prop:=fun b=>w.heap.size≤b/\b<w'.heap.size
structure MakeIn (w:World) (p:Nat) (M:WM) (F:Nat->Prop) (k h n l tg bi s:Int) (fu:Bool) (c2 c3 c4 c5 c6 c7 c14 c15:Value) (T:Th->Prop):Prop where
 form:∀ w1,Bl w w1->Calls Tryz.prog 74 #[.pointer (some ⟨p,0,none⟩),.agg #[.int .u8 k,.int .i64 h,c2,c3,c4,c5,c6,c7,.int .i64 n,.int .i64 l,.int .i64 tg,.int .i64 bi,.int .u8 s,.bool fu,c14,c15]] w1 fun e w'=>e=.returned (.bool true)/\Bl w1 w'
 names:∀ w1,Bl w w1->Calls Tryz.prog 75 #[.pointer (some ⟨p,0,none⟩),.agg #[.int .u8 k,.int .i64 h,c2,c3,c4,c5,c6,c7,.int .i64 n,.int .i64 l,.int .i64 tg,.int .i64 bi,.int .u8 s,.bool fu,c14,c15]] w1 fun e w'=>e=.returned (.bool true)/\Bl w1 w'
 fits:∀ w1,Bl w w1->Calls Tryz.prog 78 #[.pointer (some ⟨p,0,none⟩),.int .i64 0,.agg #[.int .u8 k,.int .i64 h,c2,c3,c4,c5,c6,c7,.int .i64 n,.int .i64 l,.int .i64 tg,.int .i64 bi,.int .u8 s,.bool fu,c14,c15]] w1 fun e w'=>e=.returned (.bool true)/\Bl w1 w'
 own:∀ w1,Bl w w1->Calls Tryz.prog 80 #[.agg #[.int .u8 k,.int .i64 h,c2,c3,c4,c5,c6,c7,.int .i64 n,.int .i64 l,.int .i64 tg,.int .i64 bi,.int .u8 s,.bool fu,c14,c15]] w1 fun e w'=>∃ t,T t/\e=.returned (.agg (thc t))/\Bl w1 w'/\Deep w' (newB w1 w') t
 k14:(k==14)=false
 k13:k=13->tg=0
 tgw:(Lit.int .i64 tg).wf=true
 biw:(Lit.int .i64 bi).wf=true
 home:0≤h/\h<M.made.length
 hA:asksOfB k=true->(M.at tg).isSome=true
 hB:asksByB k=true->(M.at bi).isSome=true
 add:M.made.getD h.toNat 0<512->∀ t,T t->t.kind=k/\t.home=h/\t.bi=bi/\AddOk M t
theorem blk_drew {w:World} {b:Nat} {o:Obj} (h:w.heap[b]? = some o):w.drew.heap[b]? = some o:=h
theorem Make_G (hW:IsW w p M F) {k h n l tg bi s:Int} {fu:Bool} {c2 c3 c4 c5 c6 c7 c14 c15:Value} {T:Th->Prop} (I:MakeIn w p M F k h n l tg bi s fu c2 c3 c4 c5 c6 c7 c14 c15 T) :
 Calls Tryz.prog 14 #[.pointer (some ⟨p,0,none⟩),.agg #[.int .u8 k,.int .i64 h,c2,c3,c4,c5,c6,c7,.int .i64 n,.int .i64 l,.int .i64 tg,.int .i64 bi,.int .u8 s,.bool fu,c14,c15]] w (MadeG w p M F h T):=by
 have HI:=(show Hid _ from I);have HW:Hid (IsW w p M F):=hW;have k14:=I.k14;have hb0:Bl w (w.alloc (.cells #[.int .u8 k,.int .i64 h,c2,c3,c4,c5,c6,c7,.int .i64 n,.int .i64 l,.int .i64 tg,.int .i64 bi,.int .u8 s,.bool fu,c14,c15] 46)):=(Below.refl _ _).alloc (Nat.le_refl _) _;have HB0:=(show Hid _ from hb0);clear hW I hb0
 go_enter Tryz.func14,Tryz.ntmps14
 go_wp2_with fail
 refine(none_W (HW.out.below HB0.out)).mono ?_;rintro e _ ⟨rfl,rfl⟩
 go_upto_region 3 with fail
 go_cut [27] (fun v wx=>v=.bool false/\Hid (Bl w wx)/\Hid (wx.heap[w.heap.size]? = some (.cells #[.int .u8 k,.int .i64 h,c2,c3,c4,c5,c6,c7,.int .i64 n,.int .i64 l,.int .i64 tg,.int .i64 bi,.int .u8 s,.bool fu,c14,c15] 46 (0,0))))
 case first =>
  by_cases h13:k=13
  ·have h0:=HI.out.k13 h13;subst h13 h0
   go_wp2_with fail
   refine Calls.mono (HI.out.form _ HB0.out) ?_;rintro e w1 ⟨rfl,hb1⟩;have HB1:Hid (Bl w w1):=HB0.out.trans (hb1.mono (by simp));have B1:=(show Hid _ from below_blk hb1 (blk_new _ _));clear hb1
   go_wp2_with fail
   go_meet
   exact⟨rfl,HB1,B1⟩
  ·have k13:(k==13)=false:=by simpa using h13
   clear h13
   go_wp2_with fail
   refine Calls.mono (HI.out.form _ HB0.out) ?_;rintro e w1 ⟨rfl,hb1⟩;have HB1:Hid (Bl w w1):=HB0.out.trans (hb1.mono (by simp));have B1:=(show Hid _ from below_blk hb1 (blk_new _ _));clear hb1
   go_wp2_with fail
   go_meet
   exact⟨rfl,HB1,B1⟩
 obtain⟨rfl,HB1,B1⟩:=hcut;generalize wc=w1 at *
 go_upto_region 5 with fail
 go_cut [55] (fun v wx=>v=.bool false/\Hid (Bl w wx)/\Hid (wx.heap[w.heap.size]? = some (.cells #[.int .u8 k,.int .i64 h,c2,c3,c4,c5,c6,c7,.int .i64 n,.int .i64 l,.int .i64 tg,.int .i64 bi,.int .u8 s,.bool fu,c14,c15] 46 (0,0))))
 case first =>
  have l1:=loadWhat_blk B1.out rfl
  go_wp2_with fail
  refine Calls.mono (HI.out.names _ HB1.out) ?_;rintro e w2 ⟨rfl,hb2⟩;have HB2:Hid (Bl w w2):=HB1.out.trans (hb2.mono HB1.out.size);have B2:=(show Hid _ from below_blk hb2 B1.out);clear hb2 l1;have c0:w2.cell? ⟨w.heap.size,0,none⟩=some (.int .u8 k):=by rw [cell_blk B2.out];rfl
  have c10:w2.cell? ⟨w.heap.size,10,none⟩=some (.int .i64 tg):=by rw [cell_blk B2.out];rfl
  have c11:w2.cell? ⟨w.heap.size,11,none⟩=some (.int .i64 bi):=by rw [cell_blk B2.out];rfl
  go_wp2_with fail
  refine(asksOf_W k _).mono ?_;have hA:=HI.out.hA;generalize asksOfB k=A at hA;have HA:=(show Hid (A=true->(M.at tg).isSome=true)from hA);clear hA;rintro e _ ⟨rfl,rfl⟩
  cases A
  ·go_wp2_with fail
   refine(asksBy_W k _).mono ?_;have hB:=HI.out.hB;unfold asksByB at hB;generalize (k==15 || k==16)=B at hB;have HB:=(show Hid (B=true->(M.at bi).isSome=true)from hB);clear hB;rintro e _ ⟨rfl,rfl⟩
   cases B
   ·go_wp2_with fail
    go_meet
    exact⟨rfl,HB2,B2⟩
   ·go_wp2_with fail
    refine(Is_W (HW.out.below HB2.out) HI.out.biw).mono ?_;rw [HB.out (by simp)];rintro e _ ⟨rfl,rfl⟩
    go_wp2_with fail
    go_meet
    exact⟨rfl,HB2,B2⟩
  ·go_wp2_with fail
   refine(Is_W (HW.out.below HB2.out) HI.out.tgw).mono ?_;rw [HA.out (by simp)];rintro e _ ⟨rfl,rfl⟩
   go_wp2_with fail
   refine(asksBy_W k _).mono ?_;have hB:=HI.out.hB;unfold asksByB at hB;generalize (k==15 || k==16)=B at hB;have HB:=(show Hid (B=true->(M.at bi).isSome=true)from hB);clear hB;rintro e _ ⟨rfl,rfl⟩
   cases B
   ·go_wp2_with fail
    go_meet
    exact⟨rfl,HB2,B2⟩
   ·go_wp2_with fail
    refine(Is_W (HW.out.below HB2.out) HI.out.biw).mono ?_;rw [HB.out (by simp)];rintro e _ ⟨rfl,rfl⟩
    go_wp2_with fail
    go_meet
    exact⟨rfl,HB2,B2⟩
 obtain⟨rfl,HB2,B2⟩:=hcut;clear HB1 B1;generalize wc=w2 at *;have l2:=loadWhat_blk B2.out rfl
 go_wp2_with fail
 refine Calls.mono (HI.out.fits _ HB2.out) ?_;rintro e w3 ⟨rfl,hb3⟩;have HB3:Hid (Bl w w3):=HB2.out.trans (hb3.mono HB2.out.size);have B3:=(show Hid _ from below_blk hb3 B2.out);clear hb3 l2 B2 HB2;obtain⟨q1,q2⟩:=HI.out.home;obtain⟨hn,hhn⟩:=Int.eq_ofNat_of_zero_le q1;have hq2:(hn:Int)<M.made.length:=by omega
 have hW3:=HW.out.below HB3.out;obtain⟨pa,pc,cg,cc,mg,mc,tb,fb,fn,bl,hV⟩:=hW3;have c5:=hV.c5;have c1:w3.cell? ⟨w.heap.size,1,none⟩=some (.int .i64 hn):=by rw [cell_blk B3.out,hhn];rfl
 have hc:w3.cell? ⟨mg,hn,none⟩=some (.int .i64 (M.made.getD hn 0)):=hV.mad.cell (by rw [List.getElem?_map,List.getElem?_eq_getElem (by omega),List.getD_eq_getElem?_getD,List.getElem?_eq_getElem (by omega)];rfl);obtain⟨v,hv⟩:∃ v,v=M.made.getD hn 0:=⟨_,rfl⟩;have Hv:Hid (M.made.getD h.toNat 0=v):=by show _=_;rw [hv,hhn];rfl
 rw [<- hv]at hc;clear hv q1 q2 hV hhn
 by_cases hroom:v<512
 ·have Q3:¬ (512≤v):=by omega
  have l3:=loadWhat_blk (w:=w3.drew) (blk_drew B3.out) rfl;have HR:Hid (M.made.getD h.toNat 0<512):=by show _<_;rw [Hv.out];exact hroom
  clear hroom
  go_wp2_with fail
  go_region
  clear c5 c1 hc hq2
  go_wp2_with fail
  refine Calls.mono (HI.out.own _ HB3.out.drew) ?_;rintro e w4 ⟨t,hT,rfl,hb4,hdeep⟩;have HB4:Hid (Bl w w4):=HB3.out.drew.trans (hb4.mono HB3.out.drew.size);have B4:=(show Hid _ from below_blk hb4 (blk_drew B3.out));obtain⟨t1,t2,t3,hadd⟩:=HI.out.add HR.out t hT
  have hlay:=lay_W (HW.out.below HB4.out) hadd hdeep (fun b hb=>⟨hb.2,fun hF=>by
   have h1:=HW.out.lt b hF;have h2:=HB3.out.size;have h3:=hb.1;have h4:w3.drew.heap.size=w3.heap.size:=rfl
   omega⟩)
  have HAdd:=(show Hid (AddOk M t)from hadd);have HS3:Hid (w.heap.size≤w3.drew.heap.size):=HB3.out.size;have HT:Hid (T t/\t.kind=k/\t.home=h/\t.bi=bi):=⟨hT,t1,t2,t3⟩;clear hb4 l3 HB3 B3 t1 t2 t3 hT hdeep hadd
  go_wp2_with fail
  refine hlay.mono ?_;rintro e w5 ⟨rfl,hW5,hk5⟩;clear hlay;have B5:=(hk5.block _ (blk_lt B4.out) (fun h=>Nat.lt_irrefl _ (HW.out.lt _ h))).trans B4.out;have a5:w5.cell? ⟨w.heap.size,0,none⟩=some (.int .u8 k):=by rw [cell_blk B5];rfl
  have a11:w5.cell? ⟨w.heap.size,11,none⟩=some (.int .i64 bi):=by rw [cell_blk B5];rfl
  have HF:Hid (∃ F',IsW w5 p (M.add t) F'/\Grew F w F' w5):=⟨_,hW5,Below.keeps HB4.out hk5,by
   have:=HB4.out.size;rintro b ((h | h) | h)
   ·exact .inl h
   ·have h1:=h.1;have h2:=HS3.out;right
    omega
   ·right;omega⟩
  clear hW5 hk5 HB4 B4 B5
  by_cases h15:k=15
  ·subst h15;obtain⟨F5,hW5,hg5⟩:=HF.out;obtain⟨u,hu,hu13⟩:=HAdd.out.gate HT.out.2.1;have hu5:=WM.add_at_old HW.out.ok t hu;rw [HT.out.2.2.2]at hu hu5
   have hset:SetOk (M.add t) bi u { u with tgt:=M.last+1 }:={
    was:=hu5
    kind:=rfl
    home:=rfl
    tgt:=fun h=>absurd hu13 h
    tgtw:=(show (Lit.int .i64 (M.last+1)).wf=true from WalkArith.wf_i64 (by have:=HAdd.out.last;have:=HW.out.ok.last;omega))
    bi:=rfl
    set:=rfl }
   have hmk:makeM M t=(M.add t).set bi { u with tgt:=M.last+1 }:=by
    rw [makeM,if_pos HT.out.2.1,gateM,HT.out.2.2.2,hu5]
   obtain⟨pa5,pc5,cg5,cc5,mg5,mc5,tb5,fb5,fn5,bl5,hV5⟩:=hW5;obtain⟨hblk,hbF,hbd⟩:=hV5.blk bi u hu5;have c2':=hV5.c2
   have hlk:(Instr.lookup 137 (.map (some tb5)) (.int .i64 bi) false).run Tryz.prog w5.drew=.ok (.pointer (some ⟨bl5 bi,0,none⟩)) w5.drew:=by
    have:=(hV5.below (w':=w5.drew) ⟨rfl,rfl,rfl,Nat.le_refl _,fun _ _=>rfl⟩).look HI.out.biw;rw [hu5]at this;exact this
   have hfr:=frozen_blk hblk 10;have hc10:w5.cell? ⟨bl5 bi,10,none⟩=some (.int .i64 u.tgt):=by rw [cell_blk hblk];rfl
   have hdn:Deep (w5.setCell ⟨bl5 bi,10,none⟩ (.int .i64 (M.last+1))).drew F5 { u with tgt:=M.last+1 }:=by
    have D:Deep (w5.setCell ⟨bl5 bi,10,none⟩ (.int .i64 (M.last+1))).drew F5 u:=hbd.of_blocks (fun b cs e fr hF hb he=>Below.heap_setCell w5 ⟨bl5 bi,10,none⟩ _ b (fun x=>by
     simp only at x;rw [x,hblk]at hb
     cases hb
     simp [deepTy]at he)) fun _ h=>h
    exact⟨D.v,D.vs,D.code,D.names⟩
   have HFin:Hid (∃ F',IsW (w5.setCell ⟨bl5 bi,10,none⟩ (.int .i64 (M.last+1))).drew p (makeM M t) F'/\Grew F w F' (w5.setCell ⟨bl5 bi,10,none⟩ (.int .i64 (M.last+1))).drew):=by
    refine⟨F5,⟨pa5,pc5,cg5,cc5,mg5,mc5,tb5,fb5,fn5,bl5,?_⟩,?_⟩
    ·rw [hmk];have hB:(w5.setCell ⟨bl5 bi,10,none⟩ (.int .i64 (M.last+1))).drew.heap[bl5 bi]? = some (.cells (thc { u with tgt:=M.last+1 }) 46 (0,0)):=blk_setCell hblk 10 _
     exact hV5.turn (w':=(w5.setCell ⟨bl5 bi,10,none⟩ (.int .i64 (M.last+1))).drew) hset (by simp [World.setCell]) hB (fun b hF hb=>Below.heap_setCell w5 ⟨bl5 bi,10,none⟩ _ b hb) (fun b h=>h) (fun b h=>by have:=hV5.lt b h;simpa [World.setCell]using this) hdn
    ·refine⟨hg5.1.trans (Keeps.setCell (S:=fun b=>b=bl5 bi) w5 ⟨bl5 bi,10,none⟩ _ rfl).drew (fun _ _ h=>h) (fun b hb h=>?_),hg5.2⟩
     rcases hg5.2 _ hbF with h1 | h1
     ·rw [h];exact h1
     ·omega
   have hbi5:wrap64 (M.last+1)=M.last+1:=by
    have:=HAdd.out.last;have:=HW.out.ok.last;unfold wrap64;omega
   clear hV5 hset hmk hblk hbF hbd hu hu5 hg5 hu13 hbi5 hdn
   go_wp2_with fail
   go_still_tail 10,(by kernel_rfl)
   change wpList _ _ _ _ _ w5.drew
   go_wp2_with fail
   go_ret2
   exact .inl ⟨by have:=HR.out;omega,rfl,t,by obtain⟨F',f1,f2⟩:=HFin.out;exact⟨F',HT.out.1,f1,f2⟩⟩
  ·have k15:(k==15)=false:=by simpa using h15
   go_wp2_with fail
   go_ret2
   refine .inl ⟨by have:=HR.out;omega,rfl,t,?_⟩;obtain⟨F',f1,f2⟩:=HF.out;exact⟨F',HT.out.1,by rw [makeM,if_neg (by rw [HT.out.2.1];exact h15)];exact f1,f2⟩
 ·have Q3:512≤v:=by omega
  have HR:Hid (¬ M.made.getD h.toNat 0<512):=by show ¬ _<_;rw [Hv.out];exact hroom
  clear hroom
  go_wp2_with fail
  go_region
  clear c5 c1 hc hq2
  go_wp2_with fail
  go_ret2
  exact .inr ⟨by have:=HR.out;omega,rfl,HB3.out.drew⟩
end
section
variable {w:World} {p:Nat} {M:WM} {F:Nat->Prop}
theorem fits_1 (w:World) (q:Option Addr) (r h vk vn n l tg bi s:Int) (fu:Bool):Calls Tryz.prog 78 #[.pointer q,.int .i64 r,.agg (wr 1 h vk vn n l tg bi s fu)] w fun e w'=>e=.returned (.bool true)/\Below w.heap.size w w':=by
 go_enter Tryz.func78,Tryz.ntmps78
 go_wp2
 go_ret
 exact⟨rfl,by go_grown⟩
theorem fits_2 (w:World) (q:Option Addr) (r h vk vn n l tg bi s:Int) (fu:Bool):Calls Tryz.prog 78 #[.pointer q,.int .i64 r,.agg (wr 2 h vk vn n l tg bi s fu)] w fun e w'=>e=.returned (.bool true)/\Below w.heap.size w w':=by
 go_enter Tryz.func78,Tryz.ntmps78
 go_wp2
 go_ret
 exact⟨rfl,by go_grown⟩
theorem fits_3 (w:World) (q:Option Addr) (r h vk vn n l tg bi s:Int) (fu:Bool):Calls Tryz.prog 78 #[.pointer q,.int .i64 r,.agg (wr 3 h vk vn n l tg bi s fu)] w fun e w'=>e=.returned (.bool true)/\Below w.heap.size w w':=by
 go_enter Tryz.func78,Tryz.ntmps78
 go_wp2
 go_ret
 exact⟨rfl,by go_grown⟩
theorem fits_4 (w:World) (q:Option Addr) (r h vk vn n l tg bi s:Int) (fu:Bool):Calls Tryz.prog 78 #[.pointer q,.int .i64 r,.agg (wr 4 h vk vn n l tg bi s fu)] w fun e w'=>e=.returned (.bool true)/\Below w.heap.size w w':=by
 go_enter Tryz.func78,Tryz.ntmps78
 go_wp2
 go_ret
 exact⟨rfl,by go_grown⟩
theorem fits_5 (w:World) (q:Option Addr) (r h vk vn n l tg bi s:Int) (fu:Bool):Calls Tryz.prog 78 #[.pointer q,.int .i64 r,.agg (wr 5 h vk vn n l tg bi s fu)] w fun e w'=>e=.returned (.bool true)/\Below w.heap.size w w':=by
 go_enter Tryz.func78,Tryz.ntmps78
 go_wp2
 go_ret
 exact⟨rfl,by go_grown⟩
theorem fits_8 (w:World) (q:Option Addr) (r h vk vn n l tg bi s:Int) (fu:Bool):Calls Tryz.prog 78 #[.pointer q,.int .i64 r,.agg (wr 8 h vk vn n l tg bi s fu)] w fun e w'=>e=.returned (.bool true)/\Below w.heap.size w w':=by
 go_enter Tryz.func78,Tryz.ntmps78
 go_wp2
 go_ret
 exact⟨rfl,by go_grown⟩
theorem fits_10 (w:World) (q:Option Addr) (r h vk vn n l tg bi s:Int) (fu:Bool):Calls Tryz.prog 78 #[.pointer q,.int .i64 r,.agg (wr 10 h vk vn n l tg bi s fu)] w fun e w'=>e=.returned (.bool true)/\Below w.heap.size w w':=by
 go_enter Tryz.func78,Tryz.ntmps78
 go_wp2
 go_ret
 exact⟨rfl,by go_grown⟩
theorem fits_12 (w:World) (q:Option Addr) (r h vk vn n l tg bi s:Int) (fu:Bool):Calls Tryz.prog 78 #[.pointer q,.int .i64 r,.agg (wr 12 h vk vn n l tg bi s fu)] w fun e w'=>e=.returned (.bool true)/\Below w.heap.size w w':=by
 go_enter Tryz.func78,Tryz.ntmps78
 go_wp2
 go_ret
 exact⟨rfl,by go_grown⟩
end
section
variable {w:World} {p:Nat} {M:WM} {F:Nat->Prop}
theorem IsW.drewN (hW:IsW w p M F) (m:Nat):IsW (w.drewN m) p M F:=hW.below ⟨rfl,rfl,rfl,Nat.le_refl _,fun _ _=>rfl⟩
theorem WV.look_drewN {pa:Option Addr} {pc cg cc mg mc tb fb fn:Nat} {bl:Int->Nat} (h:WV w p M F pa pc cg cc mg mc tb fb fn bl) {q:Int} {t:Th} (hq:(Lit.int .i64 q).wf=true) (ht:M.at q=some t) (m:Nat) :
 (Instr.lookup 137 (.map (some tb)) (.int .i64 q) false).run Tryz.prog (w.drewN m)=.ok (.pointer (some ⟨bl q,0,none⟩)) (w.drewN m):=by
 have:=(h.below (w':=w.drewN m) ⟨rfl,rfl,rfl,Nat.le_refl _,fun _ _=>rfl⟩).look hq;rw [ht]at this;exact this
theorem there_yes (hW:IsW w p M F) {bw bx:Nat} {q k h:Int} {t:Th} (hq:(Lit.int .i64 q).wf=true) (ht:M.at q=some t) (hk:t.kind=k) (hh:t.home=h)
 (cw:w.cell? ⟨bw,0,none⟩=some (.pointer (some ⟨p,0,none⟩))) (cx:w.cell? ⟨bx,1,none⟩=some (.int .i64 h)) :
 Calls Tryz.prog 168 #[.int .i64 q,.int .u8 k,.pointer (some ⟨bw,0,none⟩),.pointer (some ⟨bx,0,none⟩)] w fun e w'=>e=.returned (.bool true)/\∃ n,w'=w.drewN n:=by
 subst hk hh
 have hK:∀ m,Calls Tryz.prog 50 #[.pointer (some ⟨p,0,none⟩),.int .i64 q] (w.drewN m) fun e w'=>e=.returned (.int .u8 t.kind)/\w'=w.drewN m:=fun m =>
  (Kind_W (hW.drewN m) hq).mono (by rintro e w' ⟨rfl,rfl⟩;exact⟨by simp [WM.kindOf,ht],rfl⟩)
 have HK:=(show Hid _ from hK);obtain⟨pa,pc,cg,cc,mg,mc,tb,fb,fn,bl,h⟩:=hW;have c2:=h.c2;have hlk:=h.look_drewN hq ht;obtain⟨-,k1,-,-,-,-,-,-⟩:=thc_cell (h.blk q t ht).1;have e1:(t.kind==t.kind)=true:=by simp
 have e2:(t.home==t.home)=true:=by simp
 clear h ht hq hK
 go_enter Tryz.func168,Tryz.ntmps168
 go_wp2_with fail
 go_quiet ((go_at_call 50;exact Calls.quiet_of_same (HK.out _)))
 go_wp2_with fail
 go_ret
 exact⟨rfl,_,rfl⟩
theorem fits_13 (w:World) (q:Option Addr) (r h:Int) (fu:Bool):Calls Tryz.prog 78 #[.pointer q,.int .i64 r,.agg (wr 13 h 0 0 0 0 0 0 0 fu)] w fun e w'=>e=.returned (.bool true)/\Bl w w':=by
 go_enter Tryz.func78,Tryz.ntmps78
 go_wp2_with fail
 go_quiet (fail)
 go_wp2_with fail
 go_ret
 exact⟨rfl,((((Below.refl _ _).alloc (Nat.le_refl _) _).alloc (by simp) _).trans ⟨rfl,rfl,rfl,Nat.le_refl _,fun _ _=>rfl⟩)⟩
theorem fits_16 (hW:IsW w p M F) {r h tg bi:Int} {t u:Th} (hq:(Lit.int .i64 tg).wf=true) (hq2:(Lit.int .i64 bi).wf=true) (ht:M.at bi=some t) (hk:t.kind=3) (hh:t.home=h) (hu:M.at tg=some u) :
 Calls Tryz.prog 78 #[.pointer (some ⟨p,0,none⟩),.int .i64 r,.agg (wr 16 h 0 0 0 0 tg bi 0 false)] w fun e w'=>e=.returned (.bool true)/\Bl w w':=by
 have HW:Hid (IsW w p M F):=hW;have HT:Hid (M.at bi=some t/\t.kind=3/\t.home=h):=⟨ht,hk,hh⟩;have HU:Hid ((M.at tg).isSome=true):=by show _=_;rw [hu];rfl
 clear hW ht hk hh hu
 go_enter Tryz.func78,Tryz.ntmps78
 go_wp2_with fail
 have hb:=((Below.refl w.heap.size w).alloc (Nat.le_refl _) (.cells #[.pointer (some ⟨p,0,none⟩)] 31)).alloc (by simp) (.cells (wr 16 h 0 0 0 0 tg bi 0 false) 46);have HB:=(show Hid _ from hb);refine(there_yes (HW.out.below hb) hq2 HT.out.1 HT.out.2.1 HT.out.2.2 (by rw [cell_blk (blk2_old _ _ _)];rfl) (by rw [cell_blk (blk2_new _ _ _)];rfl)).mono ?_;clear hb;rintro e w' ⟨rfl,m,rfl⟩
 go_wp2_with fail
 refine(Is_W ((HW.out.below HB.out).drewN m) hq).mono ?_;rw [HU.out];rintro e _ ⟨rfl,rfl⟩
 go_wp2_with fail
 go_ret
 exact⟨rfl,Below.trans HB.out ⟨rfl,rfl,rfl,Nat.le_refl _,fun _ _=>rfl⟩⟩
theorem fits_15 (hW:IsW w p M F) {h tg bi:Int} {t u:Th} (hq:(Lit.int .i64 tg).wf=true) (hq2:(Lit.int .i64 bi).wf=true) (ht:M.at bi=some t) (hk:t.kind=13) (hh:t.home=h) (h0:t.tgt=0) (hu:M.at tg=some u) :
 Calls Tryz.prog 78 #[.pointer (some ⟨p,0,none⟩),.int .i64 0,.agg (wr 15 h 0 0 0 0 tg bi 0 false)] w fun e w'=>e=.returned (.bool true)/\Bl w w':=by
 have HW:Hid (IsW w p M F):=hW;have HT:Hid (M.at bi=some t/\t.kind=13/\t.home=h):=⟨ht,hk,hh⟩;have HT0:Hid (t.tgt=0):=h0;have HU:Hid ((M.at tg).isSome=true):=by show _=_;rw [hu];rfl
 clear hW ht hk hh hu h0
 go_enter Tryz.func78,Tryz.ntmps78
 go_wp2_with fail
 have hb:=((Below.refl w.heap.size w).alloc (Nat.le_refl _) (.cells #[.pointer (some ⟨p,0,none⟩)] 31)).alloc (by simp) (.cells (wr 15 h 0 0 0 0 tg bi 0 false) 46);have HB:=(show Hid _ from hb);have hBW:=blk2_old w (.cells #[.pointer (some ⟨p,0,none⟩)] 31) (.cells (wr 15 h 0 0 0 0 tg bi 0 false) 46);have hBX:=blk2_new w (.cells #[.pointer (some ⟨p,0,none⟩)] 31) (.cells (wr 15 h 0 0 0 0 tg bi 0 false) 46);have hWB:=HW.out.below hb;revert HB hWB hBW hBX;clear hb;generalize (w.alloc (.cells #[.pointer (some ⟨p,0,none⟩)] 31)).alloc (.cells (wr 15 h 0 0 0 0 tg bi 0 false) 46)=w1;intro HB hBW hBX hWB;have cw:w1.cell? ⟨w.heap.size,0,none⟩=some (.pointer (some ⟨p,0,none⟩)):=by rw [cell_blk hBW];rfl
 have x1:w1.cell? ⟨w.heap.size+1,1,none⟩=some (.int .i64 h):=by rw [cell_blk hBX];rfl
 have x10:w1.cell? ⟨w.heap.size+1,10,none⟩=some (.int .i64 tg):=by rw [cell_blk hBX];rfl
 have x11:w1.cell? ⟨w.heap.size+1,11,none⟩=some (.int .i64 bi):=by rw [cell_blk hBX];rfl
 have HTh:=(show Hid (∀ m,Calls Tryz.prog 168 #[.int .i64 bi,.int .u8 13,.pointer (some ⟨w.heap.size,0,none⟩),.pointer (some ⟨w.heap.size+1,0,none⟩)] (w1.drewN m) fun e w'=>e=.returned (.bool true)/\∃ n,w'=(w1.drewN m).drewN n)from
  fun m=>there_yes (hWB.drewN m) hq2 HT.out.1 HT.out.2.1 HT.out.2.2 cw x1)
 have HIs:=(show Hid (∀ m,Calls Tryz.prog 49 #[.pointer (some ⟨p,0,none⟩),.int .i64 tg] (w1.drewN m) fun e w'=>e=.returned (.bool true)/\w'=w1.drewN m)from
  fun m=>(Is_W (hWB.drewN m) hq).mono (by rw [HU.out];rintro e w' ⟨rfl,rfl⟩;exact⟨rfl,rfl⟩))
 obtain⟨pa,pc,cg,cc,mg,mc,tb,fb,fn,bl,hV⟩:=hWB;have c2:=hV.c2;have hlk:=hV.look_drewN hq2 HT.out.1;obtain⟨-,-,-,-,k6,-,-,-⟩:=thc_cell (hV.blk bi t HT.out.1).1;rw [HT0.out]at k6;clear hV hBW hBX
 go_quiet ((first | (go_at_call 168;exact Calls.quiet_of (HTh.out _)) | (go_at_call 49;exact Calls.quiet_of_same (HIs.out _))))
 go_wp2_with fail
 go_ret
 exact⟨rfl,Below.trans HB.out ⟨rfl,rfl,rfl,Nat.le_refl _,fun _ _=>rfl⟩⟩
end
end Go.Proofs.YthaliljaglldjaaGreat
