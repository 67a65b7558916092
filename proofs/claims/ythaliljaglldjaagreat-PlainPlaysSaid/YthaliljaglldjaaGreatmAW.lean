/- Part of the proof. -/
import Derived.Test.YthaliljaglldjaaGreatmAV
namespace Go.Proofs.YthaliljaglldjaaGreat
set_option maxHeartbeats 16000000
set_option maxRecDepth 20000
open Go.RowKit Go.ChangeMaps Go.MapKept
section
theorem ownsRow_keeps {w w':World} {S:Nat->Prop} {base s n:Nat} {e:TypeId} {v:Value} {xs:List Value} (h:w.ownsRow base e s v n xs) (hk:Keeps S w w') (hS:∀ b,v.ownBlock=some b->¬ S b):w'.ownsRow base e s v n xs:=by
 obtain⟨h1,h2⟩:=h;refine⟨h1,h2.imp id fun⟨g,cap,cur,e1,e2,e3,e4⟩=>⟨g,cap,cur,e1,e2,hk.none e3 (hS g ?_),e4⟩⟩;rw [e1];rfl
theorem RVw.row_lt {w:World} {q:Nat} {M:WM} {G:Nat->Prop} {sP sC sT sM:Value} (h:RVw w q M G sP sC sT sM):∀ b,(sP.ownBlock=some b\/sC.ownBlock=some b\/sT.ownBlock=some b\/sM.ownBlock=some b)->b<w.heap.size:=fun b hb=>h.lt b (h.own b (.inr hb))
def Own7Q (t:Th) (n0:Nat) (vl' vals':Value) (wx:World):Prop:=SlAt wx (fun b=>n0≤b) vl' t.v.l/\SlAt wx (fun b=>n0≤b) vals' t.vs/\(t.v.l = []->vl'=.slice none 0 0)/\(t.vs = []->vals'=.slice none 0 0)
theorem Own7Q.on {t:Th} {n0:Nat} {vl' vals':Value} {w w':World} (h:Own7Q t n0 vl' vals' w) (hb:Bl w w'):Own7Q t n0 vl' vals' w':=⟨h.1.on hb,h.2.1.on hb,h.2.2⟩
def wO (w1:World) (G:Nat->Prop) (sT:Value) (l:List (Int × Th)) (r:Int) (t:Th) (v:Value) (wx:World):Prop :=
 ∃ vl' vals',RowE wx 0 (fun b=>G b\/w1.heap.size≤b) v (l ++ [(r,{ t with vl:=vl',vals:=vals' })])/\Keeps (fun b=>sT.ownBlock=some b) w1 wx/\(v.ownBlock=sT.ownBlock\/∃ g,v.ownBlock=some g/\w1.heap.size≤g)/\(t.v.l = []->vl'=.slice none 0 0)/\(t.vs = []->vals'=.slice none 0 0)
theorem jJ:bX 21 46 3 dZ:=fun _ _ _ _ _=>rfl
def AdP (q:Nat) (L:Int) (sT:Value) (t:Th) (w1:World) (G:Nat->Prop) (l:List (Int × Th)) (p:Bool) (j:Nat) (v:Value) (wx:World):Prop :=
 match j with
 | 0=>v=P_ q
 | 1=>v=P_ q
 | 2=>v=P_ q
 | 3=>v=R_ q 2
 | 4=>v=sT
 | 5=>v=P_ q
 | 6=>v=P_ q
 | 7=>v=R_ q 3
 | 8=>v=J L
 | 9=>v=.agg (aF t)
 | 10=>p=false->(∃ vl' vals',v=.agg (aF { t with vl:=vl',vals:=vals' })/\Own7Q t w1.heap.size vl' vals' wx)
 | 11=>p=false->(∃ vl' vals',v=.agg (bL (L,{ t with vl:=vl',vals:=vals' })).toArray/\Own7Q t w1.heap.size vl' vals' wx)
 | 12=>p=false->(∃ g vl' vals',v=.slice (some ⟨g,0,none⟩) 1 1/\wx.heap[g]? = some (.cells (bL (L,{ t with vl:=vl',vals:=vals' })).toArray 117 (0,0))/\Own7Q t w1.heap.size vl' vals' wx)
 | 13=>p=true->wO w1 G sT l L t v wx
 | 14=>v=P_ q
 | 15=>v=R_ q 2
 | _=>True
theorem AdP.stab {q:Nat} {L:Int} {sT:Value} {t:Th} {w1:World} {G:Nat->Prop} {l:List (Int × Th)}:∀ (j:Nat) (v:Value) (w w':World),Bl w w'->AdP q L sT t w1 G l false j v w->AdP q L sT t w1 G l false j v w':=by
 intro j v w w' hR h;unfold AdP at h ⊢;split at h
 ·exact h
 ·exact h
 ·exact h
 ·exact h
 ·exact h
 ·exact h
 ·exact h
 ·exact h
 ·exact h
 ·exact h
 ·intro _;have h:=h rfl;exact h.imp fun _ h=>h.imp fun _ h=>⟨h.1,h.2.on hR⟩
 ·intro _;have h:=h rfl;exact h.imp fun _ h=>h.imp fun _ h=>⟨h.1,h.2.on hR⟩
 ·intro _;have h:=h rfl;exact h.imp fun _ h=>h.imp fun _ h=>h.imp fun _ h=>⟨h.1,ae hR h.2.1,h.2.2.on hR⟩
 ·exact fun e=>by cases e
 ·exact h
 ·exact h
 ·trivial
theorem AdP.turn {q:Nat} {L:Int} {sT:Value} {t:Th} {w1:World} {G:Nat->Prop} {l:List (Int × Th)}:∀ (j:Nat) (v:Value) (w w':World),j≠13->AdP q L sT t w1 G l false j v w->AdP q L sT t w1 G l true j v w':=by
 intro j v w w' hne h;unfold AdP at h ⊢;split at h
 ·exact h
 ·exact h
 ·exact h
 ·exact h
 ·exact h
 ·exact h
 ·exact h
 ·exact h
 ·exact h
 ·exact h
 ·exact fun e=>by cases e
 ·exact fun e=>by cases e
 ·exact fun e=>by cases e
 ·exact absurd rfl hne
 ·exact h
 ·exact h
 ·trivial
def xS (w:World) (q:Nat) (N:WM) (G:Nat->Prop) (t:Th) (e:Ending) (w':World):Prop :=
 ∃ vl' vals' G',e=.returned (J (N.last+1))/\IsR w' q { N with things:=N.things ++ [(N.last+1,{ t with vl:=vl',vals:=vals' })],last:=N.last+1 } G'/\Keeps G w w'/\(∀ b,G' b->G b\/w.heap.size≤b)/\(t.v.l = []->vl'=.slice none 0 0)/\(t.vs = []->vals'=.slice none 0 0)
theorem xN {w:World} {q:Nat} {N:WM} {G F:Nat->Prop} (hR:IsR w q N G) (hl:N.things.length≤100000) (hla:0≤N.last/\N.last≤1099511627776) (t:Th) (h1:SlAt w F t.vl t.v.l) (h2:SlAt w F t.vals t.vs) (hc:t.code=.slice none 0 0) (hn:t.names=.slice none 0 0) (hd:bY 16 t.v) (hds:∀ x ∈ t.vs,bY 16 x) (hvl:t.vs.length≤1000) (hF:∀ b,F b->¬ G b) :
 Calls Tryz.prog 83 #[P_ q,.agg (aF t)] w (xS w q N G t):=by
 obtain⟨sP,sC,sT,sM,hV⟩:=hR;have hqlt:=aw hV.blk;have c3:w.cell? ⟨q,3,none⟩=some (.int .i64 N.last):=by rw [ag hV.blk];rfl
 have f3:=av hV.blk 3;have hw1:wrap64 (N.last+1)=N.last+1:=by unfold wrap64;omega
 have HW:Hid (∀ w1,w1=(w.setCell ⟨q,3,none⟩ (J (N.last+1))).alloc (.cells (aF t) 46)->w1.heap.size=w.heap.size+1/\w1.heap[q]? = some (.cells #[sP,sC,sT,J (N.last+1),sM] 94 (0,0))/\w1.heap[w.heap.size]? = some (.cells (aF t) 46 (0,0))/\Keeps (fun b=>b=q) w w1):=by
  intro w1 e;subst e;have hs:(w.setCell ⟨q,3,none⟩ (J (N.last+1))).heap.size=w.heap.size:=by simp [World.setCell]
  refine⟨by simp [hs],aG _ _ (aA hV.blk 3 _),?_,(Keeps.setCell (S:=fun b=>b=q) _ _ _ rfl).then_below (br.alloc aH _)⟩;rw [<- hs];exact ai _ _
 have HV:Hid (RVw w q N G sP sC sT sM):=hV;have HO:Hid (∀ w',Keeps (fun b=>b=q) w w'->Calls Tryz.prog 113 #[.agg (aF t)] w' fun e w''=>∃ vl' vals',e=.returned (.agg (aF { t with vl:=vl',vals:=vals' }))/\Bl w' w''/\SlAt w'' (fun b=>w'.heap.size≤b) vl' t.v.l/\SlAt w'' (fun b=>w'.heap.size≤b) vals' t.vs/\(t.v.l = []->vl'=.slice none 0 0)/\(t.vs = []->vals'=.slice none 0 0)):=fun w' hk=>lN t (h1.lt.keeps hk (fun b e h=>hF b h.1 (by subst e;exact hV.own _ (.inl rfl)))) (h2.lt.keeps hk (fun b e h=>hF b h.1 (by subst e;exact hV.own _ (.inl rfl)))) hc hn hd hds hvl
 have HL:Hid (N.things.length≤100000/\t.code=.slice none 0 0/\t.names=.slice none 0 0/\∀ vl' vals',(∃ p n c,vl'=.slice p n c)->(∃ p n c,vals'=.slice p n c)->(aF { t with vl:=vl',vals:=vals' }).all (·.oneCell')=true):=⟨hl,hc,hn,fun vl' vals' ⟨p,n,c,e⟩ ⟨p',n',c',e'⟩=>by
  subst e e';simp only [aF,hc,hn]
  simp [go_sem]⟩
 clear hV h1 h2 hc hn hd hds hvl hl hla
 go_enter Tryz.func83,Tryz.ntmps83
 go_upto_region 2 with fail
 rw [hw1];generalize hwe:World.alloc (World.setCell _ _ _) _=w1;have HW1:Hid (_/\_/\_/\_):=HW.out w1 hwe.symm
 have HRE:Hid (RowE w1 0 (fun b=>G b/\b≠q/\sP.ownBlock≠some b/\sC.ownBlock≠some b/\sM.ownBlock≠some b) sT N.things):=by
  have hk:=HW1.out.2.2.2;refine⟨?_,fun x hx=>?_⟩
  ·obtain⟨e1,e2⟩:=HV.out.rt;refine⟨e1,e2.imp id fun⟨g,cap,cur,a1,a2,a3,a4⟩=>⟨g,cap,cur,a1,a2,hk.none a3 (fun e=>?_),a4⟩⟩;subst e;rw [a1]at HV;exact HV.out.apq.2.2.1 rfl
  ·exact((HV.out.deep x.1 x.2 hx).keeps hk fun b hb _ e=>hb.2.1 e).mono fun b hb=>⟨⟨hb.1.1,hb.1.2.1,hb.1.2.2.1,hb.1.2.2.2.1,hb.1.2.2.2.2.2⟩,hb.1.2.2.2.2.1⟩
 clear hwe HW c3 f3 hw1;obtain⟨L,hL⟩:∃ L,L=N.last+1:=⟨_,rfl⟩;obtain⟨B,hB⟩:∃ B,B=w.heap.size:=⟨_,rfl⟩;rw [<- hL,← hB]at HW1 ⊢;have HX1:Hid (w1.heap[q]? = some (.cells #[sP,sC,sT,J L,sM] 94 (0,0))/\w1.heap[B]? = some (.cells (aF t) 46 (0,0))/\∀ w',Bl w1 w'->Keeps (fun b=>b=q) w w'):=⟨HW1.out.2.1,HW1.out.2.2.1,fun w' hb=>HW1.out.2.2.2.then_below hb⟩;have HLe:Hid (L=N.last+1/\B=w.heap.size):=⟨hL,hB⟩;clear hL hB;refine bt 16 13 [0,14,15] (by kernel_rfl) rfl (by kernel_rfl) (by kernel_rfl) (by decide) (by kernel_rfl) (fun a b=>Bl a b) (AdP q L sT t w1 (fun b=>G b/\b≠q/\sP.ownBlock≠some b/\sC.ownBlock≠some b/\sM.ownBlock≠some b) N.things) (fun p w'=>p=false->Bl w1 w') AdP.stab (fun _=>below_drew) (fun a b h hR _=>(h rfl).trans (hR.mono (h rfl).size)) ?_ ?_ ?_ ?_ ?_
 ·exact fun _ _ _ _ _ h1 h2=>bC (by kernel_rfl) h1 h2
 ·intro j q a w7 hne hq hC hG;have hC:=hC rfl;have hj:j<16:=ji hq
  match j,hj with
  | 0,_=>cases hq;have h0':a.tmps[0]?.getD undef=P_ q:=gq (hG.fr 0 (by simp));unfold Oper.wp;simp [go_sem,Act.eval,h0'];exact⟨_,rfl,br,rfl⟩
  | 1,_=>cases hq;have h0':a.tmps[0]?.getD undef=P_ q:=gq (hG.fr 0 (by simp));unfold Oper.wp;simp [go_sem,Act.eval,h0'];exact⟨_,rfl,br,rfl⟩
  | 2,_=>cases hq;have h13':=gq (i:=13) (gd hG 1 rfl);unfold Oper.wp;simp [go_sem,Act.eval,h13'];exact⟨_,rfl,br,rfl⟩
  | 3,_=>cases hq;have h14':=gq (i:=14) (gd hG 2 rfl);unfold Oper.wp;simp [go_sem,Act.eval,h14'];exact⟨_,rfl,br,rfl⟩
  | 4,_ =>
    cases hq;have h15':=gq (i:=15) (gd hG 3 rfl);have c3:w7.cell? ⟨q,2,none⟩=some (sT):=by rw [ag (ae hC HX1.out.1)];rfl
    unfold Oper.wp;simp [go_sem,Act.eval,h15',c3];exact⟨_,rfl,br,rfl⟩
  | 5,_=>cases hq;have h0':a.tmps[0]?.getD undef=P_ q:=gq (hG.fr 0 (by simp));unfold Oper.wp;simp [go_sem,Act.eval,h0'];exact⟨_,rfl,br,rfl⟩
  | 6,_=>cases hq;have h17':=gq (i:=17) (gd hG 5 rfl);unfold Oper.wp;simp [go_sem,Act.eval,h17'];exact⟨_,rfl,br,rfl⟩
  | 7,_=>cases hq;have h18':=gq (i:=18) (gd hG 6 rfl);unfold Oper.wp;simp [go_sem,Act.eval,h18'];exact⟨_,rfl,br,rfl⟩
  | 8,_ =>
    cases hq;have h19':=gq (i:=19) (gd hG 7 rfl);have c3:w7.cell? ⟨q,3,none⟩=some (.int .i64 L):=by rw [ag (ae hC HX1.out.1)];rfl
    unfold Oper.wp;simp [go_sem,Act.eval,h19',c3];exact⟨_,rfl,br,rfl⟩
  | 9,_ =>
    cases hq;have h3:a.tmps.getD 3 undef=P_ B:=hG.fr 3 (by simp);refine aT (.agg (aF t)) ?_ br rfl;rw [jJ];show (dZ (a.tmps.getD 3 undef)).run _ _=_;rw [h3];exact aD (ae hC HX1.out.2.1) rfl
  | 10,_ =>
    cases hq;have h21':=gq (i:=21) (gd hG 9 rfl);unfold Oper.wp;simp [go_sem,callFunc,Act.eval,Tryz.func113,h21'];refine Calls.mono (HO.out _ (HX1.out.2.2 _ hC)) ?_;rintro e w8 ⟨vl',vals',rfl,hb8,o1,o2,o3,o4⟩;exact⟨_,rfl,hb8,fun _=>⟨vl',vals',rfl,o1.mono fun b hb=>Nat.le_trans hC.size hb,o2.mono fun b hb=>Nat.le_trans hC.size hb,o3,o4⟩⟩
  | 11,_ =>
    cases hq;have h20':=gq (i:=20) (gd hG 8 rfl);have p22:(∃ vl' vals',(a.tmps.getD 22 undef)=.agg (aF { t with vl:=vl',vals:=vals' })/\Own7Q t w1.heap.size vl' vals' w7):=hG.dep ⟨10,.data⟩ (by simp) rfl _ rfl rfl
    obtain⟨vl',vals',e22,hq⟩:=p22;have h22':a.tmps[22]?.getD undef=.agg #[U t.kind,J t.home,U t.v.kind,J t.v.n,.string t.v.s,vl',J t.v.r,vals',J t.n,J t.lost,J t.tgt,J t.bi,U t.set,.bool t.full,t.code,t.names]:=by have e22':=e22;simp only [aF]at e22';rw [<- e22'];simp [Array.getD_eq_getD_getElem?]
    unfold Oper.wp;simp [go_sem,Act.eval,h20',h22'];exact⟨_,rfl,br,fun _=>⟨vl',vals',rfl,hq⟩⟩
  | 12,_ =>
    cases hq;have p23:(∃ vl' vals',(a.tmps.getD 23 undef)=.agg (bL (L,{ t with vl:=vl',vals:=vals' })).toArray/\Own7Q t w1.heap.size vl' vals' w7):=hG.dep ⟨11,.data⟩ (by simp) rfl _ rfl rfl
    obtain⟨vl',vals',e23,hq⟩:=p23;have h23':a.tmps[23]?.getD undef=.agg #[J L,U t.kind,J t.home,U t.v.kind,J t.v.n,.string t.v.s,vl',J t.v.r,vals',J t.n,J t.lost,J t.tgt,J t.bi,U t.set,.bool t.full,t.code,t.names]:=by rw [show (#[J L,U t.kind,J t.home,U t.v.kind,J t.v.n,.string t.v.s,vl',J t.v.r,vals',J t.n,J t.lost,J t.tgt,J t.bi,U t.set,.bool t.full,t.code,t.names]:Array Value)=(bL (L,{ t with vl:=vl',vals:=vals' })).toArray from rfl,← e23];simp [Array.getD_eq_getD_getElem?]
    unfold Oper.wp;simp [go_sem,Act.eval,h23'];exact⟨_,rfl,br.alloc aH _,fun _=>⟨_,vl',vals',rfl,ai _ _,hq.on (br.alloc aH _)⟩⟩
  | 13,_=>exact absurd rfl hne
  | 14,_=>cases hq;have h12':=gq (i:=12) (gd hG 0 rfl);unfold Oper.wp;simp [go_sem,Act.eval,h12'];exact⟨_,rfl,br,rfl⟩
  | 15,_=>cases hq;have h26':=gq (i:=26) (gd hG 14 rfl);unfold Oper.wp;simp [go_sem,Act.eval,h26'];exact⟨_,rfl,br,rfl⟩
 ·intro q a w7 hq hC hG;have hC:=hC rfl;cases hq;have h16:a.tmps.getD 16 undef=sT:=gd hG 4 rfl;have h16':a.tmps[16]?.getD undef=sT:=gq h16;have p24:(∃ g vl' vals',(a.tmps.getD 24 undef)=.slice (some ⟨g,0,none⟩) 1 1/\w7.heap[g]? = some (.cells (bL (L,{ t with vl:=vl',vals:=vals' })).toArray 117 (0,0))/\Own7Q t w1.heap.size vl' vals' w7):=hG.dep ⟨12,.data⟩ (by simp) rfl _ rfl rfl
  obtain⟨g,vl',vals',e24,hg,hq⟩:=p24;refine hQ (.tmp 16) (.tmp 24) rfl 0 (G:=_) (G':=fun b=>(G b/\b≠q/\sP.ownBlock≠some b/\sC.ownBlock≠some b/\sM.ownBlock≠some b)\/w1.heap.size≤b) sT N.things h16 (HRE.out.below hC) (L,{ t with vl:=vl',vals:=vals' }) e24 hg ?_ ?_ (fun b h=>.inl h) (by have:=HL.out.1;omega) (Nat.zero_le _) ?_
  ·exact⟨hq.1.mono fun b hb=>⟨.inr hb,fun e=>by have:=(HRE.out.own b e).2;omega⟩,hq.2.1.mono fun b hb=>⟨.inr hb,fun e=>by have:=(HRE.out.own b e).2;omega⟩,HL.out.2.1,HL.out.2.2.1⟩
  ·exact HL.out.2.2.2 vl' vals' (by obtain⟨p,c,e⟩:=hq.1.form;exact⟨p,_,c,e⟩) (by obtain⟨p,c,e⟩:=hq.2.1.form;exact⟨p,_,c,e⟩)
  ·intro v' w' hr hk ho;exact⟨v',rfl,(fun h=>by cases h),fun _=>⟨vl',vals',hr,(Keeps.of_below hC).trans hk (fun _ _ h=>h) (fun _ _ h=>h),ho.imp id fun h=>⟨_,h,hC.size⟩,hq.2.2.1,hq.2.2.2⟩,fun j u hj h=>AdP.turn j u w7 w' hj h⟩
 ·intro j q a w7 hl hq hC hG;have hj:j<16:=ji hq
  match j,hj with
  | 0,_ =>
    cases hq;have h0':a.tmps[0]?.getD undef=P_ q:=gq (hG.fr 0 (by simp));refine aT (R:=fun x y=>y=x) (P_ q) ?_ rfl rfl;simp [execOp,go_sem,Act.eval,h0']
  | 1,_=>exact absurd hl (by decide)
  | 2,_=>exact absurd hl (by decide)
  | 3,_=>exact absurd hl (by decide)
  | 4,_=>exact absurd hl (by decide)
  | 5,_=>exact absurd hl (by decide)
  | 6,_=>exact absurd hl (by decide)
  | 7,_=>exact absurd hl (by decide)
  | 8,_=>exact absurd hl (by decide)
  | 9,_=>exact absurd hl (by decide)
  | 10,_=>exact absurd hl (by decide)
  | 11,_=>exact absurd hl (by decide)
  | 12,_=>exact absurd hl (by decide)
  | 13,_=>exact absurd hl (by decide)
  | 14,_ =>
    cases hq;have h12':=gq (i:=12) (gd hG 0 rfl);refine aT (R:=fun x y=>y=x) (P_ q) ?_ rfl rfl;simp [execOp,go_sem,Act.eval,h12']
  | 15,_ =>
    cases hq;have h26':=gq (i:=26) (gd hG 14 rfl);refine aT (R:=fun x y=>y=x) (R_ q 2) ?_ rfl rfl;simp [execOp,go_sem,Act.eval,h26']
 ·intro a w7 hC hdf hsz hfr hphi;have e0:a.tmps.getD 12 undef=_:=hphi 0 _ rfl;have e1:a.tmps.getD 13 undef=_:=hphi 1 _ rfl;have e2:a.tmps.getD 14 undef=_:=hphi 2 _ rfl;have e3:a.tmps.getD 15 undef=_:=hphi 3 _ rfl;have e4:a.tmps.getD 16 undef=sT:=hphi 4 _ rfl;have e5:a.tmps.getD 17 undef=_:=hphi 5 _ rfl;have e6:a.tmps.getD 18 undef=_:=hphi 6 _ rfl;have e7:a.tmps.getD 19 undef=_:=hphi 7 _ rfl;have e8:a.tmps.getD 20 undef=J L:=hphi 8 _ rfl;have e9:a.tmps.getD 21 undef=_:=hphi 9 _ rfl;obtain⟨u10,e10⟩:∃ u,a.tmps.getD 22 undef=u:=⟨_,rfl⟩;obtain⟨u11,e11⟩:∃ u,a.tmps.getD 23 undef=u:=⟨_,rfl⟩;obtain⟨u12,e12⟩:∃ u,a.tmps.getD 24 undef=u:=⟨_,rfl⟩;have p13:wO w1 (fun b=>G b/\b≠q/\sP.ownBlock≠some b/\sC.ownBlock≠some b/\sM.ownBlock≠some b) sT N.things L t (a.tmps.getD 25 undef) w7:=hphi 13 _ rfl rfl;obtain⟨u13,e13⟩:∃ u,a.tmps.getD 25 undef=u:=⟨_,rfl⟩;rw [e13]at p13;have e14:a.tmps.getD 26 undef=_:=hphi 14 _ rfl;have e15:a.tmps.getD 27 undef=_:=hphi 15 _ rfl;have ha:=bq hdf hsz hfr;simp only [List.take_succ_cons,List.take_zero,List.filterMap_cons,List.filterMap_nil,List.foldl_cons,List.foldl_nil,List.setIfInBounds_toArray,List.set_cons_zero,List.set_cons_succ,e0,e1,e2,e3,e4,e5,e6,e7,e8,e9,e10,e11,e12,e13,e14,e15]at ha;clear hdf hsz hfr hphi hC e0 e1 e2 e3 e4 e5 e6 e7 e8 e9 e10 e11 e12 e13 e14 e15;subst ha;obtain⟨vl',vals',hre,hk,ho,n1,n2⟩:=p13;have hq7:w7.heap[q]? = some (.cells #[sP,sC,sT,J L,sM] 94 (0,0)):=hk.none HX1.out.1 HV.out.apq.2.2.1;have c2:w7.cell? ⟨q,2,none⟩=some sT:=by rw [ag hq7];rfl
  have c3:w7.cell? ⟨q,3,none⟩=some (.int .i64 L):=by rw [ag hq7];rfl
  have f2:=av hq7 2;obtain⟨p5,c5,rfl⟩:=hre.form
  have HF:Hid (xS w q N G t (.returned (J L)) (w7.setCell ⟨q,2,none⟩ (.slice p5 (N.things ++ [(L,{ t with vl:=vl',vals:=vals' })]).length c5))):=by
   obtain⟨hL,hB⟩:=HLe.out;have hv:=HV.out;have hlt:=hv.row_lt;have hsz:w1.heap.size=w.heap.size+1:=by rw [HW1.out.1,hB]
   have hk7:Keeps (fun b=>b=q\/sT.ownBlock=some b) w w7:=(HW1.out.2.2.2.mono (T:=fun b=>b=q\/sT.ownBlock=some b) fun _ _ h=>.inl h).trans hk (fun _ _ h=>h) (fun _ _ h=>.inr h);have hk8:=hk7.trans (Keeps.setCell (S:=fun b=>b=q) w7 ⟨q,2,none⟩ (.slice p5 (N.things ++ [(L,{ t with vl:=vl',vals:=vals' })]).length c5) rfl) (fun _ _ h=>h) (fun _ _ h=>.inl h)
   have hkq:=Keeps.setCell (S:=fun b=>b=q) w7 ⟨q,2,none⟩ (.slice p5 (N.things ++ [(L,{ t with vl:=vl',vals:=vals' })]).length c5) rfl
   generalize hve:(Value.slice p5 (N.things ++ [(L,{ t with vl:=vl',vals:=vals' })]).length c5)=v' at *
   have hvn:∀ b,v'.ownBlock=some b->sT.ownBlock=some b\/w1.heap.size≤b:=fun b hb=>by
    rcases ho with ho | ⟨g,ho,hg⟩
    ·exact .inl (ho ▸ hb)
    ·rw [ho]at hb
     cases hb
     exact .inr hg
   have hvl:∀ b,v'.ownBlock=some b->b<w7.heap.size:=fun b hb=>(hre.own b hb).2;refine⟨vl',vals',fun b=>G b\/(w.heap.size≤b/\b<(w7.setCell ⟨q,2,none⟩ v').heap.size),by rw [hL],⟨sP,sC,v',sM,?_⟩,hk8.mono fun b _ hb=>?_,fun b hb=>hb.imp id fun h=>h.1,n1,n2⟩
   ·refine { blk:=?_,rp:=?_,rc:=?_,rt:=?_,rm:=?_,own:=?_,lt:=?_,deep:=?_,apq:=?_,app:=?_,apc:=?_,apt:=?_ }
    ·rw [<- hL];exact aA hq7 2 v'
    ·exact ownsRow_keeps hv.rp hk8 fun b hb h=>h.elim (fun e=>hv.apq.1 (e ▸ hb)) (fun e=>(hv.app b hb).2.1 e)
    ·exact ownsRow_keeps hv.rc hk8 fun b hb h=>h.elim (fun e=>hv.apq.2.1 (e ▸ hb)) (fun e=>(hv.apc b hb).1 e)
    ·rw [<- hL];exact ownsRow_keeps hre.row hkq fun b hb e=>(hvn b hb).elim (fun h=>hv.apq.2.2.1 (e ▸ h)) (fun h=>by omega)
    ·exact ownsRow_keeps hv.rm hk8 fun b hb h=>h.elim (fun e=>hv.apq.2.2.2 (e ▸ hb)) (fun e=>hv.apt b e hb)
    ·intro b hb
     rcases hb with hb | hb | hb | hb | hb
     ·exact .inl (hv.own b (.inl hb))
     ·exact .inl (hv.own b (.inr (.inl hb)))
     ·exact .inl (hv.own b (.inr (.inr (.inl hb))))
     ·rcases hvn b hb with h | h
      ·exact .inl (hv.own b (.inr (.inr (.inr (.inl h)))))
      ·exact .inr ⟨by omega,by simpa [World.setCell]using hvl b hb⟩
     ·exact .inl (hv.own b (.inr (.inr (.inr (.inr hb)))))
    ·intro b hb
     rcases hb with hb | hb
     ·exact Nat.lt_of_lt_of_le (hv.lt b hb) hk8.size
     ·exact hb.2
    ·intro r u hru;rw [<- hL]at hru;refine((hre.deep (r,u) hru).keeps hkq fun b hb _ e=>?_).mono fun b hb=>?_
     ·rcases hb.1 with h | h
      ·exact h.2.1 e
      ·omega
     ·obtain⟨⟨h,hnv⟩,hb7⟩:=hb
      rcases h with h | h
      ·exact⟨.inl h.1,h.2.1,h.2.2.1,h.2.2.2.1,hnv,h.2.2.2.2⟩
      ·have key:∀ {s:Value},(∀ b,s.ownBlock=some b->b<w.heap.size)->s.ownBlock≠some b:=fun hs e=>by have:=hs b e;omega
       exact⟨.inr ⟨by omega,by simpa [World.setCell]using hb7⟩,by omega,key fun b e=>hlt b (.inl e),key fun b e=>hlt b (.inr (.inl e)),hnv,key fun b e=>hlt b (.inr (.inr (.inr e)))⟩
    ·exact⟨hv.apq.1,hv.apq.2.1,fun e=>(hvn q e).elim hv.apq.2.2.1 (fun h=>by omega),hv.apq.2.2.2⟩
    ·exact fun b hb=>⟨(hv.app b hb).1,fun e=>(hvn b e).elim (hv.app b hb).2.1 (fun h=>by have:=hlt b (.inl hb);omega),(hv.app b hb).2.2⟩
    ·exact fun b hb=>⟨fun e=>(hvn b e).elim (hv.apc b hb).1 (fun h=>by have:=hlt b (.inr (.inl hb));omega),(hv.apc b hb).2⟩
    ·exact fun b hb e=>(hvn b hb).elim (fun h=>hv.apt b h e) (fun h=>by have:=hlt b (.inr (.inr (.inr e)));omega)
   ·rcases hb with rfl | hb
    ·exact hv.own _ (.inl rfl)
    ·exact hv.own b (.inr (.inr (.inr (.inl hb))))
  clear hq7 hre hk ho n1 n2 HO HRE HX1 HW1;refine⟨rfl,?_⟩;unfold Oper.wp;simp [execOp,go_sem,Act.eval,aV,c2,f2];refine ‹∀ (a:Act) (w:World),Code.wp Tryz.prog _ _ a w->_› _ _ ?_
  go_wp2_with fail
  go_ret
  have hf:=HF.out;simp only [List.length_append,List.length_cons,List.length_nil,Nat.zero_add]at hf;exact hf
end
section
inductive Val.wf:Val->Prop
 | mk (k n:Int) (s:ByteArray) (l:List Val) (r:Int):0≤k/\k≤255->(l.length:Int)≤maxLen->(∀ x,x ∈ l->Val.wf x)->(Lit.int .i64 n).wf=true/\(Lit.int .i64 r).wf=true->Val.wf ⟨k,n,s,l,r⟩
theorem Val.wf.kd {v:Val} (h:v.wf):0≤v.kind/\v.kind≤255:=by
 cases h with
 | mk k n s l r h _ _ _=>exact h
theorem Val.wf.len {v:Val} (h:v.wf):(v.l.length:Int)≤maxLen:=by
 cases h with
 | mk k n s l r _ h _ _=>exact h
theorem Val.wf.sub {v:Val} (h:v.wf):∀ x ∈ v.l,x.wf:=by
 cases h with
 | mk k n s l r _ _ h _=>exact h
theorem Val.wf.num {v:Val} (h:v.wf):(Lit.int .i64 v.n).wf=true/\(Lit.int .i64 v.r).wf=true:=by
 cases h with
 | mk k n s l r _ _ _ h=>exact h
end
section
theorem cf {s:ByteArray} (h:¬ s=⟨#[]⟩):¬ s.toList = []:=fun e=>h (by
 rw [ByteArray.toList_eq]at e
 rcases s with ⟨⟨l⟩⟩
 simp at e
 rw [e])
set_option linter.unusedSimpArgs false in
theorem sy (w:World) (k nn:Int) (s:ByteArray) (l:List Val) (r:Int) (pa:Option Addr) (c:Nat) (hk:0≤k/\k≤255) :
 Calls Tryz.prog 267 #[.agg (V_ k nn s (.slice pa l.length c) r)] w fun e w'=>e=.returned (.bool (aO ⟨k,nn,s,l,r⟩))/\Bl w w':=by
 have fin:∀ (b:Bool) {k' nn' r':Int} {s':ByteArray},Hid (aO ⟨k',nn',s',l,r'⟩=b)->(Calls Tryz.prog 267 #[.agg (V_ k' nn' s' (.slice pa l.length c) r')] w fun e w'=>e=.returned (.bool b)/\Bl w w') ->
  Calls Tryz.prog 267 #[.agg (V_ k' nn' s' (.slice pa l.length c) r')] w fun e w'=>e=.returned (.bool (aO ⟨k',nn',s',l,r'⟩))/\Bl w w':=fun b _ _ _ _ h hc=>by
  rw [h.out];exact hc
 by_cases e0:k=0
 ·subst e0
  by_cases hn:nn=0
  ·skip
   subst hn
   by_cases hs:s=⟨#[]⟩
   ·skip
    subst hs
    by_cases hl:l.length=0
    ·skip
     have hl2:(l.length:Int)=0:=by omega
     by_cases hr:r=0
     ·skip
      subst hr;have HV:Hid (aO ⟨0,0,⟨#[]⟩,l,0⟩=true):=by show _=_;simp [aO,bg,hl]
      exact fin true HV (by
       go_enter Tryz.func267,Tryz.ntmps267
       go_wp2_with fail
       go_ret
       exact⟨rfl,(Below.refl _ w).alloc aH _⟩)
     ·skip
      have HV:Hid (aO ⟨0,0,⟨#[]⟩,l,r⟩=false):=by show _=_;simp [aO,bg,hl,hr]
      have hb:(r==0)=false:=by simpa using hr
      exact fin false HV (by
       go_enter Tryz.func267,Tryz.ntmps267
       go_wp2_with fail
       go_ret
       exact⟨rfl,(Below.refl _ w).alloc aH _⟩)
    ·skip
     have hl2:¬ (l.length:Int)=0:=by omega
     have HV:Hid (aO ⟨0,0,⟨#[]⟩,l,r⟩=false):=by show _=_;simp [aO,bg,hl]
     exact fin false HV (by
      go_enter Tryz.func267,Tryz.ntmps267
      go_wp2_with fail
      go_ret
      exact⟨rfl,(Below.refl _ w).alloc aH _⟩)
   ·skip
    have HV:Hid (aO ⟨0,0,s,l,r⟩=false):=by show _=_;simp [aO,bg,hs]
    have hb:¬ s.toList = []:=cf hs
    exact fin false HV (by
     go_enter Tryz.func267,Tryz.ntmps267
     go_wp2_with fail
     go_ret
     exact⟨rfl,(Below.refl _ w).alloc aH _⟩)
  ·skip
   have HV:Hid (aO ⟨0,nn,s,l,r⟩=false):=by show _=_;simp [aO,bg,hn]
   have hb:(nn==0)=false:=by simpa using hn
   exact fin false HV (by
    go_enter Tryz.func267,Tryz.ntmps267
    go_wp2_with fail
    go_ret
    exact⟨rfl,(Below.refl _ w).alloc aH _⟩)
 by_cases e1:k=1
 ·subst e1
  by_cases hs:s=⟨#[]⟩
  ·skip
   subst hs
   by_cases hl:l.length=0
   ·skip
    have hl2:(l.length:Int)=0:=by omega
    by_cases hr:r=0
    ·skip
     subst hr;have HV:Hid (aO ⟨1,nn,⟨#[]⟩,l,0⟩=true):=by show _=_;simp [aO,bg,hl]
     exact fin true HV (by
      go_enter Tryz.func267,Tryz.ntmps267
      go_wp2_with fail
      go_ret
      exact⟨rfl,(Below.refl _ w).alloc aH _⟩)
    ·skip
     have HV:Hid (aO ⟨1,nn,⟨#[]⟩,l,r⟩=false):=by show _=_;simp [aO,bg,hl,hr]
     have hb:(r==0)=false:=by simpa using hr
     exact fin false HV (by
      go_enter Tryz.func267,Tryz.ntmps267
      go_wp2_with fail
      go_ret
      exact⟨rfl,(Below.refl _ w).alloc aH _⟩)
   ·skip
    have hl2:¬ (l.length:Int)=0:=by omega
    have HV:Hid (aO ⟨1,nn,⟨#[]⟩,l,r⟩=false):=by show _=_;simp [aO,bg,hl]
    exact fin false HV (by
     go_enter Tryz.func267,Tryz.ntmps267
     go_wp2_with fail
     go_ret
     exact⟨rfl,(Below.refl _ w).alloc aH _⟩)
  ·skip
   have HV:Hid (aO ⟨1,nn,s,l,r⟩=false):=by show _=_;simp [aO,bg,hs]
   have hb:¬ s.toList = []:=cf hs
   exact fin false HV (by
    go_enter Tryz.func267,Tryz.ntmps267
    go_wp2_with fail
    go_ret
    exact⟨rfl,(Below.refl _ w).alloc aH _⟩)
 by_cases e2:k=2
 ·subst e2
  by_cases hn:nn=0
  ·skip
   subst hn
   by_cases hz:s.size≤256
   ·skip
    have hz2:(s.size:Int)≤256:=by omega
    by_cases hl:l.length=0
    ·skip
     have hl2:(l.length:Int)=0:=by omega
     by_cases hr:r=0
     ·skip
      subst hr;have HV:Hid (aO ⟨2,0,s,l,0⟩=true):=by show _=_;simp [aO,bg,hz,hl]
      exact fin true HV (by
       go_enter Tryz.func267,Tryz.ntmps267
       go_wp2_with fail
       go_ret
       exact⟨rfl,(Below.refl _ w).alloc aH _⟩)
     ·skip
      have HV:Hid (aO ⟨2,0,s,l,r⟩=false):=by show _=_;simp [aO,bg,hz,hl,hr]
      have hb:(r==0)=false:=by simpa using hr
      exact fin false HV (by
       go_enter Tryz.func267,Tryz.ntmps267
       go_wp2_with fail
       go_ret
       exact⟨rfl,(Below.refl _ w).alloc aH _⟩)
    ·skip
     have hl2:¬ (l.length:Int)=0:=by omega
     have HV:Hid (aO ⟨2,0,s,l,r⟩=false):=by show _=_;simp [aO,bg,hz,hl]
     exact fin false HV (by
      go_enter Tryz.func267,Tryz.ntmps267
      go_wp2_with fail
      go_ret
      exact⟨rfl,(Below.refl _ w).alloc aH _⟩)
   ·skip
    have hz2:¬ (s.size:Int)≤256:=by omega
    have HV:Hid (aO ⟨2,0,s,l,r⟩=false):=by show _=_;simp [aO,bg,hz]
    exact fin false HV (by
     go_enter Tryz.func267,Tryz.ntmps267
     go_wp2_with fail
     go_ret
     exact⟨rfl,(Below.refl _ w).alloc aH _⟩)
  ·skip
   have HV:Hid (aO ⟨2,nn,s,l,r⟩=false):=by show _=_;simp [aO,bg,hn]
   have hb:(nn==0)=false:=by simpa using hn
   exact fin false HV (by
    go_enter Tryz.func267,Tryz.ntmps267
    go_wp2_with fail
    go_ret
    exact⟨rfl,(Below.refl _ w).alloc aH _⟩)
 by_cases e3:k=3
 ·subst e3
  by_cases hn:nn=0
  ·skip
   subst hn
   by_cases hs:s=⟨#[]⟩
   ·skip
    subst hs
    by_cases hr:r=0
    ·skip
     subst hr;have HV:Hid (aO ⟨3,0,⟨#[]⟩,l,0⟩=true):=by show _=_;simp [aO,bg]
     exact fin true HV (by
      go_enter Tryz.func267,Tryz.ntmps267
      go_wp2_with fail
      go_ret
      exact⟨rfl,(Below.refl _ w).alloc aH _⟩)
    ·skip
     have HV:Hid (aO ⟨3,0,⟨#[]⟩,l,r⟩=false):=by show _=_;simp [aO,bg,hr]
     have hb:(r==0)=false:=by simpa using hr
     exact fin false HV (by
      go_enter Tryz.func267,Tryz.ntmps267
      go_wp2_with fail
      go_ret
      exact⟨rfl,(Below.refl _ w).alloc aH _⟩)
   ·skip
    have HV:Hid (aO ⟨3,0,s,l,r⟩=false):=by show _=_;simp [aO,bg,hs]
    have hb:¬ s.toList = []:=cf hs
    exact fin false HV (by
     go_enter Tryz.func267,Tryz.ntmps267
     go_wp2_with fail
     go_ret
     exact⟨rfl,(Below.refl _ w).alloc aH _⟩)
  ·skip
   have HV:Hid (aO ⟨3,nn,s,l,r⟩=false):=by show _=_;simp [aO,bg,hn]
   have hb:(nn==0)=false:=by simpa using hn
   exact fin false HV (by
    go_enter Tryz.func267,Tryz.ntmps267
    go_wp2_with fail
    go_ret
    exact⟨rfl,(Below.refl _ w).alloc aH _⟩)
 by_cases e4:k=4
 ·subst e4
  by_cases hn:nn=0
  ·skip
   subst hn
   by_cases hs:s=⟨#[]⟩
   ·skip
    subst hs
    by_cases hl:l.length=0
    ·skip
     have hl2:(l.length:Int)=0:=by omega
     by_cases hq:r ≥ 1
     ·skip
      have HV:Hid (aO ⟨4,0,⟨#[]⟩,l,r⟩=true):=by show _=_;simp [aO,bg,hl,hq]
      exact fin true HV (by
       go_enter Tryz.func267,Tryz.ntmps267
       go_wp2_with fail
       go_ret
       exact⟨rfl,(Below.refl _ w).alloc aH _⟩)
     ·skip
      have HV:Hid (aO ⟨4,0,⟨#[]⟩,l,r⟩=false):=by show _=_;simp [aO,bg,hl,hq]
      exact fin false HV (by
       go_enter Tryz.func267,Tryz.ntmps267
       go_wp2_with fail
       go_ret
       exact⟨rfl,(Below.refl _ w).alloc aH _⟩)
    ·skip
     have hl2:¬ (l.length:Int)=0:=by omega
     have HV:Hid (aO ⟨4,0,⟨#[]⟩,l,r⟩=false):=by show _=_;simp [aO,bg,hl]
     exact fin false HV (by
      go_enter Tryz.func267,Tryz.ntmps267
      go_wp2_with fail
      go_ret
      exact⟨rfl,(Below.refl _ w).alloc aH _⟩)
   ·skip
    have HV:Hid (aO ⟨4,0,s,l,r⟩=false):=by show _=_;simp [aO,bg,hs]
    have hb:¬ s.toList = []:=cf hs
    exact fin false HV (by
     go_enter Tryz.func267,Tryz.ntmps267
     go_wp2_with fail
     go_ret
     exact⟨rfl,(Below.refl _ w).alloc aH _⟩)
  ·skip
   have HV:Hid (aO ⟨4,nn,s,l,r⟩=false):=by show _=_;simp [aO,bg,hn]
   have hb:(nn==0)=false:=by simpa using hn
   exact fin false HV (by
    go_enter Tryz.func267,Tryz.ntmps267
    go_wp2_with fail
    go_ret
    exact⟨rfl,(Below.refl _ w).alloc aH _⟩)
 have HV:Hid (aO ⟨k,nn,s,l,r⟩=false):=by show _=_;simp [aO,e0,e1,e2,e3,e4]
 have hwk:IntKind.i64.wrap k=k:=by simp [IntKind.wrap,IntKind.signed,IntKind.bits];omega
 exact fin false HV (by
  go_enter Tryz.func267,Tryz.ntmps267
  go_wp2_with fail
  go_ret
  exact⟨rfl,(Below.refl _ w).alloc aH _⟩)
theorem nk {k n:Nat} (h:k<n):n - (intOf (J ((k:Int)+1))).toNat<n - (intOf (J (k:Int))).toNat:=by
 simp [intOf];omega
theorem ut {f n i:Nat} {l:List Val} (h:512<gy f (l.take i) n):gy f l n=gy f (l.take i) n:=by
 have e:gy f l n=gy f (l.drop i) (gy f (l.take i) n):=by
  show l.foldl _ n=(l.drop i).foldl _ ((l.take i).foldl _ n);rw [<- List.foldl_append,List.take_append_drop]
 rw [e];exact jw h
theorem xv {f i:Nat} {l:List Val} (h:gy f (l.take i) 1≤512) (hi:i≤l.length):i+1≤gy f (l.take i) 1:=by
 have:=(iQ (g:=P4 f) (fun x _ _=>rfl) h).1
 have hlen:∀ l:List Val,l.length≤(l.map (P4 f)).sum:=by
  intro l
  induction l with
  | nil=>exact aH
  | cons x l ih =>
    rw [List.map_cons,List.sum_cons,List.length_cons];have:=xM f x;omega
 have h2:=hlen (l.take i);rw [List.length_take]at h2;omega
def lW (f:Nat):Prop:=∀ (v:Val) (raw:Value) (w:World) (F:Nat->Prop) (d:Int),f≤17->d=17 - (f:Int)->v.wf->SlAt w F raw v.l ->
 Calls Tryz.prog 236 #[.agg (au v raw),J d] w fun e w'=>e=.returned (J (P4 f v))/\Bl w w'
theorem ku:bX 35 27 34 bp:=fun _ _ _ _ _=>rfl
theorem ke:bX 21 27 20 bp:=fun _ _ _ _ _=>rfl
theorem ka:bX 15 27 14 bp:=fun _ _ _ _ _=>rfl
attribute [local go_sem ↓] ku in
theorem ja (f:Nat) (ih:∀ m,f=m+1->lW m):lW f:=by
 intro v raw w F d hf hd hwf hS;obtain⟨k,nn,s,l,r⟩:=v;obtain⟨pa,c,rfl⟩:=hS.form;have hk:=hwf.kd;have hwk:IntKind.i64.wrap k=k:=by simp [IntKind.wrap,IntKind.signed,IntKind.bits];simp at hk;omega
 clear hk;have HB:Hid (Bl w (w.alloc (.cells (V_ k nn s (.slice pa l.length c) r) 27))/\(w.alloc (.cells (V_ k nn s (.slice pa l.length c) r) 27)).heap[w.heap.size]? = some (.cells (V_ k nn s (.slice pa l.length c) r) 27 (0,0))):=⟨(Below.refl _ w).alloc aH _,ai _ _⟩;simp only [au]at HB ⊢
 cases f with
 | zero =>
   have hd17:d > 16:=by omega
   clear hS ih hwf hf hd
   by_cases h3:k=3
   ·subst h3
    go_enter Tryz.func236,Tryz.ntmps236
    go_wp2_with fail
    go_ret
    exact⟨rfl,HB.out.1⟩
   ·go_enter Tryz.func236,Tryz.ntmps236
    go_wp2_with fail
    go_ret
    exact⟨rfl,HB.out.1⟩
 | succ m =>
   have hd16:¬ d > 16:=by omega
   have HS:Hid (∀ w',Bl w w'->SlAt w' F (.slice pa l.length c) l):=fun w' hb=>hS.on hb;have IH:Hid (lW m):=ih m rfl;have HD:Hid (d=16 - (m:Int)/\m≤16):=⟨by omega,by omega⟩;have HW:Hid (∀ x ∈ l,x.wf):=hwf.sub;clear hS ih hwf hf hd hwk
   go_enter Tryz.func236,Tryz.ntmps236
   go_wp2_with fail
   go_loopw [5,6] (fun va vi wr=>∃ (i n:Nat),va=J n/\vi=J i/\i≤l.length/\Hid (n=gy m (l.take i) 1/\Bl w wr/\wr.heap[w.heap.size]? = some (.cells (V_ k nn s (.slice pa l.length c) r) 27 (0,0)))) (fun _ vi _=>l.length - (intOf vi).toNat)
   case atStart=>exact⟨0,1,rfl,rfl,Nat.zero_le _,rfl,HB.out⟩
   case round =>
    obtain⟨i,n,rfl,rfl,hi,HI⟩:=hrel;have c3:wr.cell? ⟨w.heap.size,3,none⟩=some (.slice pa l.length c):=by rw [ag HI.out.2.2];rfl
    by_cases hil:i<l.length
    ·have hiz:(i:Int)<(l.length:Int):=by omega
     by_cases hn:n≤512
     ·have hnz:(n:Int)≤512:=by omega
      obtain⟨x,hx⟩:∃ x,l[i]? = some x:=⟨_,List.getElem?_eq_getElem hil⟩;obtain⟨b,o,cq,raw,hpe,hrg,hlt,-,hSx⟩:=(HS.out wr HI.out.2.1).range hx
      cases hpe
      have hld:=aY hrg (by simp [au]);rw [Array.toArray_toList]at hld;have hge:=xv (by rw [<- HI.out.1];exact hn) hi;rw [<- HI.out.1]at hge;have hle:=wT m x;have hwk:wrap64 ((i:Int)+1)=(i:Int)+1:=by unfold wrap64;omega
      have hwd:wrap64 (d+1)=d+1:=by have:=HD.out;unfold wrap64;omega
      have hwn:Hid (wrap64 ((n:Int)+(P4 m x:Int))=((n+P4 m x:Nat):Int)):=by show _=_;have:=HD.out;unfold wrap64;omega
      have HC:Hid _:=IH.out x raw wr F (d+1) (by have:=HD.out;omega) (by have:=HD.out;omega) (HW.out x (List.mem_of_getElem? hx)) hSx;have HN:Hid (n+P4 m x=gy m (l.take (i+1)) 1):=by show _=_;rw [uu hx,← HI.out.1,if_pos hn]
      clear hrg hSx hx hlt hge hle
      go_wp2_with fail
      refine Calls.mono HC.out ?_;rintro e w5 ⟨rfl,hb5⟩;have HI5:Hid (Bl w w5/\_):=⟨HI.out.2.1.trans (hb5.mono HI.out.2.1.size),ae hb5 HI.out.2.2⟩;clear hb5 HI hld c3 HC
      go_wp2_with fail
      go_roundw
      case rel=>exact⟨i+1,n+P4 m x,by rw [hwn.out],by go_num,by omega,HN.out,HI5.out⟩
      case measure=>rw [hwk];exact nk hil
     ·have hnz:¬ (n:Int)≤512:=by omega
      have HN:Hid (P4 (m+1) ⟨k,nn,s,l,r⟩=n):=by
       show gy m l 1=n;rw [ut (i:=i) (by rw [<- HI.out.1];omega),← HI.out.1]
      have HB5:Hid (Bl w wr):=HI.out.2.1;clear HI
      go_wp2_with fail
      go_ret
      exact⟨by rw [HN.out];rfl,HB5.out⟩
    ·have hiz:¬ (i:Int)<(l.length:Int):=by omega
     obtain rfl:i=l.length:=by omega
     have HN:Hid (P4 (m+1) ⟨k,nn,s,l,r⟩=n):=by
      show gy m l 1=n;rw [HI.out.1,List.take_length]
     have HB5:Hid (Bl w wr):=HI.out.2.1;have hkk:¬ (l.length:Int)<(l.length:Int):=by omega
     clear HI
     go_wp2_with fail
     go_ret
     exact⟨by rw [HN.out];rfl,HB5.out⟩
theorem sY (f:Nat):lW f:=by
 induction f with
 | zero=>exact ja 0 (fun m h=>by cases h)
 | succ f ih=>exact ja (f+1) (fun m h=>by cases h;exact ih)
def my (v:Val) (a:Nat):Prop:=∀ (raw:Value) (w:World) (F:Nat->Prop),SlAt w F raw v.l->Calls Tryz.prog 237 #[.agg (au v raw)] w fun e w'=>e=.returned (J a)/\Bl w w'
attribute [local go_sem ↓] ke in
theorem kV (v:Val) (g:Val->Nat) (hr:∀ x ∈ v.l,my x (g x)) (hb:∀ x ∈ v.l,g x≤1000) (hl:v.l.length≤512) (hwf:v.wf):my v (if v.kind=3 then v.l.foldl (fun d x=>max d (g x)) 0+1 else 0):=by
 intro raw w F hS;obtain⟨k,nn,s,l,r⟩:=v;obtain⟨pa,c,rfl⟩:=hS.form;have hk:=hwf.kd;have hwk:IntKind.i64.wrap k=k:=by simp [IntKind.wrap,IntKind.signed,IntKind.bits];simp at hk;omega
 clear hk hwf;have HB:Hid (Bl w (w.alloc (.cells (V_ k nn s (.slice pa l.length c) r) 27))/\(w.alloc (.cells (V_ k nn s (.slice pa l.length c) r) 27)).heap[w.heap.size]? = some (.cells (V_ k nn s (.slice pa l.length c) r) 27 (0,0))):=⟨(Below.refl _ w).alloc aH _,ai _ _⟩;simp only [au]at HB hr hb hl hS ⊢
 by_cases h3:k=3
 ·subst h3;rw [if_pos rfl];have HS:Hid (∀ w',Bl w w'->SlAt w' F (.slice pa l.length c) l):=fun w' hb=>hS.on hb;have HR:Hid ((∀ x ∈ l,my x (g x))/\(∀ x ∈ l,g x≤1000)/\l.length≤512):=⟨hr,hb,hl⟩;have HM:Hid (∀ i,(l.take i).foldl (fun d x=>max d (g x)) 0≤1000):=fun i=>dd (Nat.zero_le _) (fun x hx=>hb x (List.mem_of_mem_take hx));clear hS hr hb hl hwk
  go_enter Tryz.func237,Tryz.ntmps237
  go_wp2_with fail
  go_loopw [3,4] (fun va vi wr=>∃ (i n:Nat),va=J n/\vi=J i/\i≤l.length/\Hid (n=(l.take i).foldl (fun d x=>max d (g x)) 0/\Bl w wr/\wr.heap[w.heap.size]? = some (.cells (V_ 3 nn s (.slice pa l.length c) r) 27 (0,0)))) (fun _ vi _=>l.length - (intOf vi).toNat)
  case atStart=>exact⟨0,0,rfl,rfl,Nat.zero_le _,rfl,HB.out⟩
  case round =>
   obtain⟨i,n,rfl,rfl,hi,HI⟩:=hrel;have c3:wr.cell? ⟨w.heap.size,3,none⟩=some (.slice pa l.length c):=by rw [ag HI.out.2.2];rfl
   by_cases hil:i<l.length
   ·have hiz:(i:Int)<(l.length:Int):=by omega
    obtain⟨x,hx⟩:∃ x,l[i]? = some x:=⟨_,List.getElem?_eq_getElem hil⟩;obtain⟨b,o,cq,raw,hpe,hrg,hlt,-,hSx⟩:=(HS.out wr HI.out.2.1).range hx
    cases hpe
    have hld:=aY hrg (by simp [au]);rw [Array.toArray_toList]at hld;have hwk:wrap64 ((i:Int)+1)=(i:Int)+1:=by have:=HR.out.2.2;unfold wrap64;omega
    have HC:Hid _:=HR.out.1 x (List.mem_of_getElem? hx) raw wr F hSx
    have HN:Hid (max n (g x)=(l.take (i+1)).foldl (fun d x=>max d (g x)) 0):=by
     show _=_;rw [List.take_add_one,hx];show _=(l.take i ++ [x]).foldl _ 0;rw [List.foldl_append,← HI.out.1];rfl
    clear hrg hSx hx hlt
    go_wp2_with fail
    refine Calls.mono HC.out ?_;rintro e w5 ⟨rfl,hb5⟩;have HI5:Hid (Bl w w5/\_):=⟨HI.out.2.1.trans (hb5.mono HI.out.2.1.size),ae hb5 HI.out.2.2⟩;clear hb5 HI hld c3 HC
    by_cases hlx:n<g x
    ·have hz:(n:Int)<(g x:Int):=by omega
     have HE:Hid (g x=max n (g x)):=by show _=_;omega
     go_wp2_with fail
     go_roundw
     case rel=>exact⟨i+1,max n (g x),by first | (rw [<- HE.out];done) | (congr 1;omega),by go_num,by omega,HN.out,HI5.out⟩
     case measure=>rw [hwk];exact nk hil
    ·have hz:¬ (n:Int)<(g x:Int):=by omega
     have HE:Hid (n=max n (g x)):=by show _=_;omega
     go_wp2_with fail
     go_roundw
     case rel=>exact⟨i+1,max n (g x),by first | (rw [<- HE.out];done) | (congr 1;omega),by go_num,by omega,HN.out,HI5.out⟩
     case measure=>rw [hwk];exact nk hil
   ·have hiz:¬ (i:Int)<(l.length:Int):=by omega
    obtain rfl:i=l.length:=by omega
    have HN:Hid (l.foldl (fun d x=>max d (g x)) 0=n):=by
     show _=_;rw [HI.out.1,List.take_length]
    have hn:=HM.out l.length;rw [List.take_length,HN.out]at hn;have hwn:wrap64 ((n:Int)+1)=(n:Int)+1:=by unfold wrap64;omega
    have HB5:Hid (Bl w wr):=HI.out.2.1;have hkk:¬ (l.length:Int)<(l.length:Int):=by omega
    clear HI hn
    go_wp2_with fail
    go_ret
    exact⟨by rw [HN.out];rfl,HB5.out⟩
 ·rw [if_neg h3];clear hS hr hb hl
  go_enter Tryz.func237,Tryz.ntmps237
  go_wp2_with fail
  go_ret
  exact⟨rfl,HB.out.1⟩
theorem wX:∀ n v,D4 n v≤n+1
 | 0,v=>by simp only [D4];split <;> omega
 | n+1,v=>by
   simp only [D4];split
   ·have:=dd (g:=D4 n) (l:=v.l) (b:=n+1) (Nat.zero_le _) (fun x _=>wX n x);omega
   ·omega
theorem qg:∀ n v,n≤100->bY n v->v.wf->my v (D4 n v)
 | 0,v,_,h,hw=>by
   have hl:v.l = []:=h;have:=kV v (fun _=>0) (fun x hx=>by rw [hl]at hx;cases hx) (fun x hx=>by rw [hl]at hx;cases hx) (by rw [hl];simp) hw;rw [hl]at this;exact this
 | n+1,v,hn,h,hw=>kV v (D4 n) (fun x hx=>qg n x (by omega) (h.2 x hx) (hw.sub x hx)) (fun x _=>by have:=wX n x;omega) h.1 hw
def fM (v:Val) (b:Bool):Prop:=∀ (raw:Value) (w:World) (F:Nat->Prop),SlAt w F raw v.l->Calls Tryz.prog 238 #[.agg (au v raw)] w fun e w'=>e=.returned (.bool b)/\Bl w w'
attribute [local go_sem ↓] ka in
theorem gY (v:Val) (g:Val->Bool) (hr:∀ x ∈ v.l,fM x (g x)) (hl:v.l.length≤512) (hwf:v.wf):fM v (v.l.all g && aO v):=by
 intro raw w F hS;have hk:=hwf.kd;obtain⟨k,nn,s,l,r⟩:=v;obtain⟨pa,c,rfl⟩:=hS.form;have HB:Hid (Bl w (w.alloc (.cells (V_ k nn s (.slice pa l.length c) r) 27))/\(w.alloc (.cells (V_ k nn s (.slice pa l.length c) r) 27)).heap[w.heap.size]? = some (.cells (V_ k nn s (.slice pa l.length c) r) 27 (0,0))):=⟨(Below.refl _ w).alloc aH _,ai _ _⟩;have HK:Hid (0≤k/\k≤255):=hk;have HS:Hid (∀ w',Bl w w'->SlAt w' F (.slice pa l.length c) l):=fun w' hb=>hS.on hb;have HR:Hid ((∀ x ∈ l,fM x (g x))/\l.length≤512):=⟨hr,hl⟩;clear hS hr hl hk hwf;simp only [au]at HB ⊢
 go_enter Tryz.func238,Tryz.ntmps238
 go_wp2_with fail
 go_loopw [3] (fun vi wr=>∃ i:Nat,vi=J i/\i≤l.length/\Hid ((∀ x ∈ l.take i,g x=true)/\Bl w wr/\wr.heap[w.heap.size]? = some (.cells (V_ k nn s (.slice pa l.length c) r) 27 (0,0)))) (fun vi _=>l.length - (intOf vi).toNat)
 case atStart=>exact⟨0,rfl,Nat.zero_le _,fun x hx=>(by cases hx),HB.out⟩
 case round =>
  obtain⟨i,rfl,hi,HI⟩:=hrel;obtain⟨⟨c0,c1,c2,c3,c4⟩,-⟩:=ax HI.out.2.2
  by_cases hil:i<l.length
  ·have hiz:(i:Int)<(l.length:Int):=by omega
   obtain⟨x,hx⟩:∃ x,l[i]? = some x:=⟨_,List.getElem?_eq_getElem hil⟩;obtain⟨b,o,cq,raw,hpe,hrg,hlt,-,hSx⟩:=(HS.out wr HI.out.2.1).range hx
   cases hpe
   have hld:=aY hrg (by simp [au]);rw [Array.toArray_toList]at hld;have hwk:wrap64 ((i:Int)+1)=(i:Int)+1:=by have:=HR.out.2;unfold wrap64;omega
   have HC:Hid _:=HR.out.1 x (List.mem_of_getElem? hx) raw wr F hSx;have Hx:Hid (l[i]? = some x):=hx;clear hrg hSx hx hlt
   go_wp2_with fail
   refine Calls.mono HC.out ?_;rintro e w5 ⟨rfl,hb5⟩;have HI5:Hid (Bl w w5/\w5.heap[w.heap.size]? = _):=⟨HI.out.2.1.trans (hb5.mono HI.out.2.1.size),ae hb5 HI.out.2.2⟩;have HA:Hid (∀ x ∈ l.take i,g x=true):=HI.out.1;clear hb5 HI hld c0 c1 c2 c3 c4 HC
   cases hg:g x with
   | true =>
     have HT:Hid (∀ y ∈ l.take (i+1),g y=true):=fun y hy=>by
      rw [List.take_add_one,Hx.out]at hy
      rcases List.mem_append.1 hy with hy | hy
      ·exact HA.out y hy
      ·cases List.mem_singleton.1 hy
       exact hg
     clear hg
     go_wp2_with fail
     go_roundw
     case rel=>exact⟨i+1,by go_num,by omega,HT.out,HI5.out⟩
     case measure=>rw [hwk];exact nk hil
   | false =>
     have HE:Hid ((l.all g && aO ⟨k,nn,s,l,r⟩)=false):=by
      show _=_;rw [Bool.and_eq_false_iff];exact .inl (List.all_eq_false.2 ⟨x,List.mem_of_getElem? Hx.out,by rw [hg];decide⟩)
     clear hg
     go_wp2_with fail
     go_ret
     exact⟨by rw [HE.out];rfl,HI5.out.1⟩
  ·have hiz:¬ (i:Int)<(l.length:Int):=by omega
   obtain rfl:i=l.length:=by omega
   have HE:Hid ((l.all g && aO ⟨k,nn,s,l,r⟩)=aO ⟨k,nn,s,l,r⟩):=by
    show _=_;have:l.all g=true:=List.all_eq_true.2 (fun x hx=>HI.out.1 x (by rw [List.take_length];exact hx));rw [this,Bool.true_and]
   have HB5:Hid (Bl w wr):=HI.out.2.1;have hkk:¬ (l.length:Int)<(l.length:Int):=by omega
   clear HI
   go_wp2_with fail
   refine(sy _ k nn s l r _ c HK.out).mono ?_;rintro e w5 ⟨rfl,hb5⟩;have HB6:Hid (Bl w w5):=HB5.out.trans (hb5.mono HB5.out.size);clear hb5 HB5 c0 c1 c2 c3 c4
   go_wp2_with fail
   go_ret
   exact⟨by rw [HE.out];rfl,HB6.out⟩
theorem kP:∀ n v,bY n v->v.wf->fM v (F4 n v)
 | 0,v,h,hw=>by
   have hl:v.l = []:=h;have:=gY v (fun _=>true) (fun x hx=>by rw [hl]at hx;cases hx) (by rw [hl];simp) hw;rw [hl]at this;exact this
 | n+1,v,h,hw=>gY v (F4 n) (fun x hx=>kP n x (h.2 x hx) (hw.sub x hx)) h.1 hw
theorem Ar {w:World} {F:Nat->Prop} {v:Val} {raw:Value} (hwf:v.wf) (hS:SlAt w F raw v.l):Calls Tryz.prog 174 #[.agg (au v raw)] w fun e w'=>e=.returned (.bool (ay v))/\Bl w w':=by
 obtain⟨pa,c,rfl⟩:=hS.form;have HP:Hid (∀ w',Bl w w'->Calls Tryz.prog 236 #[.agg (au v (.slice pa v.l.length c)),J 0] w' fun e w''=>e=.returned (J (P4 17 v))/\Bl w' w''):=fun w' hb=>sY 17 v _ w' F 0 aH (by decide) hwf (hS.on hb)
 have HQ:Hid (P4 17 v≤512->∀ w',Bl w w'->Calls Tryz.prog 237 #[.agg (au v (.slice pa v.l.length c))] w' (fun e w''=>e=.returned (J (D4 16 v))/\Bl w' w'')/\Calls Tryz.prog 238 #[.agg (au v (.slice pa v.l.length c))] w' (fun e w''=>e=.returned (.bool (F4 16 v))/\Bl w' w'')):=fun hp w' hb=>by
  have hd:=(lG 16 v hp).2;exact⟨qg 16 v (by decide) hd hwf _ w' F (hS.on hb),kP 16 v hd hwf _ w' F (hS.on hb)⟩
 rw [<- zN];clear hS hwf;obtain⟨k,n,s,l,r⟩:=v;generalize hPv:P4 17 ⟨k,n,s,l,r⟩=Pv at *;generalize D4 16 ⟨k,n,s,l,r⟩=Dv at *;generalize F4 16 ⟨k,n,s,l,r⟩=Fv at *;simp only [au]at HP HQ ⊢;generalize l.length=m at *;clear hPv;have HB0:Hid (Bl w (w.alloc (.cells (V_ k n s (.slice pa m c) r) 27))/\(w.alloc (.cells (V_ k n s (.slice pa m c) r) 27)).heap[w.heap.size]? = some (.cells (V_ k n s (.slice pa m c) r) 27 (0,0))):=⟨(Below.refl _ w).alloc aH _,ai _ _⟩
 go_enter Tryz.func174,Tryz.ntmps174
 go_wp2_with fail
 refine Calls.mono (HP.out _ HB0.out.1) ?_;rintro e w1 ⟨rfl,hb1⟩;have HB1:Hid (Bl w w1/\w1.heap[w.heap.size]? = some (.cells (V_ k n s (.slice pa m c) r) 27 (0,0))):=⟨HB0.out.1.trans (hb1.mono HB0.out.1.size),ae hb1 HB0.out.2⟩;clear hb1 HB0 HP;obtain⟨⟨c0,c1,c2,c3,c4⟩,-⟩:=ax HB1.out.2
 by_cases hp:Pv≤512
 ·have hpz:(Pv:Int)≤512:=by omega
  have HQ':Hid _:=HQ.out hp;have E1:Hid (decide (Pv≤512)=true):=decide_eq_true hp;clear hp HQ
  go_wp2_with fail
  refine Calls.mono (HQ'.out _ HB1.out.1).1 ?_;rintro e w2 ⟨rfl,hb2⟩;have HB2:Hid (Bl w w2/\w2.heap[w.heap.size]? = some (.cells (V_ k n s (.slice pa m c) r) 27 (0,0))):=⟨HB1.out.1.trans (hb2.mono HB1.out.1.size),ae hb2 HB1.out.2⟩;clear hb2 HB1 c0 c1 c2 c3 c4;obtain⟨⟨c0,c1,c2,c3,c4⟩,-⟩:=ax HB2.out.2
  by_cases hd:Dv≤16
  ·have hdz:(Dv:Int)≤16:=by omega
   have E2:Hid ((decide (Pv≤512) && (decide (Dv≤16) && Fv))=Fv):=by show _=_;rw [E1.out,decide_eq_true hd,Bool.true_and,Bool.true_and]
   clear hd E1
   go_wp2_with fail
   refine Calls.mono (HQ'.out _ HB2.out.1).2 ?_;rintro e w3 ⟨rfl,hb3⟩;have HB3:Hid (Bl w w3):=HB2.out.1.trans (hb3.mono HB2.out.1.size);clear hb3 HB2 c0 c1 c2 c3 c4
   go_wp2_with fail
   go_ret
   exact⟨by rw [E2.out];rfl,HB3.out⟩
  ·have hdz:¬ (Dv:Int)≤16:=by omega
   have E2:Hid ((decide (Pv≤512) && (decide (Dv≤16) && Fv))=false):=by show _=_;rw [E1.out,decide_eq_false hd,Bool.false_and,Bool.true_and]
   clear hd E1
   go_wp2_with fail
   go_ret
   exact⟨by rw [E2.out];rfl,HB2.out.1⟩
 ·have hpz:¬ (Pv:Int)≤512:=by omega
  have E2:Hid ((decide (Pv≤512) && (decide (Dv≤16) && Fv))=false):=by show _=_;rw [decide_eq_false hp,Bool.false_and]
  clear hp
  go_wp2_with fail
  go_ret
  exact⟨by rw [E2.out];rfl,HB1.out.1⟩
end
end Go.Proofs.YthaliljaglldjaaGreat
