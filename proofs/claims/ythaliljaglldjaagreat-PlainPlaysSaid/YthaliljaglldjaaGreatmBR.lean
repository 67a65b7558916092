/- Part of the proof. -/
import Derived.Test.YthaliljaglldjaaGreatmBQ
namespace Go.Proofs.YthaliljaglldjaaGreat
set_option maxHeartbeats 16000000
set_option maxRecDepth 20000
open Go.RowKit Go.ChangeMaps Go.MapKept
section
def Own (w0 w:World) (p:Nat) (M:WM):Prop:=∃ F,IsW w p M F/\(∀ b,F b->w0.heap.size≤b)/\Bl w0 w
theorem Own.below {w0 w w':World} {p:Nat} {M:WM} (h:Own w0 w p M) (hb:Bl w w'):Own w0 w' p M:=by
 obtain⟨F,h1,h2,h3⟩:=h;exact⟨F,h1.below hb,h2,h3.trans (hb.mono h3.size)⟩
theorem Own.turn {w0 w w':World} {p:Nat} {M':WM} {F F':Nat->Prop} (h2:∀ b,F b->w0.heap.size≤b) (h3:Bl w0 w) (hW:IsW w' p M' F') (hg:Grew F w F' w'):Own w0 w' p M':=by
 refine⟨F',hW,fun b hb=>?_,h3.trans (Keeps.below hg.1 h3.size h2)⟩
 rcases hg.2 b hb with h | h
 ·exact h2 b h
 ·exact Nat.le_trans h3.size h
end
section
def AM0:WM:=WM.new []
def zF (a:Value):WM:=em AM0 (bn 0 (cj 1) a)
def xE (a:Value):WM:=em (zF a) (lt 4 0 0 0 0 0 0 0 0 false)
def zR (a b:Value):WM:=(xE a).set 2 (qT 4 0 ([] ++ [cj 5]) b)
def zu (a b c:Value):WM:=(zR a b).set 2 (qT 4 0 ((([]:List Val) ++ [cj 5]).drop (1:Int).toNat) c)
theorem zr:dH []:=⟨by decide,fun i p h=>by simp at h⟩
theorem zB (a:Value):(xE a).at 1=some (bn 0 (cj 1) a):=rfl
theorem zK (a:Value):(xE a).at 2=some (qT 4 0 [] (S_)):=rfl
theorem zL (a b:Value):(zR a b).at 2=some (qT 4 0 ([] ++ [cj 5]) b):=rfl
theorem yW (a b c:Value):(zu a b c).at 2=some (qT 4 0 [] c):=rfl
theorem Own.acts {w w1 w2:World} {p:Nat} {N:WM} {F:Nat->Prop} (h2:∀ b,F b->w.heap.size≤b) (h3:Bl w w1) (ha:Acts w1 p F N w2):Own w w2 p N:=by
 obtain⟨hk,F',hW',hF'⟩:=ha
 exact⟨F',hW',fun b hb=>by
  rcases hF' b hb with h | h
  ·exact h2 b h
  ·exact Nat.le_trans h3.size h,Keeps.below hk h3.size h2 |> fun x=>h3.trans x⟩
theorem Own.below0 {w w1:World} {p:Nat} {N:WM} (h:Own w w1 p N):Bl w w1:=by
 obtain⟨F,-,-,h⟩:=h;exact h
theorem tZ (vs:List Val) (a:Value) (h:∀ x ∈ vs,aM x = []):∀ (M:WM),∀ r ∈ bk (qT 4 0 vs a),(Lit.int .i64 r).wf=true/\(M.at r).isSome=true:=by
 intro M r hr;simp only [bk,List.mem_append,List.mem_flatMap]at hr
 rcases hr with hr | ⟨x,hx,hr⟩
 ·rw [(aZ 0 0 (.inl ⟨rfl,rfl⟩)).1]at hr
  cases hr
 ·rw [h x hx]at hr
  cases hr
theorem km:bX 56 27 7 bp:=fun _ _ _ _ _=>rfl
def yZ (p:Nat) (pv:Option Addr) (cv:Nat) (j:Nat) (v:Value) (_:World):Prop :=
 match j with
 | 0=>v=J 0
 | 1=>v=.bool false
 | 2=>v=.bool false
 | 3=>v=J 0
 | 4=>v=.bool false
 | 5=>v=.bool false
 | 6=>v=.bool false
 | 7=>v=J 0
 | 8=>v=.bool false
 | 9=>v=.bool false
 | 10=>v=.bool false
 | 11=>v=J 1
 | 12=>v=.bool false
 | 13=>v=.bool false
 | 14=>v=.bool false
 | 15=>v=J 2
 | 16=>v=.bool false
 | 17=>v=.bool false
 | 18=>v=.bool false
 | 19=>v=.agg (V_ 1 1 ⟨#[]⟩ (.slice pv 0 cv) 0)
 | 20=>v=.agg (V_ 1 1 ⟨#[]⟩ (S_) 0)
 | 21=>v=.bool true
 | 22=>v=.bool false
 | 23=>v=.bool false
 | 24=>v=.bool false
 | 25=>v=P_ p
 | 26=>v=J 2
 | 27=>v=.agg (V_ 1 5 ⟨#[]⟩ (S_) 0)
 | _=>True
theorem gF (w:World):Calls Tryz.prog 11 #[] w fun e w'=>e=.returned (.bool true)/\Bl w w':=by
 go_enter Tryz.func11,Tryz.ntmps11
 go_wp2_with fail
 refine(wV w none 0 [] (.inl rfl)).mono ?_;rintro e w1 hpost;obtain⟨p,F,rfl,hW,hF,hb⟩:=(Or.resolve_right hpost (fun h=>h.1 zr)).2;clear hpost;have HO:Hid (Own w w1 p AM0):=⟨F,hW,fun b h=>hF b h,hb⟩;clear hW hF hb
 go_wp2_with fail
 refine(eI _ 1).mono ?_;rintro e w2 ⟨rfl,hb2⟩;have HO2:Hid (Own w w2 p AM0):=HO.out.below hb2;clear hb2 HO
 go_wp2_with fail
 obtain⟨F,hW,h2,h3⟩:=HO2.out;refine(tx hW (by decide) (h:=0) (by decide) (cj 1) (S_) (SlAt.nil w2 F none 0) (aZ 1 1 (.inr rfl)).2 (fun r hr=>by rw [(aZ 1 1 (.inr rfl)).1]at hr;cases hr)).mono ?_;rintro e w3 (⟨-,rfl,t,F',⟨vl',rfl⟩,hW',hg⟩ | ⟨hx,-,-⟩)
 rotate_left
 ·exact absurd (by decide) hx
 have HO3:Hid (Own w w3 p (zF vl')):=Own.turn h2 h3 hW' hg;clear HO2 hW h2 h3 hW' hg;simp only [show AM0.last+1=1 from rfl]
 go_wp2_with fail
 obtain⟨F,hW,h2,h3⟩:=HO3.out;refine(qi hW (by show (1:Int)+1≤1099511627776;decide) (h:=0) (by show (0:Int)≤0/\(0:Int)<1;decide)).mono ?_;rintro e w4 (⟨-,rfl,t,F',rfl,hW',hg⟩ | ⟨hx,-,-⟩)
 rotate_left
 ·exact absurd (by show (1:Int)<512;decide) hx
 have HO4:Hid (Own w w4 p (xE vl')):=Own.turn h2 h3 hW' hg;clear HO3 hW h2 h3 hW' hg;simp only [show (zF vl').last+1=2 from rfl]
 go_wp2_with fail
 obtain⟨F,hW,h2,h3⟩:=HO4.out;refine(qH hW.lt (fun w1 hb=>qV (hW.below hb) rfl (zB vl') (aZ 1 1 (.inr rfl)).2)).mono ?_;rintro e w5 hp5;obtain⟨v,pv,cv,n,N,rfl,⟨rfl,rfl,rfl⟩,ha⟩:=hp5.acts;have HO5:Hid (Own w w5 p (xE vl')):=Own.acts h2 h3 ha;clear HO4 hW h2 h3 ha hp5;simp only [au,List.length_nil]
 go_upto_region 7 with fail
 have HQ:Hid (Bl w5 (w5.alloc (.cells (V_ 1 1 ⟨#[]⟩ (.slice pv 0 cv) 0) 27))/\(w5.alloc (.cells (V_ 1 1 ⟨#[]⟩ (.slice pv 0 cv) 0) 27)).heap[w5.heap.size]? = some (.cells (V_ 1 1 ⟨#[]⟩ (.slice pv 0 cv) 0) 27 (0,0))):=⟨br.alloc aH _,ai _ _⟩;obtain⟨q7,hq7⟩:∃ q7,q7=w5.heap.size:=⟨_,rfl⟩;have HO6:Hid (Own w (w5.alloc (.cells (V_ 1 1 ⟨#[]⟩ (.slice pv 0 cv) 0) 27)) p (xE vl')):=HO5.out.below HQ.out.1
 have Hq:Hid ((w5.alloc (.cells (V_ 1 1 ⟨#[]⟩ (.slice pv 0 cv) 0) 27)).heap[q7]? = some (.cells (V_ 1 1 ⟨#[]⟩ (.slice pv 0 cv) 0) 27 (0,0))):=by
  show _=_;rw [hq7];exact HQ.out.2
 rw [<- hq7];clear HQ HO5 hq7;revert HO6 Hq;generalize w5.alloc _=wa;intro HO6 Hq;refine aR 28 (by kernel_rfl) rfl (by kernel_rfl) (by kernel_rfl) (fun a b=>Bl a b) (yZ p pv cv) (fun w'=>Bl wa w') (fun j v w w' _ h=>h) below_drew (fun a b h hR=>h.trans (hR.mono h.size)) ?_ ?_ ?_
 ·intro j q g b hq hgd;have hj:j<28:=ji hq
  match j,hj with
  | 0,_=>cases hq;cases hgd
  | 1,_=>cases hq;cases hgd
  | 2,_=>cases hq;cases hgd
  | 3,_=>cases hq;cases hgd;exact fun v w h=>h
  | 4,_=>cases hq;cases hgd;exact fun v w h=>h
  | 5,_=>cases hq;cases hgd
  | 6,_=>cases hq;cases hgd
  | 7,_=>cases hq;cases hgd;exact fun v w h=>h
  | 8,_=>cases hq;cases hgd;exact fun v w h=>h
  | 9,_=>cases hq;cases hgd
  | 10,_=>cases hq;cases hgd
  | 11,_=>cases hq;cases hgd;exact fun v w h=>h
  | 12,_=>cases hq;cases hgd;exact fun v w h=>h
  | 13,_=>cases hq;cases hgd
  | 14,_=>cases hq;cases hgd
  | 15,_=>cases hq;cases hgd;exact fun v w h=>h
  | 16,_=>cases hq;cases hgd;exact fun v w h=>h
  | 17,_=>cases hq;cases hgd
  | 18,_=>cases hq;cases hgd
  | 19,_=>cases hq;cases hgd;exact fun v w h=>h
  | 20,_=>cases hq;cases hgd;exact fun v w h=>h
  | 21,_=>cases hq;cases hgd;exact fun v w h=>h
  | 22,_=>cases hq;cases hgd;exact fun v w h=>h
  | 23,_=>cases hq;cases hgd
  | 24,_=>cases hq;cases hgd
  | 25,_=>cases hq;cases hgd;exact fun v w h=>h
  | 26,_=>cases hq;cases hgd;exact fun v w h=>h
  | 27,_=>cases hq;cases hgd;exact fun v w h=>h
 ·intro j q a w7 hq hC hG;have hj:j<28:=ji hq
  match j,hj with
  | 0,_=>cases hq;have h4':a.tmps[4]?.getD undef=J 0:=gq (hG.fr 4 (by simp));unfold Oper.wp;simp [go_sem,Act.eval,h4'];exact⟨_,rfl,br,rfl⟩
  | 1,_=>cases hq;have h37':=gq (i:=37) (gd hG 0 rfl);unfold Oper.wp;simp [go_sem,Act.eval,h37'];exact⟨_,rfl,br,rfl⟩
  | 2,_=>cases hq;have h38':=gq (i:=38) (gd hG 1 rfl);unfold Oper.wp;simp [go_sem,Act.eval,h38'];exact⟨_,rfl,br,rfl⟩
  | 3,_=>cases hq;have h6':a.tmps[6]?.getD undef=J 0:=gq (hG.fr 6 (by simp));unfold Oper.wp;simp [go_sem,Act.eval,h6'];exact⟨_,rfl,br,rfl⟩
  | 4,_=>cases hq;have h40':=gq (i:=40) (gd hG 3 rfl);unfold Oper.wp;simp [go_sem,Act.eval,h40'];exact⟨_,rfl,br,rfl⟩
  | 5,_=>cases hq;have h39':=gq (i:=39) (gd hG 2 rfl);have h41':=gq (i:=41) (gd hG 4 rfl);unfold Oper.wp;simp [go_sem,Act.eval,h39',h41'];exact⟨_,rfl,br,rfl⟩
  | 6,_=>cases hq;have h42':=gq (i:=42) (gd hG 5 rfl);unfold Oper.wp;simp [go_sem,Act.eval,h42'];exact⟨_,rfl,br,rfl⟩
  | 7,_=>cases hq;have h8':a.tmps[8]?.getD undef=J 0:=gq (hG.fr 8 (by simp));unfold Oper.wp;simp [go_sem,Act.eval,h8'];exact⟨_,rfl,br,rfl⟩
  | 8,_=>cases hq;have h44':=gq (i:=44) (gd hG 7 rfl);unfold Oper.wp;simp [go_sem,Act.eval,h44'];exact⟨_,rfl,br,rfl⟩
  | 9,_=>cases hq;have h43':=gq (i:=43) (gd hG 6 rfl);have h45':=gq (i:=45) (gd hG 8 rfl);unfold Oper.wp;simp [go_sem,Act.eval,h43',h45'];exact⟨_,rfl,br,rfl⟩
  | 10,_=>cases hq;have h46':=gq (i:=46) (gd hG 9 rfl);unfold Oper.wp;simp [go_sem,Act.eval,h46'];exact⟨_,rfl,br,rfl⟩
  | 11,_=>cases hq;have h3':a.tmps[3]?.getD undef=J 1:=gq (hG.fr 3 (by simp));unfold Oper.wp;simp [go_sem,Act.eval,h3'];exact⟨_,rfl,br,rfl⟩
  | 12,_=>cases hq;have h48':=gq (i:=48) (gd hG 11 rfl);unfold Oper.wp;simp [go_sem,Act.eval,h48'];exact⟨_,rfl,br,rfl⟩
  | 13,_=>cases hq;have h47':=gq (i:=47) (gd hG 10 rfl);have h49':=gq (i:=49) (gd hG 12 rfl);unfold Oper.wp;simp [go_sem,Act.eval,h47',h49'];exact⟨_,rfl,br,rfl⟩
  | 14,_=>cases hq;have h50':=gq (i:=50) (gd hG 13 rfl);unfold Oper.wp;simp [go_sem,Act.eval,h50'];exact⟨_,rfl,br,rfl⟩
  | 15,_=>cases hq;have h5':a.tmps[5]?.getD undef=J 2:=gq (hG.fr 5 (by simp));unfold Oper.wp;simp [go_sem,Act.eval,h5'];exact⟨_,rfl,br,rfl⟩
  | 16,_=>cases hq;have h52':=gq (i:=52) (gd hG 15 rfl);unfold Oper.wp;simp [go_sem,Act.eval,h52'];exact⟨_,rfl,br,rfl⟩
  | 17,_=>cases hq;have h51':=gq (i:=51) (gd hG 14 rfl);have h53':=gq (i:=53) (gd hG 16 rfl);unfold Oper.wp;simp [go_sem,Act.eval,h51',h53'];exact⟨_,rfl,br,rfl⟩
  | 18,_=>cases hq;have h54':=gq (i:=54) (gd hG 17 rfl);unfold Oper.wp;simp [go_sem,Act.eval,h54'];exact⟨_,rfl,br,rfl⟩
  | 19,_ =>
    cases hq;have h7:a.tmps.getD 7 undef=P_ q7:=hG.fr 7 (by simp);have h7':a.tmps[7]?.getD undef=P_ q7:=gq h7;refine aT (.agg (V_ 1 1 ⟨#[]⟩ (.slice pv 0 cv) 0)) ?_ br rfl;rw [km];show (bp (a.tmps.getD 7 undef)).run _ _=_;rw [h7];exact aI (ae hC Hq.out) rfl
  | 20,_ =>
    cases hq;unfold Oper.wp;simp [go_sem,callFunc,Act.eval,Tryz.func65];refine(eI _ 1).mono ?_;rintro e w8 ⟨rfl,hb8⟩;exact⟨_,rfl,hb8,rfl⟩
  | 21,_ =>
    cases hq;have h56':=gq (i:=56) (gd hG 19 rfl);have h57':=gq (i:=57) (gd hG 20 rfl);unfold Oper.wp;simp [go_sem,callFunc,Act.eval,Tryz.func68,h56',h57'];refine(ro _ 1 pv cv).mono ?_;rintro e w8 ⟨rfl,hb8⟩;exact⟨_,rfl,hb8,rfl⟩
  | 22,_=>cases hq;have h58':=gq (i:=58) (gd hG 21 rfl);unfold Oper.wp;simp [go_sem,Act.eval,h58'];exact⟨_,rfl,br,rfl⟩
  | 23,_=>cases hq;have h55':=gq (i:=55) (gd hG 18 rfl);have h59':=gq (i:=59) (gd hG 22 rfl);unfold Oper.wp;simp [go_sem,Act.eval,h55',h59'];exact⟨_,rfl,br,rfl⟩
  | 24,_=>cases hq;have h60':=gq (i:=60) (gd hG 23 rfl);unfold Oper.wp;simp [go_sem,Act.eval,h60'];exact⟨_,rfl,br,rfl⟩
  | 25,_=>cases hq;have h1':a.tmps[1]?.getD undef=P_ p:=gq (hG.fr 1 (by simp));unfold Oper.wp;simp [go_sem,Act.eval,h1'];exact⟨_,rfl,br,rfl⟩
  | 26,_=>cases hq;have h5':a.tmps[5]?.getD undef=J 2:=gq (hG.fr 5 (by simp));unfold Oper.wp;simp [go_sem,Act.eval,h5'];exact⟨_,rfl,br,rfl⟩
  | 27,_ =>
    cases hq;unfold Oper.wp;simp [go_sem,callFunc,Act.eval,Tryz.func65];refine(eI _ 5).mono ?_;rintro e w8 ⟨rfl,hb8⟩;exact⟨_,rfl,hb8,rfl⟩
 ·intro a w7 hC hdf hsz hfr hphi;have e0:a.tmps.getD 37 undef=J 0:=hphi 0 _ rfl;have e1:a.tmps.getD 38 undef=_:=hphi 1 _ rfl;have e2:a.tmps.getD 39 undef=_:=hphi 2 _ rfl;have e3:a.tmps.getD 40 undef=J 0:=hphi 3 _ rfl;have e4:a.tmps.getD 41 undef=_:=hphi 4 _ rfl;have e5:a.tmps.getD 42 undef=_:=hphi 5 _ rfl;have e6:a.tmps.getD 43 undef=_:=hphi 6 _ rfl;have e7:a.tmps.getD 44 undef=J 0:=hphi 7 _ rfl;have e8:a.tmps.getD 45 undef=_:=hphi 8 _ rfl;have e9:a.tmps.getD 46 undef=_:=hphi 9 _ rfl;have e10:a.tmps.getD 47 undef=_:=hphi 10 _ rfl;have e11:a.tmps.getD 48 undef=J 1:=hphi 11 _ rfl;have e12:a.tmps.getD 49 undef=_:=hphi 12 _ rfl;have e13:a.tmps.getD 50 undef=_:=hphi 13 _ rfl;have e14:a.tmps.getD 51 undef=_:=hphi 14 _ rfl;have e15:a.tmps.getD 52 undef=J 2:=hphi 15 _ rfl;have e16:a.tmps.getD 53 undef=_:=hphi 16 _ rfl;have e17:a.tmps.getD 54 undef=_:=hphi 17 _ rfl;have e18:a.tmps.getD 55 undef=_:=hphi 18 _ rfl;have e19:a.tmps.getD 56 undef=_:=hphi 19 _ rfl;have e20:a.tmps.getD 57 undef=_:=hphi 20 _ rfl;have e21:a.tmps.getD 58 undef=_:=hphi 21 _ rfl;have e22:a.tmps.getD 59 undef=_:=hphi 22 _ rfl;have e23:a.tmps.getD 60 undef=_:=hphi 23 _ rfl;have e24:a.tmps.getD 61 undef=_:=hphi 24 _ rfl;have e25:a.tmps.getD 62 undef=_:=hphi 25 _ rfl;have e26:a.tmps.getD 63 undef=J 2:=hphi 26 _ rfl;have e27:a.tmps.getD 64 undef=_:=hphi 27 _ rfl;have ha:=bq hdf hsz hfr;simp only [List.take_succ_cons,List.take_zero,List.filterMap_cons,List.filterMap_nil,List.foldl_cons,List.foldl_nil,List.setIfInBounds_toArray,List.set_cons_zero,List.set_cons_succ,e0,e1,e2,e3,e4,e5,e6,e7,e8,e9,e10,e11,e12,e13,e14,e15,e16,e17,e18,e19,e20,e21,e22,e23,e24,e25,e26,e27]at ha;clear hdf hsz hfr hphi e0 e1 e2 e3 e4 e5 e6 e7 e8 e9 e10 e11 e12 e13 e14 e15 e16 e17 e18 e19 e20 e21 e22 e23 e24 e25 e26 e27;subst ha;have HO7:Hid (Own w w7 p (xE vl')):=HO6.out.below hC;clear hC HO6 Hq;obtain⟨F,hW,h2,h3⟩:=HO7.out;refine⟨rfl,?_⟩;unfold Oper.wp;simp [go_sem,callFunc,Act.eval,Tryz.func69];refine(nM (v:=cj 5) (pv:=none) (nv:=0) (cv:=0) (fun w1 hb=>qv (hW.below hb) rfl (zK vl') rfl (tZ [] _ (fun x hx=>by cases hx) _) (fun x hx=>by cases hx) (Nat.zero_le _) (SlAt.nil w1 F none 0) (aZ 1 5 (.inr rfl)).2 (fun r hr=>by rw [(aZ 1 5 (.inr rfl)).1]at hr;cases hr))).mono ?_;rintro e w8 ⟨v8,n8,N8,rfl,⟨-,hx⟩,ha8⟩
  rcases hx with ⟨-,rfl,b,rfl⟩ | ⟨hx,-⟩
  rotate_left
  ·exact absurd hx (by rw [show ay (aJ ([] ++ [cj 5]))=true from rfl];decide)
  have HO8:Hid (Own w w8 p (zR vl' b)):=Own.acts h2 h3 ha8;clear HO7 hW h2 h3 ha8;refine⟨rfl,?_⟩;unfold Oper.wp;simp [execOp,go_sem,Act.eval];refine⟨rfl,?_⟩;unfold Oper.wp;simp [execOp,go_sem,Act.eval,aV];refine ‹∀ (a:Act) (w:World),Code.wp Tryz.prog _ _ a w->_› _ _ ?_
  go_wp2_with fail
  obtain⟨F,hW,h2,h3⟩:=HO8.out;refine(iY (m:=1) hW.lt (fun w1 hb=>lY (hW.below hb) rfl (zL vl' b) rfl (tZ _ _ (fun x hx=>by simp at hx;subst hx;exact(aZ 1 5 (.inr rfl)).1) _) (show ay (aJ ([] ++ [cj 5]))=true from rfl) (fun x hx=>by simp at hx;subst hx;exact(aZ 1 5 (.inr rfl)).2) 1)).mono ?_;rintro e w9 ⟨v9,pv9,cv9,n9,N9,F9,rfl,hX9,hk9,hW9,hF9,hS9⟩
  rcases hX9 with ⟨hx,-⟩ | ⟨hx,-⟩ | ⟨-,-,rfl,rfl,c,rfl⟩
  ·exact absurd hx (by decide)
  ·exact absurd hx (by decide)
  have hS9':SlT w9 (fun y=>w8.heap.size≤y/\¬ F9 y) (.slice pv9 1 cv9) [cj 5]:=hS9;obtain⟨qb,qo,qc,qr,hpe,hrg,hqlt,hqF,-⟩:=SlAt.range hS9'.at (i:=0) rfl
  cases hpe
  have hc5:w9.cell? ⟨qb,qo+1,none⟩=some (.int .i64 5):=hrg 1 _ rfl
  have H9:Hid (IsW w9 p (zu vl' b c) F9/\(∀ y,F9 y->w.heap.size≤y)/\Bl w w9/\w9.cell? ⟨qb,qo+1,none⟩=some (.int .i64 5)/\¬ F9 qb):=⟨hW9,fun y hy=>by
   rcases hF9 y hy with h | h
   ·exact h2 y h
   ·exact Nat.le_trans h3.size h,h3.trans (Keeps.below hk9 h3.size h2),hc5,hqF.2⟩
  clear HO8 hW h2 h3 hk9 hW9 hF9 hS9 hS9' hrg hqlt hqF hc5;simp only [au,aJ]
  go_wp2_with fail
  have HB10:Hid (Bl w9 (w9.alloc (.cells (V_ 3 0 ⟨#[]⟩ (.slice (some ⟨qb,qo,none⟩) 1 cv9) 0) 27))):=br.alloc aH _;have hb11:=HB10.out;have hW11:=H9.out.1.below hb11;refine(iY (m:=1) hW11.lt (fun w1 hb=>lY (hW11.below hb) rfl (yW vl' b c) rfl (tZ [] _ (fun x hx=>by cases hx) _) (show ay (aJ [])=true from rfl) (fun x hx=>by cases hx) 1)).mono ?_;rintro e w10 ⟨v10,pv10,cv10,n10,N10,F10,rfl,hX10,hk10,hW10,hF10,-⟩
  rcases hX10 with ⟨hx,-⟩ | ⟨-,-,rfl,rfl⟩ | ⟨-,hx,-⟩
  ·exact absurd hx (by decide)
  rotate_left
  ·exact absurd hx (by decide)
  have hblk:w10.heap[w9.heap.size]? = some (.cells (V_ 3 0 ⟨#[]⟩ (.slice (some ⟨qb,qo,none⟩) 1 cv9) 0) 27 (0,0)):=by
   rw [hk10.block _ (aw (ai w9 _)) (fun h=>by have:=H9.out.1.lt _ h;omega)];exact ai w9 _
  have hqlt:qb<w9.heap.size:=World.block_lt_of_cell? _ _ H9.out.2.2.2.1
  have hc5:w10.cell? ⟨qb,qo+1,none⟩=some (.int .i64 5):=by
   rw [World.cell?_of_block (a:=⟨qb,qo+1,none⟩) ((hk10.block _ (Nat.lt_of_lt_of_le hqlt hb11.size) H9.out.2.2.2.2).trans (hb11.block _ hqlt))];exact H9.out.2.2.2.1
  have hs9:w.heap.size≤w9.heap.size:=H9.out.2.2.1.size;have hs10:w9.heap.size≤(w9.alloc (.cells (V_ 3 0 ⟨#[]⟩ (.slice (some ⟨qb,qo,none⟩) 1 cv9) 0) 27)).heap.size:=hb11.size
  have HO10:Hid (Own w w10 p (zu vl' b c)):=⟨F10,hW10,fun y hy=>by
   rcases hF10 y hy with h | h
   ·exact H9.out.2.1 y h
   ·exact Nat.le_trans (Nat.le_trans hs9 hs10) h,(H9.out.2.2.1.trans (hb11.mono hs9)).trans (Keeps.below hk10 (Nat.le_trans hs9 hs10) H9.out.2.1)⟩
  have hc3:w10.cell? ⟨w9.heap.size,3,none⟩=some (.slice (some ⟨qb,qo,none⟩) 1 cv9):=by rw [ag hblk];rfl
  clear hb11 hW11 hk10 hW10 hF10 hblk hqlt hs9 hs10 H9 HB10;simp only [au]
  go_wp2_with fail
  refine(eI _ 1).mono ?_;rintro e w11 ⟨rfl,hb11⟩;have HO11:Hid (Own w w11 p (zu vl' b c)):=HO10.out.below hb11;clear hb11 HO10
  go_wp2_with fail
  obtain⟨F,hW,h2,h3⟩:=HO11.out;refine(pZ (v:=cj 1) (pv:=none) (nv:=0) (cv:=0) (fun w1 hb=>pX (hW.below hb) rfl (yW vl' b c) (fun x hx=>by cases hx) (Nat.zero_le _) (SlAt.nil w1 F none 0) (aZ 1 1 (.inr rfl)).2 (fun r hr=>by rw [(aZ 1 1 (.inr rfl)).1]at hr;cases hr))).mono ?_;rintro e w12 ⟨v12,n12,N12,rfl,⟨-,rfl,rfl⟩,ha12⟩;have HB12:Hid (Bl w w12):=(Own.acts h2 h3 ha12).below0;clear HO11 hW h2 h3 ha12
  go_wp2_with fail
  go_ret
  exact⟨rfl,HB12.out⟩
end
section
variable {w:World} {p q:Nat} {M N:WM} {F G:Nat->Prop}
theorem rS {F1:Nat->Prop} (hB:Both w p q M N F G) (hl:M.last+2≤100000) {k:Int} (hk:k=1\/k=2\/k=3\/k=4\/k=10) (d h on ab:Int) (v:Val) (raw:Value) (hS:SlAt w F1 raw v.l) (hF1:∀ b,F1 b->¬ F b/\¬ G b) (hF0:∀ b,F1 b->b<w.heap.size) (hwf:v.wf) (hroom:cp v=true) :
 Calls Tryz.prog 16 #[P_ p,P_ q,.agg (aU d k h on ab v raw)] w (dt w p q M N F G):=by
 rcases hk with rfl | hk | hk | hk | rfl
 ·exact vm hB hl d h on ab v raw hS hF1 hwf hroom
 ·exact lD hB (.inl hk) hl d h on ab v raw hS hF1 hwf hroom hF0
 ·exact lD hB (.inr (.inl hk)) hl d h on ab v raw hS hF1 hwf hroom hF0
 ·exact lD hB (.inr (.inr hk)) hl d h on ab v raw hS hF1 hwf hroom hF0
 ·exact uh hB hl d h on ab v raw hS hF1 hwf hroom hF0
theorem uK (hB:Both w p q M N F G) (hl:M.last≤100000):Calls Tryz.prog 17 #[P_ p,P_ q] w fun e w'=>e=.returned (.bool true)/\Bl w w':=by
 have hM:=hB.W.ok;have hlen:=hB.lenM;have hp:M.parents.length≤15:=by have:=hM.sides;omega
 have hmd:M.made.length=M.parents.length+1:=hM.made;have HT:Hid _:=yj hB.W hB.may hB.cutM (by omega)
 have HT7:Hid (∀ w',Bl w w'->Calls Tryz.prog 26 #[P_ q] w' fun e w''=>∃ v,e=.returned v/\Told7 w'' w'.heap.size N v/\Bl w' w''):=fun w' hb =>
  wH (hB.R.below hb) (hB.good hl).ok hB.rmay (by rw [hB.al.par];exact hp) hB.cutN hB.cutL (by rw [hB.al.made];omega) (by rw [hB.al.made];omega)
 have HS:Hid (∀ w' v1 v2,ToldG M v1 w'->ToldG N v2 w'->Calls Tryz.prog 24 #[v1,v2] w' fun e w''=>e=.returned (.bool true)/\Bl w' w''):=fun w' v1 v2 h1 h2 =>
  uR h1 h2 hB.al (by omega) (by omega) (by omega) hB.wfs
 clear hB hM hlen hp hmd hl
 go_enter Tryz.func17,Tryz.ntmps17
 go_wp2_with fail
 refine Calls.mono HT.out ?_;rintro e w1 ⟨v1,rfl,h1,hb1⟩;have H1:Hid (ToldG M v1 w1/\Bl w w1):=⟨h1,hb1⟩;clear h1 hb1 HT
 go_wp2_with fail
 refine Calls.mono (HT7.out w1 H1.out.2) ?_;rintro e w2 ⟨v2,rfl,h2,hb2⟩;have H2:Hid (ToldG M v1 w2/\ToldG N v2 w2/\Bl w w2):=⟨H1.out.1.below hb2,h2.toG,H1.out.2.trans (hb2.mono H1.out.2.size)⟩;clear h2 hb2 H1 HT7
 go_wp2_with fail
 refine Calls.mono (HS.out w2 v1 v2 H2.out.1 H2.out.2.1) ?_;rintro e w3 ⟨rfl,hb3⟩;have H3:Hid (Bl w w3):=H2.out.2.2.trans (hb3.mono H2.out.2.2.size);clear hb3 H2 HS
 go_wp2_with fail
 go_ret
 exact⟨rfl,H3.out⟩
theorem Both.make2 {w5 w6:World} {F' G':Nat->Prop} {t t':Th} (hB:Both w p q M N F G) (hW:IsW w5 p (M.add t) F') (hg:Grew F w F' w5) (hR:IsR w6 q (N.add t') G') (hk:Keeps G w5 w6) (hG':∀ b,G' b->G b\/w5.heap.size≤b)
 (ht:ThLike t t') (hone:(aF t').all (·.oneCell')=true) (hmay:ay t.v=true/\(∀ v ∈ t.vs,ay v=true)/\t.vs.length≤1000) (hwf:t.v.wf/\(aJ t.vs).wf) (hkp:t.kind=11->t.tgt≤M.last+1) :
 Both w6 p q (M.add t) (N.add t') F' G'/\(∀ b,F' b\/G' b->(F b\/G b)\/w.heap.size≤b)/\Keeps (fun b=>F b\/G b) w w6:=by
 have hFG:∀ b,F' b->¬ G b:=fun b h1 h2=>(hg.2 b h1).elim (fun h=>hB.ap b h h2) fun h=>by have:=hB.R.lt b h2;omega
 exact⟨hB.add (hW.keeps hk hFG) hR (fun b h1 h2=>(hG' b h2).elim (hFG b h1) fun h=>by have:=hW.lt b h1;omega) ht hone hmay hwf hkp,fun b h=>h.elim (fun h=>(hg.2 b h).imp .inl id) (fun h=>(hG' b h).imp .inr fun h=>Nat.le_trans hg.1.size h),hg.1.trans hk (fun _ _ h=>.inl h) (fun _ _ h=>.inr h)⟩
end
section
theorem wt (w:World) (sides:Int) (h:Int) (hh:0≤h/\h<sides) (n:Int) (hn:0≤n/\n≤9007199254740992) (lo:Int) (hlo:0≤lo/\lo≤n) :
 Calls Tryz.prog 81 #[.agg (wr 8 h 0 0 n lo 0 0 0 false),J sides] w fun e w'=>e=.returned (.bool true)/\Bl w w':=by
 have hh1:¬ h<0:=by omega
 have hh2:¬ h ≥ sides:=by omega
 clear hh;have hn1:¬ n<0:=by omega
 have hn2:¬ n > 9007199254740992:=by omega
 have hl1:¬ lo<0:=by omega
 have hl2:¬ lo > n:=by omega
 clear hlo;clear hn;have H5:Hid _:=cV w (wr 8 h 0 0 n lo 0 0 0 false) (wr 8 h 0 0 n lo 0 0 0 false)
 go_enter Tryz.func81,Tryz.ntmps81
 go_upto_region 26 with fail
 go_cut [] (fun wx=>Hid (Bl w wx/\wx.heap[w.heap.size]? = some (.cells (wr 8 h 0 0 n lo 0 0 0 false) 46 (0,0))/\wx.heap[w.heap.size+1]? = some (.cells (wr 8 h 0 0 n lo 0 0 0 false) 46 (0,0))))
 case first =>
  go_region
  all_goals
   go_wp2_with fail
   go_meet
   case rel=>first | exact H5.out _ (.inr rfl) | exact H5.out _ (.inl rfl)
 have H5:=hcut;clear hcut;generalize wc=w5 at *;have aa:=aq H5.out.2.1;have bb:=aq H5.out.2.2
 go_upto_region 51 with fail
 clear aa bb;have aa:=aq H5.out.2.1;have bb:=aq H5.out.2.2
 go_wp2_with fail
 refine(dP w5).mono ?_;rintro e w6 ⟨rfl,hb6⟩;have H6:Hid (Bl w w6/\_/\_):=⟨H5.out.1.trans (hb6.mono H5.out.1.size),ae hb6 H5.out.2.1,ae hb6 H5.out.2.2⟩;clear hb6 H5;clear aa bb;have aa:=aq H6.out.2.1;have bb:=aq H6.out.2.2
 go_wp2_with fail
 refine(dk w6).mono ?_;rintro e w7 ⟨rfl,hb7⟩;have H7:Hid (Bl w w7/\_/\_):=⟨H6.out.1.trans (hb7.mono H6.out.1.size),ae hb7 H6.out.2.1,ae hb7 H6.out.2.2⟩;clear hb7 H6;clear aa bb;have aa:=aq H7.out.2.1;have bb:=aq H7.out.2.2
 go_wp2_with fail
 go_ret
 exact⟨rfl,H7.out.1⟩
end
end Go.Proofs.YthaliljaglldjaaGreat
