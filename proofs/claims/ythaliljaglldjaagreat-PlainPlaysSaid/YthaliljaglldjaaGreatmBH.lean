/- Part of the proof. -/
import Derived.Test.YthaliljaglldjaaGreatmBG
namespace Go.Proofs.YthaliljaglldjaaGreat
set_option maxHeartbeats 16000000
set_option maxRecDepth 20000
open Go.RowKit Go.ChangeMaps Go.MapKept
section
theorem sB (w:World) (sides:Int) (h:Int) (hh:0≤h/\h<sides) (tg:Int) :
 Calls Tryz.prog 81 #[.agg (wr 11 h 0 0 0 0 tg 0 0 false),J sides] w fun e w'=>e=.returned (.bool true)/\Bl w w':=by
 have hh1:¬ h<0:=by omega
 have hh2:¬ h ≥ sides:=by omega
 clear hh;have H5:Hid _:=cV w (wr 11 h 0 0 0 0 tg 0 0 false) (wr 11 h 0 0 0 0 tg 0 0 false)
 go_enter Tryz.func81,Tryz.ntmps81
 go_upto_region 51 with fail
 have H5:Hid (_/\_/\_):=H5.out _ (.inl rfl);revert H5;generalize World.alloc (World.alloc w _) _=w5;intro H5;have aa:=aq H5.out.2.1;have bb:=aq H5.out.2.2
 go_wp2_with fail
 refine(dP w5).mono ?_;rintro e w6 ⟨rfl,hb6⟩;have H6:Hid (Bl w w6/\_/\_):=⟨H5.out.1.trans (hb6.mono H5.out.1.size),ae hb6 H5.out.2.1,ae hb6 H5.out.2.2⟩;clear hb6 H5;clear aa bb;have aa:=aq H6.out.2.1;have bb:=aq H6.out.2.2
 go_wp2_with fail
 refine(dk w6).mono ?_;rintro e w7 ⟨rfl,hb7⟩;have H7:Hid (Bl w w7/\_/\_):=⟨H6.out.1.trans (hb7.mono H6.out.1.size),ae hb7 H6.out.2.1,ae hb7 H6.out.2.2⟩;clear hb7 H6;clear aa bb;have aa:=aq H7.out.2.1;have bb:=aq H7.out.2.2
 go_wp2_with fail
 go_ret
 exact⟨rfl,H7.out.1⟩
end
section
structure RGood (N:WM):Prop where
 ok:ROk N
 last:0≤N.last/\N.last≤1099511627776
 mades:∀ (i:Nat) (x:Int),N.made[i]? = some x->0≤x/\x≤512
abbrev dL (k h:Int) (v:Val) (raw:Value):Th:=⟨k,h,v,raw,[],S_,0,0,0,0,0,false,S_,S_⟩
theorem mb {w:World} {q:Nat} {N:WM} {G F:Nat->Prop} (hR:IsR w q N G) (hN:RGood N) {k h:Int} (hk:k=1\/k=2\/k=3\/k=4\/k=10) (hh:0≤h/\h<N.made.length) (v:Val) (raw:Value) (hS:SlAt w F raw v.l) (hF:∀ b,F b->¬ G b) (hm:ay v=true) (hkn:knownB N v=true)
 (hform:∀ w',Bl w w'->Calls Tryz.prog 81 #[.agg (aF (dL k h v raw)),J N.made.length] w' fun e w''=>e=.returned (.bool true)/\Bl w' w'') :
 Calls Tryz.prog 15 #[P_ q,.agg (aF (dL k h v raw))] w (MakeR w q N G (dL k h v raw) 0):=by
 obtain⟨q0,hq0⟩:=dJ hm;refine lV hR hN.ok.len hN.last hN.mades (dL k h v raw) hS (SlAt.nil _ F _ _) rfl rfl (bA hm) (fun x hx=>by cases hx) (Nat.zero_le _) hF hh (by show 0≤k/\k≤255;omega) (by show k≠13/\k≠14/\k≠15;omega) 0 hform fun w' hb=>?_;refine oF (hR.below hb) hN.ok (dL k h v raw) 0 (by show 0≤k/\k≤255;omega) (by show k≠6/\k≠7/\k≠9/\k≠11/\k≠13/\k≠14/\k≠15/\k≠16;omega) (aN 16 v) (by rw [<- refsV_of hm];have:=bW v;omega) (fun w2 hb2=>di (dL k h v raw) ((hS.on hb).on hb2) rfl rfl (by decide) hq0) fun x hx=>?_;rw [<- refsV_of hm]at hx;unfold knownB at hkn;rw [List.all_eq_true]at hkn;exact hkn x hx
theorem MakeR.start {w w1 w':World} {q:Nat} {N:WM} {G:Nat->Prop} {t:Th} {aE:Int} {e:Ending} (h:MakeR w1 q N G t aE e w') (hb:Bl w w1):MakeR w q N G t aE e w':=by
 rcases h with ⟨h1,h2,h3⟩ | ⟨h1,h2,h3,h4⟩ | ⟨h1,h2,h3,vl,vals,G',h4,h5,h6,h7⟩
 ·exact .inl ⟨h1,h2,hb.trans (h3.mono hb.size)⟩
 ·exact .inr (.inl ⟨h1,h2,h3,hb.trans (h4.mono hb.size)⟩)
 ·exact .inr (.inr ⟨h1,h2,h3,vl,vals,G',h4,Below.keeps hb h5,fun b hG=>(h6 b hG).imp id fun h=>Nat.le_trans hb.size h,h7⟩)
def dA (w:World) (q:Nat) (N:WM) (G:Nat->Prop) (k h:Int) (v:Val) (raw:Value) (e:Ending) (w':World):Prop :=
 (mayE N h v≠0/\e=.returned (.tuple #[J 0,J (mayE N h v)])/\Bl w w')\/(mayE N h v=0/\MakeR w q N G (dL k h v raw) 0 e w')
theorem tA {w w':World} {q:Nat} {N:WM} {G:Nat->Prop} {k h:Int} {v:Val} {raw:Value} {x:Int} (hx:mayE N h v=x) (h0:x≠0) (hb:Bl w w'):dA w q N G k h v raw (.returned (.tuple #[J 0,J x])) w':=.inl ⟨by rw [hx];exact h0,by rw [hx],hb⟩
theorem qf {w:World} {q:Nat} {N:WM} {G F:Nat->Prop} (hR:IsR w q N G) (hN:RGood N) {k h:Int} (hk10:k≠10) (v:Val) (raw:Value) (hS:SlAt w F raw v.l) (hwf:v.wf)
 (hmake:mayE N h v=0->∀ w',Bl w w'->Calls Tryz.prog 15 #[P_ q,.agg (aF (dL k h v raw))] w' (MakeR w' q N G (dL k h v raw) 0)) :
 Calls Tryz.prog 87 #[P_ q,U k,J h,.agg (au v raw)] w (dA w q N G k h v raw):=by
 obtain⟨pa,c,rfl⟩:=hS.form;have HMy:Hid (∀ w',Bl w w'->Calls Tryz.prog 182 #[.agg (au v (.slice pa v.l.length c))] w' fun e w''=>e=.returned (.bool (ay v))/\Bl w' w''):=fun w' hb=>fF (hS.on hb) hwf;have HNm:Hid (ay v=true->∀ w',Bl w w'->Calls Tryz.prog 183 #[P_ q,.agg (au v (.slice pa v.l.length c))] w' fun e w''=>e=.returned (.bool (knownB N v))/\Bl w' w''):=fun hm w' hb=>iV (hR.below hb) hN.ok v _ (hS.on hb) hm;have HMk:Hid (mayE N h v=0->∀ w',Bl w w'->Calls Tryz.prog 15 #[P_ q,.agg (aF (dL k h v (.slice pa v.l.length c)))] w' (MakeR w' q N G (dL k h v (.slice pa v.l.length c)) 0)):=hmake;have HE:Hid (∀ x,mayE N h v=x ↔ (if 0≤h/\h<N.made.length then (if ay v=true then (if knownB N v=true then 0 else 5)else 2)else 2)=x):=fun x=>Iff.rfl
 have HS4:Hid (∃ sM,(∃ p c,sM=.slice p N.made.length c)/\∀ w',Bl w w'->w'.cell? ⟨q,4,none⟩=some sM):=by
  obtain⟨sP,sC,sT,sM,hV⟩:=hR;refine⟨sM,?_,fun w' hb=>by rw [ag (ae hb hV.blk)];rfl⟩;obtain⟨h1,⟨h2,h0⟩ | ⟨g',cap,cur,h2,-⟩⟩:=hV.rm
  ·exact⟨none,0,by rw [h2,h0]⟩
  ·exact⟨_,_,h2⟩
 have hkb:(k==10)=false:=by simpa using hk10
 have H0:Hid (Bl w (w.alloc (.cells (au v (.slice pa v.l.length c)) 27))/\(w.alloc (.cells (au v (.slice pa v.l.length c)) 27)).heap[w.heap.size]? = some (.cells (au v (.slice pa v.l.length c)) 27 (0,0))):=⟨(Below.refl _ w).alloc aH _,ai _ _⟩;obtain⟨sM,⟨pM,cM,rfl⟩,hM⟩:=HS4.out;have HM:Hid (∀ w',Bl w w'->w'.cell? ⟨q,4,none⟩=some (.slice pM N.made.length cM)):=hM;have HZn:Hid (∀ x w',mayE N h v=x->x≠0->Bl w w'->dA w q N G k h v (.slice pa v.l.length c) (.returned (.tuple #[J 0,J x])) w'):=fun x w' hx h0 hb=>tA hx h0 hb;have HZy:Hid (∀ e w1 w',mayE N h v=0->Bl w w1->MakeR w1 q N G (dL k h v (.slice pa v.l.length c)) 0 e w'->dA w q N G k h v (.slice pa v.l.length c) e w'):=fun e w1 w' hx hb hr=>.inr ⟨hx,hr.start hb⟩;clear hR hN hS hwf hmake hM HS4;generalize ay v=mv at HMy HNm HE;generalize knownB N v=kb at HNm HE;obtain⟨vk,vn,vstr,vl,vr⟩:=v;simp only [au,aF,dL]at HMy HNm HMk H0 ⊢
 by_cases h1':h<0
 ·have e2:Hid (mayE N h ⟨vk,vn,vstr,vl,vr⟩=2):=(HE.out 2).2 (if_neg (by omega))
  go_enter Tryz.func87,Tryz.ntmps87
  go_wp2_with fail
  go_returns
  exact HZn.out 2 _ e2.out (by decide) H0.out.1
 by_cases h2':h ≥ (N.made.length:Int)
 ·have e2:Hid (mayE N h ⟨vk,vn,vstr,vl,vr⟩=2):=(HE.out 2).2 (if_neg (by omega));have c4:=HM.out _ H0.out.1
  go_enter Tryz.func87,Tryz.ntmps87
  go_wp2_with fail
  go_returns
  exact HZn.out 2 _ e2.out (by decide) H0.out.1
 have HE2:Hid (∀ x,mayE N h ⟨vk,vn,vstr,vl,vr⟩=x ↔ (if mv=true then (if kb=true then 0 else 5)else 2)=x):=fun x=>by
  rw [HE.out x,if_pos ⟨by omega,by omega⟩]
 clear HE;have c4:=HM.out _ H0.out.1
 go_enter Tryz.func87,Tryz.ntmps87
 go_wp2_with fail
 refine Calls.mono (HMy.out _ H0.out.1) ?_;rintro e w1 ⟨rfl,hb1⟩;have b1:=ae hb1 H0.out.2;obtain⟨⟨a0,a1,a2,a3,a4⟩,-⟩:=ax b1;have HB1:Hid (Bl w w1/\w1.heap[w.heap.size]? = _):=⟨H0.out.1.trans (hb1.mono H0.out.1.size),b1⟩;clear hb1 b1 HMy c4 H0
 cases mv with
 | false =>
   have e2:Hid (mayE N h ⟨vk,vn,vstr,vl,vr⟩=2):=(HE2.out 2).2 rfl
   go_wp2_with fail
   go_returns
   exact HZn.out 2 _ e2.out (by decide) HB1.out.1
 | true =>
   go_wp2_with fail
   refine Calls.mono (HNm.out (by first | rfl | trivial) _ HB1.out.1) ?_;rintro e w2 ⟨rfl,hb2⟩;have b2:=ae hb2 HB1.out.2;have HB2:Hid (Bl w w2):=HB1.out.1.trans (hb2.mono HB1.out.1.size);clear hb2 a0 a1 a2 a3 a4 HNm HB1;obtain⟨⟨a0,a1,a2,a3,a4⟩,-⟩:=ax b2;clear b2
   cases kb with
   | false =>
     have e2:Hid (mayE N h ⟨vk,vn,vstr,vl,vr⟩=5):=(HE2.out 5).2 rfl
     go_wp2_with fail
     go_returns
     exact HZn.out 5 _ e2.out (by decide) HB2.out
   | true =>
     have e2:Hid (mayE N h ⟨vk,vn,vstr,vl,vr⟩=0):=(HE2.out 0).2 rfl;clear HE2
     go_wp2_with fail
     refine Calls.mono (HMk.out e2.out _ HB2.out) ?_;rintro e w3 hmade;have HR:Hid _:=HZy.out _ _ _ e2.out HB2.out hmade
     rcases hmade with ⟨h0,-⟩ | ⟨-,-,rfl,-⟩ | ⟨-,-,rfl,-⟩
     ·exact absurd rfl h0
     ·clear HZy HZn HMk a0 a1 a2 a3 a4
      go_wp2_with fail
      go_returns
      exact HR.out
     ·clear HZy HZn HMk a0 a1 a2 a3 a4
      go_wp2_with fail
      go_returns
      exact HR.out
end
section
theorem IsR.keeps {w w':World} {q:Nat} {M:WM} {G S:Nat->Prop} (h:IsR w q M G) (hk:Keeps S w w') (hS:∀ b,G b->¬ S b):IsR w' q M G:=by
 obtain⟨sP,sC,sT,sM,h⟩:=h;have hG:=h.own
 exact⟨sP,sC,sT,sM,{
  blk:=hk.none h.blk (hS _ (hG q (.inl rfl)))
  rp:=ownsRow_keeps h.rp hk fun b hb=>hS b (hG b (.inr (.inl hb)))
  rc:=ownsRow_keeps h.rc hk fun b hb=>hS b (hG b (.inr (.inr (.inl hb))))
  rt:=ownsRow_keeps h.rt hk fun b hb=>hS b (hG b (.inr (.inr (.inr (.inl hb)))))
  rm:=ownsRow_keeps h.rm hk fun b hb=>hS b (hG b (.inr (.inr (.inr (.inr hb)))))
  own:=h.own
  lt:=fun b hb=>Nat.lt_of_lt_of_le (h.lt b hb) hk.size
  deep:=fun r t ht=>((h.deep r t ht).keeps hk fun b hb _=>hS b hb.1).mono fun b hb=>hb.1
  apq:=h.apq
  app:=h.app
  apc:=h.apc
  apt:=h.apt }⟩
theorem IsR.lt {w:World} {q:Nat} {M:WM} {G:Nat->Prop} (h:IsR w q M G):∀ b,G b->b<w.heap.size:=by
 obtain⟨sP,sC,sT,sM,h⟩:=h;exact h.lt
structure Both (w:World) (p q:Nat) (M N:WM) (F G:Nat->Prop):Prop where
 W:IsW w p M F
 R:IsR w q N G
 ap:∀ b,F b->¬ G b
 al:Alike M N
 one:∀ x ∈ N.things,(aF x.2).all (·.oneCell')=true
 may:vU M
 wfs:∀ x ∈ M.things,x.2.v.wf/\(aJ x.2.vs).wf
 cutM:∀ x ∈ M.cuts,x=false
 cutN:∀ b ∈ N.cuts.drop 1,b=false
 cutL:(N.cuts.drop 1).length=N.parents.length
 kp:∀ r t,M.at r=some t->t.kind=11->t.tgt≤M.last
section
variable {w w':World} {p q:Nat} {M N:WM} {F G:Nat->Prop}
theorem Both.keeps {S:Nat->Prop} (h:Both w p q M N F G) (hk:Keeps S w w') (hF:∀ b,F b->¬ S b) (hG:∀ b,G b->¬ S b):Both w' p q M N F G :=
 ⟨h.W.keeps hk hF,h.R.keeps hk hG,h.ap,h.al,h.one,h.may,h.wfs,h.cutM,h.cutN,h.cutL,h.kp⟩
theorem Both.below (h:Both w p q M N F G) (hb:Bl w w'):Both w' p q M N F G :=
 h.keeps (S:=fun _=>False) (Keeps.of_below hb) (fun _ _ h=>h) (fun _ _ h=>h)
theorem Both.lenM (h:Both w p q M N F G):(M.things.length:Int)≤M.last:=h.W.ok.len_le
theorem Both.good (h:Both w p q M N F G) (hl:M.last≤100000):RGood N where
 ok:=⟨by have:=h.lenM;have:=h.al.things.1;omega,fun x hx=>by
  obtain⟨y,hy,e1,vl,vals,e2⟩:=h.al.things.mem' hx;have hk:=(h.W.ok.wf y.1 y.2 (h.W.ok.at_of_mem hy)).kind
  exact⟨h.one x hx,by rw [e2];exact hk.1,by rw [e2];show y.2.kind≤255;omega⟩⟩
 last:=by rw [h.al.last];exact h.W.ok.last
 mades:=fun i x hx=>h.W.ok.mades i x (by rw [<- h.al.made];exact hx)
theorem Both.rmay (h:Both w p q M N F G):yA N:=fun x hx=>by
 obtain⟨y,hy,-,vl,vals,e2⟩:=h.al.things.mem' hx;obtain⟨m1,m2,m3⟩:=h.may y.1 y.2 (h.W.ok.at_of_mem hy);rw [e2];exact⟨bA m1,fun v hv=>bA (m2 v hv),m3⟩
theorem Both.add {F' G':Nat->Prop} {t t':Th} (h:Both w p q M N F G) (hW:IsW w' p (M.add t) F') (hR:IsR w' q (N.add t') G') (hap:∀ b,F' b->¬ G' b) (ht:ThLike t t') (hone:(aF t').all (·.oneCell')=true)
 (hmay:ay t.v=true/\(∀ v ∈ t.vs,ay v=true)/\t.vs.length≤1000) (hwf:t.v.wf/\(aJ t.vs).wf) (hkp:t.kind=11->t.tgt≤M.last+1):Both w' p q (M.add t) (N.add t') F' G' where
 W:=hW
 R:=hR
 ap:=hap
 al:=h.al.add ht
 one:=fun x hx=>by
  rcases List.mem_append.1 (show x ∈ N.things ++ [(N.last+1,t')]from hx)with hx | hx
  ·exact h.one x hx
  ·rw [List.mem_singleton.1 hx];exact hone
 may:=fun r u hu=>by
  rw [WM.add_at h.W.ok]at hu;split at hu
  ·cases hu
   exact hmay
  ·exact h.may r u hu
 wfs:=fun x hx=>by
  rcases List.mem_append.1 (show x ∈ M.things ++ [(M.last+1,t)]from hx)with hx | hx
  ·exact h.wfs x hx
  ·rw [List.mem_singleton.1 hx];exact hwf
 cutM:=h.cutM
 cutN:=h.cutN
 cutL:=h.cutL
 kp:=fun r u hu hk=>by
  rw [WM.add_at h.W.ok]at hu;show u.tgt≤M.last+1;split at hu
  ·cases hu
   exact hkp hk
  ·have:=h.kp r u hu hk;omega
end
end
section
def uD (N:WM) (y:Option (Int × Th)) (N':WM):Prop :=
 match y with
 | none=>N'=N
 | some (r,t)=>∃ vl vals,N'=N.set r { t with vl:=vl,vals:=vals }/\(t.v.l = []->vl=.slice none 0 0)/\(t.vs = []->vals=.slice none 0 0)
def Do8Q (w:World) (q:Nat) (N:WM) (G:Nat->Prop) (x:Val) (n:Int) (y:Option (Int × Th)) (e:Ending) (w':World):Prop :=
 ∃ raw' N' G',e=.returned (.tuple #[.agg (au x raw'),J n])/\SlAt w' (fun b=>w.heap.size≤b) raw' x.l/\IsR w' q N' G'/\Keeps G w w'/\(∀ b,G' b->G b\/w.heap.size≤b)/\uD N y N'
def bK (r:Int) (t:Th) (v:Val):Val × Int × Option (Int × Th) :=
 if v.kind≠1\/v.n<0 then (nilV,2,none)else if (t.vs.length:Int)<v.n then (nilV,81,none)else (aJ (t.vs.take v.n.toNat),0,some (r,{ t with vs:=t.vs.drop v.n.toNat }))
theorem Do8Q.nil {w w':World} {q:Nat} {N:WM} {G:Nat->Prop} {n:Int} (hR:IsR w q N G) (hb:Bl w w'):Do8Q w q N G nilV n none (.returned (.tuple #[.agg O,J n])) w' :=
 ⟨S_,N,G,rfl,SlAt.nil _ _ _ _,hR.below hb,Keeps.of_below hb,fun _ h=>.inl h,rfl⟩
theorem lA:bX 43 27 10 bp:=fun _ _ _ _ _=>rfl
attribute [local go_sem ↓] aW lA in
theorem td {w:World} {q:Nat} {N:WM} {G F:Nat->Prop} (hR:IsR w q N G) (hN:ROk N) (hkeys:N.things.Pairwise fun a b=>a.1<b.1) {r h:Int} {vs:List Val} {vals0 vals:Value} (hat:N.at r=some (qT 4 h vs vals0)) (hh:0≤h/\h<N.made.length)
 (hS:SlAt w F vals vs) (hm:ay (aJ vs)=true) (hms:∀ x ∈ vs,ay x=true) (hwf:∀ k,(aJ (vs.drop k)).wf) (hkn:knownB N (aJ vs)=true) (v:Val) (raw:Value) :
 Calls Tryz.prog 189 #[P_ q,J r,.agg (aF (qT 4 h vs vals)),.agg (au v raw)] w (Do8Q w q N G (bK r (qT 4 h vs vals) v).1 (bK r (qT 4 h vs vals) v).2.1 (bK r (qT 4 h vs vals) v).2.2):=by
 obtain⟨ps,cs,hvals⟩:=hS.form;subst hvals;obtain⟨hncs,hpn⟩:=hS.room;have hl511:=dg hm;obtain⟨ak,an,astr,al,ar⟩:=v;have e0:=aG ((w.alloc (.cells (aF (qT 4 h vs (.slice ps vs.length cs))) 46)).alloc (.cells (V_ ak an astr raw ar) 27)) (.cells zV 27) (aL w (.cells (aF (qT 4 h vs (.slice ps vs.length cs))) 46) (.cells (V_ ak an astr raw ar) 27));have e1:=aG ((w.alloc (.cells (aF (qT 4 h vs (.slice ps vs.length cs))) 46)).alloc (.cells (V_ ak an astr raw ar) 27)) (.cells zV 27) (aK w (.cells (aF (qT 4 h vs (.slice ps vs.length cs))) 46) (.cells (V_ ak an astr raw ar) 27));have e2:=ai ((w.alloc (.cells (aF (qT 4 h vs (.slice ps vs.length cs))) 46)).alloc (.cells (V_ ak an astr raw ar) 27)) (.cells zV 27);rw [World.size_alloc,World.size_alloc]at e2;have hb0:Bl w (((w.alloc (.cells (aF (qT 4 h vs (.slice ps vs.length cs))) 46)).alloc (.cells (V_ ak an astr raw ar) 27)).alloc (.cells zV 27)):=(((Below.refl _ w).alloc aH _).alloc (by simp) _).alloc (by simp;omega) _;have H0:Hid (∀ w1,w1=((w.alloc (.cells (aF (qT 4 h vs (.slice ps vs.length cs))) 46)).alloc (.cells (V_ ak an astr raw ar) 27)).alloc (.cells zV 27)->Bl w w1/\w1.heap[w.heap.size]? = some (.cells (aF (qT 4 h vs (.slice ps vs.length cs))) 46 (0,0))/\w1.heap[w.heap.size+1]? = some (.cells (V_ ak an astr raw ar) 27 (0,0))/\w1.heap[w.heap.size+1+1]? = some (.cells zV 27 (0,0))):=fun w1 e=>by subst e;exact⟨hb0,e0,e1,e2⟩
 have HS:Hid (SlAt w F (.slice ps vs.length cs) vs):=hS;have HR:Hid (IsR w q N G):=hR
 have HL:Hid (∀ (w':World) (k:Nat) (F':Nat->Prop) (vals':Value),Keeps (fun b=>b=w.heap.size\/b=w.heap.size+1+1) w w'->IsR w' q N G->SlAt w' F' vals' (vs.drop k)->(vs.drop k = []->jC vals')->Calls Tryz.prog 108 #[P_ q,J r,.agg (aF (qT 4 h (vs.drop k) vals'))] w' (gG w' q N G r (qT 4 h (vs.drop k) vals'))):=fun w' k F' vals' _ hR' hS' hn' =>
  sW hR' hN hkeys (.inr rfl) hat hh (vs.drop k) vals' hS' hn' (da hm k) (fun x hx=>hms x (List.mem_of_mem_drop hx)) (hwf k) (by
   have h1:=dl hm;have h2:=dl (da hm k);unfold knownB at hkn ⊢;rw [h1]at hkn;rw [h2];rw [List.all_eq_true]at hkn ⊢;intro x hx;obtain⟨y,hy,hxy⟩:=List.mem_flatMap.1 hx
   exact hkn x (List.mem_flatMap.2 ⟨y,List.mem_of_mem_drop hy,hxy⟩))
 have HO:Hid (∀ (w':World) (k:Nat),k≤vs.length->SlAt w' F (.slice ps vs.length cs) vs->Calls Tryz.prog 246 #[.slice ps k cs] w' (dE w' (aJ (vs.take k)))):=fun w' k hk hS' =>
  nH (vs.take k) (.slice ps k cs) (hS'.front hk cs ⟨by omega,hpn⟩) ⟨by show (vs.take k).length≤512;rw [List.length_take];omega,fun x hx=>bA (hms x (List.mem_of_mem_take hx))⟩
 have HGlt:Hid (∀ b,G b->b<w.heap.size):=hR.lt;clear hS hR hN hkeys hat hh hm hms hwf hkn e0 e1 e2 hb0;simp only [au,aF,zV]at H0 ⊢
 go_enter Tryz.func189,Tryz.ntmps189
 go_upto_region 1 with fail
 revert H0;generalize World.alloc _ _=w1;intro H0;have H0:Hid (_/\_):=H0.out w1 rfl;obtain⟨⟨c0,c1,c2,c3,c4⟩,-⟩:=ax H0.out.2.2.1;have k7:w1.cell? ⟨w.heap.size,7,none⟩=some (.slice ps vs.length cs):=by rw [ag H0.out.2.1];rfl
 have hst0:=az (c':=zV) H0.out.2.2.2 rfl rfl (by simp [go_sem,zV]);have HZ0:Hid _:=ah (c':=zV) H0.out.2.2.2;have HB0:Hid (Bl w (w1.setRow (w.heap.size+1+1) zV)):=Below.setRow H0.out.1 (by omega) _;simp only [zV]at hst0 HZ0 HB0
 by_cases hbad:ak≠1\/an<0
 ·have hres:bK r (qT 4 h vs (.slice ps vs.length cs)) ⟨ak,an,astr,al,ar⟩=(nilV,2,none):=if_pos hbad;have HF:Hid _:=Do8Q.nil (n:=2) HR.out HB0.out;clear H0 k7 HL HO HS HR HB0
  by_cases hak:ak=1
  ·have hb1:(ak != 1)=false:=by simpa using hak
   have han:an<0:=hbad.resolve_left fun h=>h hak;clear hbad hak
   go_wp2_with fail
   obtain⟨⟨r0,r1,r2,r3,r4⟩,-⟩:=ax HZ0.out;exact bodyPost_ret (by simp [results,Tryz.results189,go_sem,r0,r1,r2,r3,r4];rfl) rfl (by first | exact HF.out | (rw [hres];exact HF.out))
  ·have hb1:(ak != 1)=true:=by simpa using hak
   clear hbad hak
   go_wp2_with fail
   obtain⟨⟨r0,r1,r2,r3,r4⟩,-⟩:=ax HZ0.out;exact bodyPost_ret (by simp [results,Tryz.results189,go_sem,r0,r1,r2,r3,r4];rfl) rfl (by first | exact HF.out | (rw [hres];exact HF.out))
 obtain⟨rfl,han⟩:ak=1/\0≤an:=by
  refine⟨?_,?_⟩
  ·exact Decidable.byContradiction fun h=>hbad (.inl h)
  ·exact Int.not_lt.1 fun h=>hbad (.inr h)
 clear hbad;have han':¬ an<0:=by omega
 by_cases hsh:(vs.length:Int)<an
 ·have hres:bK r (qT 4 h vs (.slice ps vs.length cs)) ⟨1,an,astr,al,ar⟩=(nilV,81,none):=by
   unfold bK;rw [if_neg (fun h=>h.elim (fun h=>h rfl) (fun h=>han' h)),if_pos hsh]
  have HF:Hid _:=Do8Q.nil (n:=81) HR.out HB0.out;have hgt:an > (vs.length:Int):=hsh;clear H0 HL HO HS HR HB0
  go_wp2_with fail
  obtain⟨⟨r0,r1,r2,r3,r4⟩,-⟩:=ax HZ0.out;exact bodyPost_ret (by simp [results,Tryz.results189,go_sem,r0,r1,r2,r3,r4];rfl) rfl (by first | exact HF.out | (rw [hres];exact HF.out))
 obtain⟨k,rfl⟩:=Int.eq_ofNat_of_zero_le han;have hk:k≤vs.length:=by omega
 have hres:bK r (qT 4 h vs (.slice ps vs.length cs)) ⟨1,k,astr,al,ar⟩=(aJ (vs.take k),0,some (r,qT 4 h (vs.drop k) (.slice ps vs.length cs))):=by
  unfold bK;rw [if_neg (fun h=>h.elim (fun h=>h rfl) (fun h=>han' h)),if_neg hsh,Int.toNat_natCast]
 clear hst0 HZ0 HB0;have Hres:Hid (_=_):=hres;clear hres;have hgt:¬ (k:Int) > (vs.length:Int):=hsh;obtain⟨pd,nd,cd,hd⟩:∃ pd nd cd,(Value.slice (if cs=k then ps else ps.map (·.add (k * 5))) (vs.length - k) (cs - k))=.slice pd nd cd:=⟨_,_,_,rfl⟩
 have hSd:SlAt w F (.slice pd nd cd) (vs.drop k):=by
  have:=HS.out.back hk hncs
  rwa [hd]at this
 have hsome:jC (.slice pd nd cd):=by
  have hr:=hSd.room
  cases pd with
  | none =>
    have:=hr.2 rfl;subst this;obtain rfl:nd=0:=by omega
    exact .inl rfl
  | some a=>exact .inr ⟨_,_,_,rfl⟩
 have hslf:=fun w:World=>iq w ps vs.length cs k (by omega);have hslb:=fun w:World=>jA w ps vs.length cs k hk;rw [hd]at hslb;have HSd:Hid _:=And.intro hSd hsome;have HLs:Hid _:=HO.out w1 k hk (HS.out.on H0.out.1);have Htk:Hid ((vs.take k).length=k):=by show _=_;rw [List.length_take];omega
 clear hd hSd hsome HO;generalize hn:vs.length=n at *
 go_wp2_with fail
 refine Calls.mono HLs.out ?_;rintro e w5 ⟨raw',rfl,hb5,hs5,-⟩;obtain⟨p5,c5,hraw⟩:=hs5.form;rw [show (aJ (vs.take k)).l.length=k from Htk.out]at hraw;subst hraw;have hst6:=az (c':=#[U 3,J 0,T_,.slice p5 k c5,J 0]) (ai w5 (.cells zV 27)) rfl rfl (by simp [go_sem]);obtain⟨w6,hw6⟩:∃ w6,w6=(w5.alloc (.cells zV 27)).setRow w5.heap.size (V_ 3 0 ⟨#[]⟩ (.slice p5 k c5) 0):=⟨_,rfl⟩;rw [<- hw6]at hst6
 have H6:Hid (Bl w5 w6/\w6.heap[w5.heap.size]? = some (.cells (V_ 3 0 ⟨#[]⟩ (.slice p5 k c5) 0) 27 (0,0))):=by
  rw [hw6];exact⟨Below.setRow (br.alloc aH _) aH _,ah (ai _ _)⟩
 have hb16:Bl w1 w6:=hb5.trans (H6.out.1.mono hb5.size);have g0:=ae hb16 H0.out.2.1;have g2:=ae hb16 H0.out.2.2.2;have g1:=ae hb16 H0.out.2.2.1;have HS5:Hid (SlAt w5 (fun b=>w1.heap.size≤b) (.slice p5 k c5) (vs.take k)):=hs5;have HB:Hid (Bl w w6/\w1.heap.size≤w5.heap.size/\w.heap.size+1+1<w1.heap.size/\w6.heap[w.heap.size]? = _/\w6.heap[w.heap.size+1+1]? = _):=⟨H0.out.1.trans (hb16.mono H0.out.1.size),hb5.size,aw H0.out.2.2.2,g0,g2⟩;have e7:w6.cell? ⟨w.heap.size,7,none⟩=some (.slice ps n cs):=by rw [ag g0];rfl
 have f7:=av g0 7;obtain⟨⟨-,e1,-,-,-⟩,-⟩:=ax g1;have hg7:=aA g0 7 (.slice pd nd cd);have hk7:Keeps (fun b=>b=w.heap.size) w6 (w6.setCell ⟨w.heap.size,7,none⟩ (.slice pd nd cd)):=Keeps.setCell (S:=fun b=>b=w.heap.size) w6 ⟨w.heap.size,7,none⟩ _ rfl;obtain⟨w7,hw7⟩:∃ w7,w7=w6.setCell ⟨w.heap.size,7,none⟩ (.slice pd nd cd):=⟨_,rfl⟩;have H7:Hid (Keeps (fun b=>b=w.heap.size) w6 w7/\w7.heap[w.heap.size]? = some (.cells (aF (qT 4 h (vs.drop k) (.slice pd nd cd))) 46 (0,0))):=by rw [hw7];exact⟨hk7,hg7⟩
 clear hb5 hs5 hb16 hw6 g0 g1 g2 hg7 hk7 HLs;simp only [au,aJ,zV]at hst6 ⊢
 go_upto_region 7 with fail
 rw [<- hw7];clear hw7 e7 f7 e1 k7 c0 c1 c2 c3 c4 hst6 hslf hslb hgt;have hk1:Keeps (fun b=>b=w.heap.size\/b=w.heap.size+1+1) w w7:=(Keeps.of_below (S:=fun b=>b=w.heap.size\/b=w.heap.size+1+1) HB.out.1).trans H7.out.1 (fun _ _ h=>h) (fun _ _ h=>.inl h);have hb17:Bl w w7:=HB.out.1.trans (H7.out.1.below HB.out.1.size fun b hb=>by omega);have hR7:IsR w7 q N G:=HR.out.keeps hk1 fun b hG h=>by have:=HGlt.out b hG;rcases h with h | h <;> omega
 have HLy:Hid _:=HL.out w7 k F (.slice pd nd cd) hk1 hR7 ((HSd.out.1.lt.keeps hk1 fun b h1 h2=>by have:=h2.2;rcases h1 with h1 | h1 <;> omega).mono fun b h=>h.1) (fun _=>HSd.out.2)
 have H17:Hid _:=hb17;have hldW:=aD H7.out.2 rfl;clear hk1 hb17 hR7;simp only [aF]at hldW HLy
 go_wp2_with fail
 refine Calls.mono HLy.out ?_;rintro e w8 ⟨rfl,vl',vals',G',hR8,hk8,hG8,hn1,hn2⟩;have hGlt:=HGlt.out
 have g10:w8.heap[w5.heap.size]? = some (.cells (V_ 3 0 ⟨#[]⟩ (.slice p5 k c5) 0) 27 (0,0)) :=
  hk8.none (H7.out.1.none H6.out.2 (by have:=HB.out.2.1;have:=HB.out.2.2.1;omega)) fun h=>by have:=hGlt _ h;have:=HB.out.2.1;have:=HB.out.2.2.1;omega
 have g8:w8.heap[w.heap.size+1+1]? = some (.cells zV 27 (0,0)):=hk8.none (H7.out.1.none HB.out.2.2.2.2 (by omega)) fun h=>by have:=hGlt _ h;omega
 have hld10:=aI g10 rfl;have hst8:=az (c':=#[U 3,J 0,T_,.slice p5 k c5,J 0]) g8 rfl rfl (by simp [go_sem]);have HZ8:Hid _:=ah (c':=#[U 3,J 0,T_,.slice p5 k c5,J 0]) g8
 have HF:Hid (Do8Q w q N G (aJ (vs.take k)) 0 (some (r,qT 4 h (vs.drop k) (.slice ps n cs))) (.returned (.tuple #[.agg (V_ 3 0 ⟨#[]⟩ (.slice p5 k c5) 0),J 0])) (w8.setRow (w.heap.size+1+1) (V_ 3 0 ⟨#[]⟩ (.slice p5 k c5) 0))):=by
  have hks:=aQ w8 (w.heap.size+1+1) (V_ 3 0 ⟨#[]⟩ (.slice p5 k c5) 0);have hs8:SlAt w8 (fun b=>w1.heap.size≤b) (.slice p5 k c5) (vs.take k):=((HS5.out.on H6.out.1).keeps H7.out.1 (fun b h1 h2=>by have:=HB.out.2.2.1;omega)).keeps hk8 (fun b h1 h2=>by have:=hGlt b h1;have:=HB.out.2.2.1;omega);refine⟨_,_,G',rfl,(hs8.keeps hks (fun b h1 h2=>by have:=HB.out.2.2.1;omega)).mono (fun b h=>by have:=HB.out.2.2.1;have h':w1.heap.size≤b:=h;omega),hR8.keeps hks (fun b h1 h2=>?_),?_,fun b hb=>?_,vl',vals',rfl,fun _=>hn1 rfl,hn2⟩
  ·rcases hG8 b h1 with h | h
   ·have:=hGlt b h;omega
   ·have:=H7.out.1.size;have:=HB.out.1.size;have:=HB.out.2.1;have:=HB.out.2.2.1;have:=H6.out.1.size;omega
  ·exact((Keeps.of_below (S:=G) H17.out).trans hk8 (fun _ _ h=>h) (fun _ _ h=>h)).trans hks (fun _ _ h=>h) (fun b hb h=>by omega)
  ·exact(hG8 b hb).imp id fun h=>Nat.le_trans H17.out.size h
 clear hR8 hk8 hG8 hn1 hn2 g10 g8 H17 HLy hldW HS5 HB HL HS HR HSd
 go_wp2_with fail
 obtain⟨⟨r0,r1,r2,r3,r4⟩,-⟩:=ax HZ8.out;exact bodyPost_ret (by simp [results,Tryz.results189,go_sem,r0,r1,r2,r3,r4];rfl) rfl (by first | exact HF.out | (rw [Hres.out];exact HF.out))
end
section
def Give8Q (w:World) (q:Nat) (N:WM) (G:Nat->Prop) (c:Int) (y:Option (Int × Th)) (e:Ending) (w':World):Prop :=
 ∃ N' G',e=.returned (J c)/\IsR w' q N' G'/\Keeps G w w'/\(∀ b,G' b->G b\/w.heap.size≤b)/\uD N y N'
theorem Give8Q.no {w w':World} {q:Nat} {N:WM} {G:Nat->Prop} {c:Int} (hR:IsR w q N G) (hb:Bl w w'):Give8Q w q N G c none (.returned (J c)) w' :=
 ⟨N,G,rfl,hR.below hb,Keeps.of_below hb,fun _ h=>.inl h,rfl⟩
theorem Give8Q.laid {w w1 w':World} {q:Nat} {N:WM} {G:Nat->Prop} {r:Int} {t t0:Th} {e:Ending} (hb:Bl w w1) (hL:gG w1 q N G r t e w') (ht:∃ vl vals,t0 = { t with vl:=vl,vals:=vals }):Give8Q w q N G 0 (some (r,t0)) (.returned (J 0)) w':=by
 obtain⟨-,vl',vals',G',hR',hk,hG',h1,h2⟩:=hL;obtain⟨vl,vals,rfl⟩:=ht;exact⟨_,G',rfl,hR',(Keeps.of_below (S:=G) hb).trans hk (fun _ _ h=>h) (fun _ _ h=>h),fun b hb'=>(hG' b hb').imp id fun h=>Nat.le_trans hb.size h,vl',vals',rfl,h1,h2⟩
def cY (r:Int) (t:Th) (v:Val):Int × Option (Int × Th) :=
 if v.kind≠1\/v.n<0 then (2,none)else if 9007199254740992 - t.n<v.n then (8,none)else (0,some (r,{ t with n:=t.n+v.n }))
theorem oN {w:World} {q:Nat} {N:WM} {G:Nat->Prop} (hR:IsR w q N G) (hN:ROk N) (hkeys:N.things.Pairwise fun a b=>a.1<b.1) {r h n:Int} (hat:N.at r=some (lt 3 h 0 0 n 0 0 0 0 false)) (hh:0≤h/\h<N.made.length) (hn:0≤n/\n≤9007199254740992) (v:Val) (raw:Value) :
 Calls Tryz.prog 190 #[P_ q,J r,.agg (aF (lt 3 h 0 0 n 0 0 0 0 false)),.agg (au v raw)] w (Give8Q w q N G (cY r (lt 3 h 0 0 n 0 0 0 0 false) v).1 (cY r (lt 3 h 0 0 n 0 0 0 0 false) v).2):=by
 obtain⟨ak,an,astr,al,ar⟩:=v;have hb0:Bl w ((w.alloc (.cells (aF (lt 3 h 0 0 n 0 0 0 0 false)) 46)).alloc (.cells (V_ ak an astr raw ar) 27)):=((Below.refl _ w).alloc aH _).alloc (by simp) _;have e0:=aL w (.cells (aF (lt 3 h 0 0 n 0 0 0 0 false)) 46) (.cells (V_ ak an astr raw ar) 27);have e1:=aK w (.cells (aF (lt 3 h 0 0 n 0 0 0 0 false)) 46) (.cells (V_ ak an astr raw ar) 27);have H0:Hid (∀ w1,w1=((w.alloc (.cells (aF (lt 3 h 0 0 n 0 0 0 0 false)) 46)).alloc (.cells (V_ ak an astr raw ar) 27))->Bl w w1/\w1.heap[w.heap.size]? = some (.cells (aF (lt 3 h 0 0 n 0 0 0 0 false)) 46 (0,0))/\w1.heap[w.heap.size+1]? = some (.cells (V_ ak an astr raw ar) 27 (0,0))):=fun w1 e=>by subst e;exact⟨hb0,e0,e1⟩
 have HR:Hid (IsR w q N G):=hR
 have HL:Hid (∀ (w':World) (n':Int),Bl w w'->0≤n'/\n'≤9007199254740992->Calls Tryz.prog 108 #[P_ q,J r,.agg (aF (lt 3 h 0 0 n' 0 0 0 0 false))] w' (gG w' q N G r (lt 3 h 0 0 n' 0 0 0 0 false))):=fun w' n' hb hn' =>
  pk (hR.below hb) hN hkeys hat hh n' hn'
 clear hR hN hkeys hat hh hb0 e0 e1;simp only [au,bS]at H0 HL ⊢
 go_enter Tryz.func190,Tryz.ntmps190
 go_upto_region 1 with fail
 revert H0;generalize World.alloc _ _=w1;intro H0;have H0:Hid (_/\_):=H0.out w1 rfl;obtain⟨⟨c0,c1,c2,c3,c4⟩,-⟩:=ax H0.out.2.2;have k0:w1.cell? ⟨w.heap.size,0,none⟩=some (.int .u8 3):=by rw [ag H0.out.2.1];rfl
 have k8:w1.cell? ⟨w.heap.size,8,none⟩=some (.int .i64 n):=by rw [ag H0.out.2.1];rfl
 have f8:=av H0.out.2.1 8
 by_cases hbad:ak≠1\/an<0
 ·have hres:cY r (lt 3 h 0 0 n 0 0 0 0 false) ⟨ak,an,astr,al,ar⟩=(2,none):=if_pos hbad;have HF:Hid (Give8Q w q N G 2 none (.returned (J 2)) w1):=Give8Q.no HR.out H0.out.1;clear H0 HL HR
  by_cases hak:ak=1
  ·have hb1:(ak != 1)=false:=by simpa using hak
   have han:an<0:=hbad.resolve_left fun h=>h hak;clear hbad hak
   go_wp2_with fail
   go_ret
   first | exact HF.out | (rw [hres];exact HF.out)
  ·have hb1:(ak != 1)=true:=by simpa using hak
   clear hbad hak
   go_wp2_with fail
   go_ret
   first | exact HF.out | (rw [hres];exact HF.out)
 obtain⟨rfl,han⟩:ak=1/\0≤an:=by
  refine⟨?_,?_⟩
  ·exact Decidable.byContradiction fun h=>hbad (.inl h)
  ·exact Int.not_lt.1 fun h=>hbad (.inr h)
 clear hbad;have han':¬ an<0:=by omega
 have hw1:wrap64 (9007199254740992 - n)=9007199254740992 - n:=by unfold wrap64;omega
 by_cases hbig:9007199254740992 - n<an
 ·have hres:cY r (lt 3 h 0 0 n 0 0 0 0 false) ⟨1,an,astr,al,ar⟩=(8,none):=by
   unfold cY;rw [if_neg (fun h=>h.elim (fun h=>h rfl) (fun h=>han' h)),if_pos hbig]
  have HF:Hid (Give8Q w q N G 8 none (.returned (J 8)) w1):=Give8Q.no HR.out H0.out.1;have hgt:an > 9007199254740992 - n:=hbig;clear H0 HL HR
  go_wp2_with fail
  go_ret
  first | exact HF.out | (rw [hres];exact HF.out)
 have hres:cY r (lt 3 h 0 0 n 0 0 0 0 false) ⟨1,an,astr,al,ar⟩=(0,some (r,lt 3 h 0 0 (n+an) 0 0 0 0 false)):=by
  unfold cY;rw [if_neg (fun h=>h.elim (fun h=>h rfl) (fun h=>han' h)),if_neg hbig]
 have hgt:¬ an > 9007199254740992 - n:=hbig;have hw2:wrap64 (n+an)=n+an:=by unfold wrap64;omega
 have hg7:=aA H0.out.2.1 8 (J (n+an));have hk7:Keeps (fun b=>b=w.heap.size) w1 (w1.setCell ⟨w.heap.size,8,none⟩ (J (n+an))):=Keeps.setCell (S:=fun b=>b=w.heap.size) w1 ⟨w.heap.size,8,none⟩ _ rfl;obtain⟨w7,hw7⟩:∃ w7,w7=w1.setCell ⟨w.heap.size,8,none⟩ (J (n+an)):=⟨_,rfl⟩;have H7:Hid (Bl w w7/\w7.heap[w.heap.size]? = some (.cells (aF (lt 3 h 0 0 (n+an) 0 0 0 0 false)) 46 (0,0))):=by rw [hw7];exact⟨H0.out.1.trans (hk7.below H0.out.1.size fun b hb=>by omega),hg7⟩
 have HLy:Hid _:=HL.out w7 (n+an) H7.out.1 (by omega);clear hg7 hk7 hbig
 go_upto_region 8 with fail
 rw [<- hw7];clear hw7 k0 k8 f8 c0 c1 c2 c3 c4 hgt hw1 hw2 H0 HL;have hldW:=aD H7.out.2 rfl;simp only [bS]at hldW
 go_wp2_with fail
 refine Calls.mono HLy.out ?_;rintro e w8 hL8;obtain rfl:=hL8.1;have HF:Hid (Give8Q w q N G 0 (some (r,lt 3 h 0 0 (n+an) 0 0 0 0 false)) (.returned (J 0)) w8):=Give8Q.laid (t0:=lt 3 h 0 0 (n+an) 0 0 0 0 false) H7.out.1 hL8 ⟨_,_,rfl⟩;clear hL8 H7 HLy hldW HR
 go_wp2_with fail
 go_ret
 first | exact HF.out | (rw [hres];exact HF.out)
end
end Go.Proofs.YthaliljaglldjaaGreat
