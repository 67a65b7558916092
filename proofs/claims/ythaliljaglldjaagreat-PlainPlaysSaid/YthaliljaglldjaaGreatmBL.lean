/- Part of the proof. -/
import Derived.Test.YthaliljaglldjaaGreatmBK
namespace Go.Proofs.YthaliljaglldjaaGreat
set_option maxHeartbeats 16000000
set_option maxRecDepth 20000
open Go.RowKit Go.ChangeMaps Go.MapKept
section
theorem mU {w:World} {q:Nat} {N:WM} {G:Nat->Prop} (hR:IsR w q N G) (hN:ROk N) {r:Int} {t:Th} (ht:N.at r=some t) (hk:bD t.kind=true) :
 Calls Tryz.prog 52 #[P_ q,J r] w fun e w'=>e=.returned (U (oM t.kind))/\Bl w w':=by
 have HA:Hid _:=fH hR hN.len r (fun x hx=>(hN.kd x hx).1);have hone:=hN.one r;have ha:at7 N r=t:=by unfold at7;rw [ht];rfl
 rw [ha,ht]at HA;rw [ha]at hone;have hks:t.kind=1\/t.kind=2\/t.kind=3\/t.kind=4\/t.kind=10\/t.kind=11:=by simpa [bD,or_assoc]using hk
 obtain⟨V,hV⟩:∃ V,V=oM t.kind:=⟨_,rfl⟩;have HE:Hid (V=oM t.kind):=hV;rw [<- hV];clear hR hN ha ht hk hV
 go_enter Tryz.func52,Tryz.ntmps52
 go_wp2_with fail
 refine Calls.mono HA.out ?_;rintro e w1 ⟨rfl,hb1⟩;obtain⟨w2,hst,hb2,hg2,-⟩:=bh w1 (aF t) rfl hone;have k0:w2.cell? ⟨w1.heap.size,0,none⟩=some (.int .u8 t.kind):=by rw [ag hg2];rfl
 have HB2:Hid (Bl w w2):=hb1.trans (hb2.mono hb1.size);clear hb1 hb2 hg2 hone HA;generalize t.kind=k at k0 hks HE
 rcases hks with rfl | rfl | rfl | rfl | rfl | rfl
 all_goals
  go_wp2_with fail
  go_ret
  exact⟨by rw [HE.out];rfl,HB2.out⟩
theorem qs:∀ {n:Nat} {v:Val},bY n v->bY (n+1) v
 | 0,_,h=>dW h
 | _+1,_,h=>⟨h.1,fun x hx=>qs (h.2 x hx)⟩
theorem vN {w:World} {F:Nat->Prop} {vals:Value} {vs:List Val} (h:SlAt w F vals vs):jC vals:=by
 obtain⟨p,c,rfl⟩:=h.form;obtain⟨h1,h2⟩:=h.room
 cases p with
 | none =>
   obtain rfl:=h2 rfl;obtain h3:vs.length=0:=by omega
   rw [h3];exact .inl rfl
 | some a=>exact .inr ⟨_,_,_,rfl⟩
section
variable {w:World} {q:Nat} {N:WM} {G F1:Nat->Prop}
theorem IsR.dp (hR:IsR w q N G) {r:Int} {t:Th} (ht:N.at r=some t):DeepR w G t:=by
 obtain⟨sP,sC,sT,sM,h⟩:=hR;have d:=h.deep r t (cK ht);exact⟨d.v.mono fun b h=>h.1,d.vs.mono fun b h=>h.1,d.code,d.names⟩
theorem gg {x:Int} (h:be N x=true):0≤x/\x<N.made.length:=of_decide_eq_true h
theorem vS {k a:Int} (hk:bD k=true) (ha:cS a=true):(bits BinOp.and IntKind.u8 (oM k) a==0) = !cW k a:=by
 have hk':k=1\/k=2\/k=3\/k=4\/k=10\/k=11:=by simpa [bD,or_assoc]using hk
 have ha':a=1\/a=2\/a=4\/a=8\/a=16\/a=32:=by simpa [cS,or_assoc]using ha
 rcases hk' with rfl | rfl | rfl | rfl | rfl | rfl <;> rcases ha' with rfl | rfl | rfl | rfl | rfl | rfl <;> decide
theorem ri (hR:IsR w q N G) (hP:PlM N) {r:Int} {t:Th} (ht:N.at r=some t) (hc:cW t.kind 1=true) (v:Val) (raw:Value):Calls Tryz.prog 188 #[.agg (aF t),.agg (au v raw)] w (wq w t v):=by
 have hd:=hR.dp ht;have hf:=(hP r t ht).fair;have hk:t.kind=1\/t.kind=2\/t.kind=3\/t.kind=10:=by simpa [cW,or_assoc]using hc
 exact wL t hk hd.v hd.vs (qs (bA hf.1.1)) ⟨by show t.vs.length≤512;have:=hf.1.2.2;omega,fun x hx=>bA (hf.1.2.1 x hx)⟩ v raw
theorem oX (hR:IsR w q N G) (hN:ROk N) (hkeys:N.things.Pairwise fun a b=>a.1<b.1) (hP:PlM N) {r:Int} {t:Th} (ht:N.at r=some t) (hk:t.kind=4) (v:Val) (raw:Value) :
 Calls Tryz.prog 189 #[P_ q,J r,.agg (aF t),.agg (au v raw)] w (Do8Q w q N G (bK r t v).1 (bK r t v).2.1 (bK r t v).2.2):=by
 have hd:=hR.dp ht
 cases hP r t ht with
 | cell x v raw h1 h2 h3 h4=>exact absurd (show (1:Int)=4 from hk) (by decide)
 | list k x vs vals h0 h1 h2 h3 =>
   obtain rfl:k=4:=hk;exact td hR hN hkeys ht (gg h1) hd.vs h2 (fun y hy=>(h3 y hy).1) (fun k=>mx (by rw [List.length_drop];have:=iG h2;omega) fun y hy=>(h3 y (List.mem_of_mem_drop hy)).2.1) (pq h2 h3) v raw
 | tally x n h1 h2=>exact absurd (show (3:Int)=4 from hk) (by decide)
 | prom x v raw fu h1 h2 h3 h4 h5=>exact absurd (show (10:Int)=4 from hk) (by decide)
 | keep x tg h1 h2 h3=>exact absurd (show (11:Int)=4 from hk) (by decide)
 | mint x=>exact absurd (show (8:Int)=4 from hk) (by decide)
theorem Av (hR:IsR w q N G) (hN:ROk N) (hkeys:N.things.Pairwise fun a b=>a.1<b.1) (hP:PlM N) {r:Int} {t:Th} (ht:N.at r=some t) (hc:cW t.kind 8=true) (v:Val) (raw:Value) (hv:SlAt w F1 raw v.l) (hm:ay v=true) (hwf:v.wf) (hkn:knownB N v=true) :
 Calls Tryz.prog 190 #[P_ q,J r,.agg (aF t),.agg (au v raw)] w (Give8Q w q N G (bG N r t 8 v).2.1 (bG N r t 8 v).2.2):=by
 have hd:=hR.dp ht
 cases hP r t ht with
 | cell x v raw h1 h2 h3 h4=>exact absurd (show cW 1 8=true from hc) (by decide)
 | list k x vs vals h0 h1 h2 h3 =>
   have he:bG N r (qT k x vs vals) 8 v=(nilV,fk r (qT k x vs vals) v):=by rcases h0 with rfl | rfl <;> rfl
   rw [he];have hl:=iG h2
   have h4:∀ y ∈ vs ++ [v],ay y=true/\y.wf/\knownB N y=true:=fun y hy=>by
    rcases List.mem_append.1 hy with hy | hy
    ·exact h3 y hy
    ·rw [List.mem_singleton.1 hy];exact⟨hm,hwf,hkn⟩
   exact rI hR hN hkeys h0 ht (gg h1) hd.vs (vN hd.vs) (by omega) v raw hv (fun y hy=>(h3 y hy).1) hm (mx (by rw [List.length_append];simp;omega) fun y hy=>(h4 y hy).2.1) (iU h4)
 | tally x n h1 h2=>exact oN hR hN hkeys ht (gg h1) h2 v raw
 | prom x v raw fu h1 h2 h3 h4 h5=>exact absurd (show cW 10 8=true from hc) (by decide)
 | keep x tg h1 h2 h3 =>
   obtain⟨u,hu,hu10⟩:=h3;have h7:at7 N tg=u:=by unfold at7;rw [hu];rfl
   have he:bG N r (qm x tg) 8 v=(nilV,hJ tg u v):=by rw [<- h7];rfl
   rw [he]
   cases hP tg u hu with
   | cell y v0 raw0 g1 g2 g3 g4=>exact absurd (show (1:Int)=10 from hu10) (by decide)
   | list k y vs vals g0 g1 g2 g3=>have e:k=10:=hu10;omega
   | tally y n g1 g2=>exact absurd (show (3:Int)=10 from hu10) (by decide)
   | prom y v0 raw0 fu g1 g2 g3 g4 g5=>exact oz hR hN hkeys hu (gg g1) v raw hv hm hwf hkn
   | keep y tg g1 g2 g3=>exact absurd (show (11:Int)=10 from hu10) (by decide)
   | mint y=>exact absurd (show (8:Int)=10 from hu10) (by decide)
 | mint x=>exact absurd (show cW 8 8=true from hc) (by decide)
theorem rE (hR:IsR w q N G) (hN:ROk N) (hkeys:N.things.Pairwise fun a b=>a.1<b.1) (hP:PlM N) {r:Int} {t:Th} (ht:N.at r=some t) (hk:t.kind=1) (v:Val) (raw:Value) (hv:SlAt w F1 raw v.l) (hm:ay v=true) (hwf:v.wf) (hkn:knownB N v=true) :
 Calls Tryz.prog 108 #[P_ q,J r,.agg (aF { t with v:=v,vl:=raw })] w (gG w q N G r { t with v:=v,vl:=raw }):=by
 cases hP r t ht with
 | cell x v0 raw0 h1 h2 h3 h4=>exact rV hR hN hkeys ht (gg h1) v raw hv hm hwf hkn
 | list k x vs vals h0 h1 h2 h3=>have e:k=1:=hk;omega
 | tally x n h1 h2=>exact absurd (show (3:Int)=1 from hk) (by decide)
 | prom x v raw fu h1 h2 h3 h4 h5=>exact absurd (show (10:Int)=1 from hk) (by decide)
 | keep x tg h1 h2 h3=>exact absurd (show (11:Int)=1 from hk) (by decide)
 | mint x=>exact absurd (show (8:Int)=1 from hk) (by decide)
end
theorem Do8Q.fin {w w1:World} {q:Nat} {N N':WM} {G G' F':Nat->Prop} {x:Val} {n:Int} {y:Option (Int × Th)} {b:Nat} {raw:Value} {cs:Array Value} (hs:SlAt w1 F' raw x.l) (hFb:∀ z,F' z->w.heap.size≤z/\z≠b) (hR:IsR w1 q N' G') (hk:Keeps G w w1) (hG:∀ b,G' b->G b\/w.heap.size≤b) (hy:uD N y N') (hGb:¬ G' b) (hbw:w.heap.size≤b) (hg:w1.heap[b]? = some (.cells cs 27 (0,0))) :
 (w1.setRow b (au x raw)).heap[b]? = some (.cells (au x raw) 27 (0,0))/\Do8Q w q N G x n y (.returned (.tuple #[.agg (au x raw),J n])) (w1.setRow b (au x raw)):=by
 have hkr:=aQ w1 b (au x raw);refine⟨ah hg,raw,N',G',rfl,(hs.keeps hkr fun z h1 h2=>(hFb z h2).2 h1).mono fun z h=>(hFb z h).1,hR.keeps hkr fun z h1 h2=>hGb (h2 ▸ h1),?_,hG,hy⟩;exact hk.trans hkr (fun _ _ h=>h) fun z hz h=>by have h':z=b:=h;omega
attribute [local go_sem ↓] aW in
theorem yE {w:World} {q:Nat} {N:WM} {G F1:Nat->Prop} (hR:IsR w q N G) (hN:ROk N) (hkeys:N.things.Pairwise fun a b=>a.1<b.1) (hP:PlM N) (r a:Int) (v:Val) (raw:Value) (hv:SlAt w F1 raw v.l) (hwf:v.wf) :
 Calls Tryz.prog 91 #[P_ q,J r,U a,.agg (au v raw)] w (Do8Q w q N G (dw N r a v).1 (dw N r a v).2.1 (dw N r a v).2.2):=by
 obtain⟨pa,c,rfl⟩:=hv.form;have HR:Hid (IsR w q N G):=hR;have HGlt:Hid (∀ b,G b->b<w.heap.size):=hR.lt;have HMy:Hid (∀ w',Bl w w'->Calls Tryz.prog 182 #[.agg (au v (.slice pa v.l.length c))] w' fun e w''=>e=.returned (.bool (ay v))/\Bl w' w''):=fun w' hb=>fF (hv.on hb) hwf;have HNm:Hid (ay v=true->∀ w',Bl w w'->Calls Tryz.prog 183 #[P_ q,.agg (au v (.slice pa v.l.length c))] w' fun e w''=>e=.returned (.bool (knownB N v))/\Bl w' w''):=fun hm w' hb=>iV (hR.below hb) hN v _ (hv.on hb) hm;have HIs:Hid (∀ w',Bl w w'->Calls Tryz.prog 187 #[P_ q,J r] w' fun e w''=>e=.returned (.bool (N.at r).isSome)/\Bl w' w''):=fun w' hb=>wY (hR.below hb) hN r
 have HAt:Hid (∀ t,N.at r=some t->(∀ w',Bl w w'->Calls Tryz.prog 47 #[P_ q,J r] w' fun e w''=>e=.returned (.tuple #[.agg (aF t),.bool true])/\Bl w' w'')/\(aF t).all (·.oneCell')=true):=fun t ht=>by
  have ha:at7 N r=t:=by unfold at7;rw [ht];rfl
  refine⟨fun w' hb=>?_,ha ▸ hN.one r⟩;have:=fH (hR.below hb) hN.len r (fun x hx=>(hN.kd x hx).1);rw [ha,ht]at this;exact this
 have HAb:Hid (∀ t,N.at r=some t->bD t.kind=true->∀ w',Bl w w'->Calls Tryz.prog 52 #[P_ q,J r] w' fun e w''=>e=.returned (U (oM t.kind))/\Bl w' w''):=fun t ht hk w' hb=>mU (hR.below hb) hN ht hk;have HGet:Hid (∀ t,N.at r=some t->cW t.kind 1=true->∀ w',Bl w w'->Calls Tryz.prog 188 #[.agg (aF t),.agg (au v (.slice pa v.l.length c))] w' (wq w' t v)):=fun t ht hc w' hb=>ri (hR.below hb) hP ht hc v _;have HTake:Hid (∀ t,N.at r=some t->t.kind=4->∀ w',Bl w w'->Calls Tryz.prog 189 #[P_ q,J r,.agg (aF t),.agg (au v (.slice pa v.l.length c))] w' (Do8Q w' q N G (bK r t v).1 (bK r t v).2.1 (bK r t v).2.2)):=fun t ht hk w' hb=>oX (hR.below hb) hN hkeys hP ht hk v _;have HGive:Hid (∀ t,N.at r=some t->cW t.kind 8=true->ay v=true->knownB N v=true->∀ w',Bl w w'->Calls Tryz.prog 190 #[P_ q,J r,.agg (aF t),.agg (au v (.slice pa v.l.length c))] w' (Give8Q w' q N G (bG N r t 8 v).2.1 (bG N r t 8 v).2.2)):=fun t ht hc hm hk w' hb=>Av (hR.below hb) hN hkeys hP ht hc v _ (hv.on hb) hm hwf hk;have HPut:Hid (∀ t,N.at r=some t->t.kind=1->ay v=true->knownB N v=true->∀ w',Bl w w'->Calls Tryz.prog 108 #[P_ q,J r,.agg (aF { t with v:=v,vl:=.slice pa v.l.length c })] w' (gG w' q N G r { t with v:=v,vl:=.slice pa v.l.length c })):=fun t ht hk hm hkn w' hb=>rE (hR.below hb) hN hkeys hP ht hk v _ (hv.on hb) hm hwf hkn
 have HD:Hid (∀ x,x=dw N r a v->∀ {e w'},Do8Q w q N G x.1 x.2.1 x.2.2 e w'->Do8Q w q N G (dw N r a v).1 (dw N r a v).2.1 (dw N r a v).2.2 e w'):=fun x hx {e w'} h=>by rw [hx]at h;exact h
 have HNo:Hid (∀ n w',dw N r a v=(nilV,n,none)->Bl w w'->Do8Q w q N G (dw N r a v).1 (dw N r a v).2.1 (dw N r a v).2.2 (.returned (.tuple #[.agg O,J n])) w'):=fun n w' hd hb=>by rw [hd];exact Do8Q.nil hR hb
 have HX:Hid _:=dN w (au v (.slice pa v.l.length c)) zV
 have HU:Hid (dw N r a v=if cS a=false then (nilV,2,none)else if ay v=false then (nilV,2,none)else match N.at r with
  | none=>(nilV,5,none)
  | some t=>if knownB N v=false then (nilV,5,none)else bG N r t a v):=rfl
 generalize hdd:dw N r a v=d at HD HNo HU ⊢;clear hdd hR hN hkeys hP hv hwf;obtain⟨vk,vn,vstr,vl,vr⟩:=v;simp only [au,zV]at HX HMy HNm HGet HTake HGive HPut ⊢
 go_enter Tryz.func91,Tryz.ntmps91
 go_upto_region 1 with fail
 revert HX;generalize (w.alloc _).alloc _=w1;intro HX;have H1:Hid (Bl w w1/\w1.heap[w.heap.size]? = some (.cells (V_ vk vn vstr (.slice pa vl.length c) vr) 27 (0,0))/\w1.heap[w.heap.size+1]? = some (.cells zV 27 (0,0))):=HX.out;clear HX
 go_wp2_with fail
 refine(wo w1 a).mono ?_;rintro e _ ⟨rfl,rfl⟩
 by_cases ho:cS a=false
 ·have HE:Hid (d=(nilV,2,none)):=by show _=_;rw [HU.out,if_pos ho]
  rw [ho];have hst:(bZ (P_ (w.heap.size+1)) (.agg O)).run Tryz.prog w1=.ok .skip w1:=bf H1.out.2.2 rfl (by simp [zV]) (by simp [go_sem]) (by simp [zV]);obtain⟨⟨r0,r1,r2,r3,r4⟩,-⟩:=ax H1.out.2.2;clear ho HU HD
  go_wp2_with fail
  exact bodyPost_ret (by simp [results,Tryz.results91,go_sem,r0,r1,r2,r3,r4]) rfl (HNo.out 2 _ HE.out H1.out.1)
 have ho':cS a=true:=by simpa using ho
 have HO:Hid (cS a=true):=ho';rw [ho'];obtain⟨⟨a0,a1,a2,a3,a4⟩,-⟩:=ax H1.out.2.1;clear ho ho'
 go_wp2_with fail
 refine(HMy.out w1 H1.out.1).mono ?_;rintro e w2 ⟨rfl,hb⟩;have H2:Hid (Bl w w2/\w2.heap[w.heap.size]? = some (.cells (V_ vk vn vstr (.slice pa vl.length c) vr) 27 (0,0))/\w2.heap[w.heap.size+1]? = some (.cells zV 27 (0,0))):=⟨H1.out.1.trans (hb.mono H1.out.1.size),ae hb H1.out.2.1,ae hb H1.out.2.2⟩;clear hb H1 HMy a0 a1 a2 a3 a4
 by_cases hm:ay ⟨vk,vn,vstr,vl,vr⟩=false
 ·have HE:Hid (d=(nilV,2,none)):=by show _=_;rw [HU.out,if_neg (by rw [HO.out];decide),if_pos hm]
  rw [hm];have hst:(bZ (P_ (w.heap.size+1)) (.agg O)).run Tryz.prog w2=.ok .skip w2:=bf H2.out.2.2 rfl (by simp [zV]) (by simp [go_sem]) (by simp [zV]);obtain⟨⟨r0,r1,r2,r3,r4⟩,-⟩:=ax H2.out.2.2;clear hm HU HD
  go_wp2_with fail
  exact bodyPost_ret (by simp [results,Tryz.results91,go_sem,r0,r1,r2,r3,r4]) rfl (HNo.out 2 _ HE.out H2.out.1)
 have hm':ay ⟨vk,vn,vstr,vl,vr⟩=true:=by simpa using hm
 have HM:Hid (ay ⟨vk,vn,vstr,vl,vr⟩=true):=hm';rw [hm'];clear hm hm'
 go_wp2_with fail
 refine(HIs.out w2 H2.out.1).mono ?_;rintro e w3 ⟨rfl,hb⟩;have H3:Hid (Bl w w3/\w3.heap[w.heap.size]? = some (.cells (V_ vk vn vstr (.slice pa vl.length c) vr) 27 (0,0))/\w3.heap[w.heap.size+1]? = some (.cells zV 27 (0,0))):=⟨H2.out.1.trans (hb.mono H2.out.1.size),ae hb H2.out.2.1,ae hb H2.out.2.2⟩;clear hb H2 HIs
 have HU2:=(show Hid (d=match N.at r with
  | none=>(nilV,5,none)
  | some t=>if knownB N ⟨vk,vn,vstr,vl,vr⟩=false then (nilV,5,none)else bG N r t a ⟨vk,vn,vstr,vl,vr⟩)from by
  show _=_
  rw [HU.out,if_neg (by rw [HO.out];decide),if_neg (by rw [HM.out];decide)])
 clear HU
 cases ht:N.at r with
 | none =>
   have HE:Hid (d=(nilV,5,none)):=by show _=_;rw [HU2.out,ht]
   have hst:(bZ (P_ (w.heap.size+1)) (.agg O)).run Tryz.prog w3=.ok .skip w3:=bf H3.out.2.2 rfl (by simp [zV]) (by simp [go_sem]) (by simp [zV]);obtain⟨⟨r0,r1,r2,r3,r4⟩,-⟩:=ax H3.out.2.2;clear ht HU2 HD
   go_wp2_with fail
   exact bodyPost_ret (by simp [results,Tryz.results91,go_sem,r0,r1,r2,r3,r4]) rfl (HNo.out 5 _ HE.out H3.out.1)
 | some t =>
   have HT:Hid (N.at r=some t):=ht;have HU3:Hid (d=if knownB N ⟨vk,vn,vstr,vl,vr⟩=false then (nilV,5,none)else bG N r t a ⟨vk,vn,vstr,vl,vr⟩):=by show _=_;rw [HU2.out,ht]
   obtain⟨⟨a0,a1,a2,a3,a4⟩,-⟩:=ax H3.out.2.1;clear ht HU2
   go_wp2_with fail
   refine(HNm.out HM.out w3 H3.out.1).mono ?_;rintro e w4 ⟨rfl,hb⟩;have H4:Hid (Bl w w4/\w4.heap[w.heap.size]? = some (.cells (V_ vk vn vstr (.slice pa vl.length c) vr) 27 (0,0))/\w4.heap[w.heap.size+1]? = some (.cells zV 27 (0,0))):=⟨H3.out.1.trans (hb.mono H3.out.1.size),ae hb H3.out.2.1,ae hb H3.out.2.2⟩;clear hb H3 HNm a0 a1 a2 a3 a4
   by_cases hk:knownB N ⟨vk,vn,vstr,vl,vr⟩=false
   ·have HE:Hid (d=(nilV,5,none)):=by show _=_;rw [HU3.out,if_pos hk]
    rw [hk];have hst:(bZ (P_ (w.heap.size+1)) (.agg O)).run Tryz.prog w4=.ok .skip w4:=bf H4.out.2.2 rfl (by simp [zV]) (by simp [go_sem]) (by simp [zV]);obtain⟨⟨r0,r1,r2,r3,r4⟩,-⟩:=ax H4.out.2.2;clear hk HU3 HD
    go_wp2_with fail
    exact bodyPost_ret (by simp [results,Tryz.results91,go_sem,r0,r1,r2,r3,r4]) rfl (HNo.out 5 _ HE.out H4.out.1)
   have hk':knownB N ⟨vk,vn,vstr,vl,vr⟩=true:=by simpa using hk
   have HK:Hid (knownB N ⟨vk,vn,vstr,vl,vr⟩=true):=hk';have HU4:Hid (d=bG N r t a ⟨vk,vn,vstr,vl,vr⟩):=by show _=_;rw [HU3.out,if_neg hk]
   rw [hk'];clear hk hk' HU3;obtain⟨hat,hone⟩:=HAt.out t HT.out
   go_wp2_with fail
   refine(hat w4 H4.out.1).mono ?_;rintro e w5 ⟨rfl,hb5⟩;obtain⟨w6,hst,hb6,hg6,-⟩:=bh w5 (aF t) rfl hone;have hb46:=hb5.trans (hb6.mono hb5.size);have H6:Hid (Bl w w6/\w6.heap[w.heap.size]? = some (.cells (V_ vk vn vstr (.slice pa vl.length c) vr) 27 (0,0))/\w6.heap[w.heap.size+1]? = some (.cells zV 27 (0,0))/\w6.heap[w5.heap.size]? = some (.cells (aF t) 46 (0,0))/\w.heap.size+2≤w5.heap.size):=⟨H4.out.1.trans (hb46.mono H4.out.1.size),ae hb46 H4.out.2.1,ae hb46 H4.out.2.2,hg6,by have:=aw H4.out.2.2;have:=hb5.size;omega⟩;clear hb5 hb6 hg6 hb46 H4 HAt hat;have k0:w6.cell? ⟨w5.heap.size,0,none⟩=some (.int .u8 t.kind):=by rw [ag H6.out.2.2.2.1];rfl
   go_wp2_with fail
   refine(ud w6 t.kind).mono ?_;rintro e _ ⟨rfl,rfl⟩;generalize w5.heap.size=B at *;clear hst k0
   by_cases hp:bD t.kind=false
   ·have HE:Hid (d=(nilV,80,none)):=by show _=_;rw [HU4.out];unfold bG;rw [if_pos hp]
    rw [hp];have hst:(bZ (P_ (w.heap.size+1)) (.agg O)).run Tryz.prog w6=.ok .skip w6:=bf H6.out.2.2.1 rfl (by simp [zV]) (by simp [go_sem]) (by simp [zV]);obtain⟨⟨r0,r1,r2,r3,r4⟩,-⟩:=ax H6.out.2.2.1;clear hp HU4 HD
    go_wp2_with fail
    exact bodyPost_ret (by simp [results,Tryz.results91,go_sem,r0,r1,r2,r3,r4]) rfl (HNo.out 80 _ HE.out H6.out.1)
   have hp':bD t.kind=true:=by simpa using hp
   have HPl:Hid (bD t.kind=true):=hp';rw [hp'];clear hp hp'
   go_wp2_with fail
   refine(HAb.out t HT.out HPl.out w6 H6.out.1).mono ?_;rintro e w7 ⟨rfl,hb⟩;have H7:Hid (Bl w w7/\w7.heap[w.heap.size]? = some (.cells (V_ vk vn vstr (.slice pa vl.length c) vr) 27 (0,0))/\w7.heap[w.heap.size+1]? = some (.cells zV 27 (0,0))/\w7.heap[B]? = some (.cells (aF t) 46 (0,0))/\w.heap.size+2≤B):=⟨H6.out.1.trans (hb.mono H6.out.1.size),ae hb H6.out.2.1,ae hb H6.out.2.2.1,ae hb H6.out.2.2.2.1,H6.out.2.2.2.2⟩;clear hb H6 HAb;have hcb:=vS HPl.out HO.out
   by_cases hc:cW t.kind a=false
   ·have HE:Hid (d=(nilV,6,none)):=by show _=_;rw [HU4.out];unfold bG;rw [if_neg (by rw [HPl.out];decide),if_pos hc]
    rw [hc]at hcb;have hcb':(bits BinOp.and IntKind.u8 (oM t.kind) a==0)=true:=hcb;have hst:(bZ (P_ (w.heap.size+1)) (.agg O)).run Tryz.prog w7=.ok .skip w7:=bf H7.out.2.2.1 rfl (by simp [zV]) (by simp [go_sem]) (by simp [zV]);obtain⟨⟨r0,r1,r2,r3,r4⟩,-⟩:=ax H7.out.2.2.1;clear hc HU4 HD hcb
    go_wp2_with fail
    exact bodyPost_ret (by simp [results,Tryz.results91,go_sem,r0,r1,r2,r3,r4]) rfl (HNo.out 6 _ HE.out H7.out.1)
   have hc':cW t.kind a=true:=by simpa using hc
   have HC:Hid (cW t.kind a=true):=hc';have hcb':(bits BinOp.and IntKind.u8 (oM t.kind) a==0)=false:=by rw [hcb,hc'];rfl
   have hU:=HU4.out;unfold bG at hU;rw [if_neg (by rw [HPl.out];decide),if_neg hc]at hU;have HU5:Hid (d=if a=1 then ((dI t ⟨vk,vn,vstr,vl,vr⟩).1,(dI t ⟨vk,vn,vstr,vl,vr⟩).2,none)else if a=2 then (nilV,0,some (r,{ t with v:=⟨vk,vn,vstr,vl,vr⟩ }))else if a=4 then bK r t ⟨vk,vn,vstr,vl,vr⟩else if t.kind=3 then (nilV,cY r t ⟨vk,vn,vstr,vl,vr⟩)else if t.kind=11 then (nilV,hJ t.tgt (at7 N t.tgt) ⟨vk,vn,vstr,vl,vr⟩)else (nilV,fk r t ⟨vk,vn,vstr,vl,vr⟩)):=hU
   clear hcb hc hc' hU;obtain⟨⟨a0,a1,a2,a3,a4⟩,-⟩:=ax H7.out.2.1;have hldW:=aD H7.out.2.2.2.1 rfl
   have ha4:a=1\/a=2\/a=4\/a=8:=by
    have h1:=HC.out;unfold cW at h1
    by_cases e1:a=1
    ·exact .inl e1
    by_cases e2:a=2
    ·exact .inr (.inl e2)
    by_cases e4:a=4
    ·exact .inr (.inr (.inl e4))
    by_cases e8:a=8
    ·exact .inr (.inr (.inr e8))
    rw [if_neg e1,if_neg e2,if_neg e4,if_neg e8]at h1
    cases h1
   rcases ha4 with rfl | rfl | rfl | rfl
   ·-- get
    have HE:Hid (d=((dI t ⟨vk,vn,vstr,vl,vr⟩).1,(dI t ⟨vk,vn,vstr,vl,vr⟩).2,none)):=by show _=_;rw [HU5.out,if_pos rfl]
    have HCl:Hid _:=HGet.out t HT.out HC.out w7 H7.out.1;clear HGet HTake HGive HPut HU4 HU5
    go_wp2_with fail
    refine Calls.mono HCl.out ?_;rintro e w8 ⟨raw',rfl,hb8,hs8⟩;obtain⟨p8,c8,rfl⟩:=hs8.form;have hg8:=ae hb8 H7.out.2.2.1;have hb8':=H7.out.1.trans (hb8.mono H7.out.1.size);have hlt:=aw H7.out.2.2.1;have HF:Hid _:=Do8Q.fin (q:=q) (N:=N) (n:=(dI t ⟨vk,vn,vstr,vl,vr⟩).2) (y:=none) (w:=w) hs8 (b:=w.heap.size+1) (fun z h=>by have h':w7.heap.size≤z:=h;omega) (HR.out.below hb8') (Keeps.of_below (S:=G) hb8') (fun _ h=>.inl h) rfl (fun h=>by have:=HGlt.out _ h;omega) (by omega) hg8;have hst:=az (c':=au (dI t ⟨vk,vn,vstr,vl,vr⟩).1 (.slice p8 (dI t ⟨vk,vn,vstr,vl,vr⟩).1.l.length c8)) hg8 rfl rfl (by simp [go_sem,au]);clear hb8 hs8 hg8 hb8' hlt HCl H7;generalize dI t ⟨vk,vn,vstr,vl,vr⟩=gr at *;obtain⟨⟨xk,xn,xs,xl,xr⟩,g2⟩:=gr;simp only [au]at hst HF ⊢
    go_wp2_with fail
    obtain⟨⟨r0,r1,r2,r3,r4⟩,-⟩:=ax HF.out.1;exact bodyPost_ret (by simp [results,Tryz.results91,go_sem,r0,r1,r2,r3,r4]) rfl (HD.out _ HE.out.symm HF.out.2)
   ·-- put
    have HE:Hid (d=(nilV,0,some (r,{ t with v:=⟨vk,vn,vstr,vl,vr⟩ }))):=by show _=_;rw [HU5.out,if_neg (by decide),if_pos rfl]
    have hk1:t.kind=1:=by have h1:=HC.out;simpa [cW]using h1
    have hst5:=fE (i:=2) (vs:=#[U vk,J vn,.string vstr,.slice pa vl.length c,J vr]) H7.out.2.2.2.1 rfl (by simp [aF]) (by simp [go_sem]);have hg8:=ah (c':=((aF t).toList.take 2 ++ ((V_ vk vn vstr (.slice pa vl.length c) vr):Array Value).toList ++ (aF t).toList.drop (2+5)).toArray) H7.out.2.2.2.1;have hk8:=aQ w7 B ((aF t).toList.take 2 ++ ((V_ vk vn vstr (.slice pa vl.length c) vr):Array Value).toList ++ (aF t).toList.drop (2+5)).toArray;obtain⟨w8,hw8⟩:∃ w8,w8=w7.setRow B ((aF t).toList.take 2 ++ ((V_ vk vn vstr (.slice pa vl.length c) vr):Array Value).toList ++ (aF t).toList.drop (2+5)).toArray:=⟨_,rfl⟩;rw [<- hw8]at hst5 hg8 hk8;have H8:Hid (Bl w w8/\w8.heap[B]? = some (.cells (aF { t with v:=⟨vk,vn,vstr,vl,vr⟩,vl:=.slice pa vl.length c }) 46 (0,0))/\w8.heap[w.heap.size+1]? = some (.cells zV 27 (0,0))):=⟨H7.out.1.trans (hk8.below H7.out.1.size fun b hb=>by have h':b=B:=hb;have:=H7.out.2.2.2.2;omega),hg8,hk8.none H7.out.2.2.1 (fun h=>by have h':w.heap.size+1=B:=h;have:=H7.out.2.2.2.2;omega)⟩
    have hldW8:=aD H8.out.2.1 rfl;have HCl:Hid _:=HPut.out t HT.out hk1 HM.out HK.out w8 H8.out.1;clear HGet HTake HGive HPut HU4 HU5 hg8 hk8 hw8 hldW hk1;simp only [aF]at hldW8 HCl
    go_wp2_with fail
    refine Calls.mono HCl.out ?_;rintro e w9 ⟨rfl,vl',vals',G',hR9,hk9,hG9,hn1,hn2⟩;have hg9:=hk9.none H8.out.2.2 (fun h=>by have:=HGlt.out _ h;omega);have hst:(bZ (P_ (w.heap.size+1)) (.agg O)).run Tryz.prog w9=.ok .skip w9:=bf hg9 rfl (by simp [zV]) (by simp [go_sem]) (by simp [zV])
    have HF:Hid (Do8Q w q N G nilV 0 (some (r,{ t with v:=⟨vk,vn,vstr,vl,vr⟩ })) (.returned (.tuple #[.agg O,J 0])) w9) :=
     ⟨S_,_,G',rfl,SlAt.nil _ _ _ _,hR9,Below.keeps H8.out.1 hk9,fun b hb=>(hG9 b hb).imp id fun h=>Nat.le_trans H8.out.1.size h,vl',vals',rfl,hn1,hn2⟩
    have HZ:Hid _:=hg9;clear hR9 hk9 hG9 hn1 hn2 hg9 H8 HCl
    go_wp2_with fail
    obtain⟨⟨r0,r1,r2,r3,r4⟩,-⟩:=ax HZ.out;exact bodyPost_ret (by simp [results,Tryz.results91,go_sem,r0,r1,r2,r3,r4]) rfl (HD.out _ HE.out.symm HF.out)
   ·-- take
    have HE:Hid (d=bK r t ⟨vk,vn,vstr,vl,vr⟩):=by show _=_;rw [HU5.out,if_neg (by decide),if_neg (by decide),if_pos rfl]
    have hk4:t.kind=4:=by have h1:=HC.out;simpa [cW]using h1
    have HCl:Hid _:=HTake.out t HT.out hk4 w7 H7.out.1;clear HGet HTake HGive HPut HU4 HU5 hk4
    go_wp2_with fail
    refine Calls.mono HCl.out ?_;rintro e w8 ⟨raw',N',G',rfl,hs8,hR8,hk8,hG8,hy8⟩;obtain⟨p8,c8,rfl⟩:=hs8.form;have hlt:=aw H7.out.2.2.1;have hg8:=hk8.none H7.out.2.2.1 (fun h=>by have:=HGlt.out _ h;omega);have HF:Hid _:=Do8Q.fin (q:=q) (N:=N) (n:=(bK r t ⟨vk,vn,vstr,vl,vr⟩).2.1) (w:=w) hs8 (b:=w.heap.size+1) (fun z h=>by have h':w7.heap.size≤z:=h;omega) hR8 (Below.keeps H7.out.1 hk8) (fun b hb=>(hG8 b hb).imp id fun h=>Nat.le_trans H7.out.1.size h) hy8 (fun h=>(hG8 _ h).elim (fun h=>by have:=HGlt.out _ h;omega) fun h=>by omega) (by omega) hg8;have hst:=az (c':=au (bK r t ⟨vk,vn,vstr,vl,vr⟩).1 (.slice p8 (bK r t ⟨vk,vn,vstr,vl,vr⟩).1.l.length c8)) hg8 rfl rfl (by simp [go_sem,au]);clear hs8 hg8 hR8 hk8 hG8 hy8 hlt HCl H7;generalize bK r t ⟨vk,vn,vstr,vl,vr⟩=gr at *;obtain⟨⟨xk,xn,xs,xl,xr⟩,g2,g3⟩:=gr;simp only [au]at hst HF ⊢
    go_wp2_with fail
    obtain⟨⟨r0,r1,r2,r3,r4⟩,-⟩:=ax HF.out.1;exact bodyPost_ret (by simp [results,Tryz.results91,go_sem,r0,r1,r2,r3,r4]) rfl (HD.out _ HE.out.symm HF.out.2)
   ·-- give
    have HE:=(show Hid (d=(nilV,(bG N r t 8 ⟨vk,vn,vstr,vl,vr⟩).2.1,(bG N r t 8 ⟨vk,vn,vstr,vl,vr⟩).2.2))from by
     show _=_;rw [HU4.out];have h1:=HU5.out;rw [HU4.out,if_neg (by decide),if_neg (by decide),if_neg (by decide)]at h1
     have h2:(bG N r t 8 ⟨vk,vn,vstr,vl,vr⟩).1=nilV:=by
      rw [h1];split
      ·rfl
      ·split <;> rfl
     exact Prod.ext h2 rfl)
    have HCl:Hid _:=HGive.out t HT.out HC.out HM.out HK.out w7 H7.out.1;clear HGet HTake HGive HPut HU4 HU5
    go_wp2_with fail
    refine Calls.mono HCl.out ?_;rintro e w8 ⟨N',G',rfl,hR8,hk8,hG8,hy8⟩;have hg8:=hk8.none H7.out.2.2.1 (fun h=>by have:=HGlt.out _ h;omega);have hst:(bZ (P_ (w.heap.size+1)) (.agg O)).run Tryz.prog w8=.ok .skip w8:=bf hg8 rfl (by simp [zV]) (by simp [go_sem]) (by simp [zV])
    have HF:Hid (Do8Q w q N G nilV (bG N r t 8 ⟨vk,vn,vstr,vl,vr⟩).2.1 (bG N r t 8 ⟨vk,vn,vstr,vl,vr⟩).2.2 (.returned (.tuple #[.agg O,J (bG N r t 8 ⟨vk,vn,vstr,vl,vr⟩).2.1])) w8) :=
     ⟨S_,_,G',rfl,SlAt.nil _ _ _ _,hR8,Below.keeps H7.out.1 hk8,fun b hb=>(hG8 b hb).imp id fun h=>Nat.le_trans H7.out.1.size h,hy8⟩
    have HZ:Hid _:=hg8;clear hR8 hk8 hG8 hy8 hg8 H7 HCl;generalize (bG N r t 8 ⟨vk,vn,vstr,vl,vr⟩).2.1=g1 at *;generalize (bG N r t 8 ⟨vk,vn,vstr,vl,vr⟩).2.2=g2 at *
    go_wp2_with fail
    obtain⟨⟨r0,r1,r2,r3,r4⟩,-⟩:=ax HZ.out;exact bodyPost_ret (by simp [results,Tryz.results91,go_sem,r0,r1,r2,r3,r4]) rfl (HD.out _ HE.out.symm HF.out)
end
section
inductive Sp (w:World) (F:Nat->Prop):Nat->Value->Prop
 | mk (n:Nat) (pa:Option Addr) (len c:Nat) (raw:Nat->Value) (hl:len≤600)
  (h:∀ i,i<len->∃ b k x s r,pa=some ⟨b,0,none⟩/\F b/\w.rangeAt b (i * 5) [U k,J x,.string s,raw i,J r]/\w.there b (i * 5) 5)
  (hr:∀ i,i<len->Sp w F n (raw i)):Sp w F (n+1) (.slice pa len c)
theorem Sp.nil (w:World) (F:Nat->Prop) (n c:Nat) (pa:Option Addr):Sp w F (n+1) (.slice pa 0 c) :=
 .mk n pa 0 c (fun _=>undef) (Nat.zero_le _) (fun i h=>absurd h (Nat.not_lt_zero i)) (fun i h=>absurd h (Nat.not_lt_zero i))
theorem Sp.form {w:World} {F:Nat->Prop} {n:Nat} {u:Value} (h:Sp w F n u):∃ m p l c,n=m+1/\u=.slice p l c/\l≤600:=by
 cases h with
 | mk n pa len c raw hl h hr=>exact⟨n,pa,len,c,rfl,rfl,hl⟩
theorem Sp.lt {w:World} {F:Nat->Prop} {n:Nat} {u:Value} (h:Sp w F n u):Sp w (fun b=>F b/\b<w.heap.size) n u:=by
 induction h with
 | mk n pa len c raw hl h hr ih =>
   refine .mk n pa len c raw hl (fun i hi=>?_) ih;obtain⟨b,k,x,s,r,h1,h2,h3,h4⟩:=h i hi;exact⟨b,k,x,s,r,h1,⟨h2,World.block_lt_of_cell? _ _ (h3 0 _ rfl)⟩,h3,h4⟩
theorem Sp.mono {w:World} {F F':Nat->Prop} {n:Nat} {u:Value} (h:Sp w F n u) (hF:∀ b,F b->F' b):Sp w F' n u:=by
 induction h with
 | mk n pa len c raw hl h hr ih =>
   refine .mk n pa len c raw hl (fun i hi=>?_) ih;obtain⟨b,k,x,s,r,h1,h2,h3,h4⟩:=h i hi;exact⟨b,k,x,s,r,h1,hF b h2,h3,h4⟩
theorem Aq {w w':World} {b o:Nat} {cs:List Value} (h:w.rangeAt b o cs) (e:w'.heap[b]? = w.heap[b]?):w'.rangeAt b o cs:=fun j v hj=>(World.cell?_of_block (a:=⟨b,o+j,none⟩) e).trans (h j v hj)
theorem oC {w w':World} {b o n:Nat} (h:w.there b o n) (e:w'.heap[b]? = w.heap[b]?):w'.there b o n:=fun j hj=>by
 obtain⟨h1,h2⟩:=h j hj;exact⟨(congrArg Option.isSome (World.cell?_of_block (a:=⟨b,o+j,none⟩) e)).trans h1,(World.frozen?_of_block (a:=⟨b,o+j,none⟩) e).trans h2⟩
theorem Sp.keeps {w w':World} {S F:Nat->Prop} {n:Nat} {u:Value} (h:Sp w F n u) (hk:Keeps S w w') (hS:∀ b,S b->F b->False):Sp w' F n u:=by
 induction h with
 | mk n pa len c raw hl h hr ih =>
   refine .mk n pa len c raw hl (fun i hi=>?_) ih;obtain⟨b,k,x,s,r,h1,h2,h3,h4⟩:=h i hi;have e:=hk.block b (World.block_lt_of_cell? _ _ (h3 0 _ rfl)) (fun hs=>hS b hs h2);exact⟨b,k,x,s,r,h1,h2,Aq h3 e,oC h4 e⟩
theorem Sp.on {w w':World} {F:Nat->Prop} {n:Nat} {u:Value} (h:Sp w F n u) (hb:Bl w w'):Sp w' F n u :=
 h.keeps (S:=fun _=>False) (Keeps.of_below hb) (fun _ h _=>h)
theorem Sp.ent {w:World} {F:Nat->Prop} {n:Nat} {p:Option Addr} {len c:Nat} (h:Sp w F (n+1) (.slice p len c)) {i:Nat} (hi:i<len) :
 ∃ b k x s r raw,p=some ⟨b,0,none⟩/\F b/\w.rangeAt b (i * 5) [U k,J x,.string s,raw,J r]/\w.there b (i * 5) 5/\Sp w F n raw:=by
 cases h with
 | mk n pa len c raw hl h hr =>
   obtain⟨b,k,x,s,r,h1,h2,h3,h4⟩:=h i hi;exact⟨b,k,x,s,r,raw i,h1,h2,h3,h4,hr i hi⟩
theorem Sp.over {w:World} {F:Nat->Prop} {n:Nat} {u:Value} (h:Sp w F n u) (b j:Nat) (k x r:Int) (s:ByteArray) :
 Sp (w.setCells b (j * 5) [U k,J x,.string s,S_,J r]) F n u:=by
 induction h with
 | mk n pa len c raw hl h hr ih =>
   refine .mk n pa len c (fun i=>if pa=some ⟨b,0,none⟩/\i=j then S_ else raw i) hl (fun i hi=>?_) (fun i hi=>?_)
   ·obtain⟨b',k',x',s',r',h1,h2,h3,h4⟩:=h i hi;have th:(w.setCells b (j * 5) [U k,J x,.string s,S_,J r]).there b' (i * 5) 5:=World.there_setCells h4 _ _ _
    by_cases hb:b'=b/\i=j
    ·obtain⟨rfl,rfl⟩:=hb;refine⟨b',k,x,s,r,h1,h2,?_,th⟩;rw [if_pos ⟨h1,rfl⟩];exact World.rangeAt_setCells_same _ _ _ _ h4
    ·refine⟨b',k',x',s',r',h1,h2,?_,th⟩;rw [if_neg (fun e=>hb ⟨by have:=h1.symm.trans e.1;injection this with this;injection this,e.2⟩)]
     refine World.rangeAt_setCells_apart h3 _ _ _ ?_
     by_cases e:b'=b
     ·have hij:i≠j:=fun h=>hb ⟨e,h⟩;refine .inr ?_;simp;omega
     ·exact .inl e
   ·show Sp _ F n (if pa=some ⟨b,0,none⟩/\i=j then S_ else raw i)
    split
    ·obtain⟨m,_,_,_,rfl,-⟩:=(hr i hi).form;exact Sp.nil _ _ _ _ _
    ·exact ih i hi
theorem Sp.of_row {w:World} {base n:Nat} {u:Value} {l:List Val} {raw:Nat->Value} {F:Nat->Prop} (hrow:w.ownsRow base 27 5 u l.length (bs l raw)) (hl:l.length≤600) (hr:∀ i v,l[i]? = some v->Sp w F n (raw i)):Sp w (fun y=>F y\/base≤y) (n+1) u:=by
 obtain⟨h1,⟨rfl,h0⟩ | ⟨g,cap,cur,rfl,hg,hb,hc,hm,hcs,ht⟩⟩:=hrow
 ·exact Sp.nil _ _ _ _ _
 ·refine Sp.mk n _ _ _ raw hl (fun i hi=>?_) (fun i hi=>(hr i _ (List.getElem?_eq_getElem hi)).mono fun _ h=>.inl h);have hv:l[i]? = some l[i]:=List.getElem?_eq_getElem hi
  have key:w.rangeAt g (i * 5) (au l[i] (raw i)).toList:=fun k x hx=>by
   rw [Array.getElem?_toList]at hx;have h2:=jI hv hx;rw [<- ht,List.getElem?_take]at h2;split at h2
   ·rw [ag hb,← Array.getElem?_toList];exact h2
   ·cases h2
  refine⟨g,_,_,_,_,rfl,.inr hg,key,fun k hk=>⟨?_,av hb _⟩⟩;have h5:k<(au l[i] (raw i)).toList.length:=hk;rw [key k _ (List.getElem?_eq_getElem h5)];rfl
def RowS (w:World) (base n:Nat) (u:Value) (l:List Val):Prop :=
 ∃ raw:Nat->Value,w.ownsRow base 27 5 u l.length (bs l raw)/\∀ i v,l[i]? = some v->SlAt w (fun b=>base≤b/\u.ownBlock≠some b) (raw i) v.l/\Sp w (fun b=>base≤b/\u.ownBlock≠some b) n (raw i)
theorem RowS.nil (w:World) (base n:Nat):RowS w base n (S_) []:=⟨fun _=>S_,World.ownsRow_nil _ _ _ _,fun i v h=>by simp at h⟩
theorem RowS.toV {w:World} {base n:Nat} {u:Value} {l:List Val} (h:RowS w base n u l):RowV w base u l:=by
 obtain⟨raw,h1,h2⟩:=h;exact⟨raw,h1,fun i v hv=>(h2 i v hv).1⟩
theorem RowS.keeps {w w':World} {S:Nat->Prop} {base n:Nat} {u:Value} {l:List Val} (h:RowS w base n u l) (hk:Keeps S w w') (hS:∀ b,S b->base≤b->False):RowS w' base n u l:=by
 obtain⟨raw,⟨h1,h2⟩,h3⟩:=h;exact⟨raw,⟨h1,h2.imp id fun⟨g,cap,cur,e1,e2,e3,e4⟩=>⟨g,cap,cur,e1,e2,hk.none e3 (fun e=>hS g e e2),e4⟩⟩,fun i v hv=>⟨(h3 i v hv).1.keeps hk fun b hb hF=>hS b hb hF.1,(h3 i v hv).2.keeps hk fun b hb hF=>hS b hb hF.1⟩⟩
theorem RowS.at {w:World} {base n:Nat} {u:Value} {l:List Val} (h:RowS w base n u l):SlAt w (fun y=>base≤y) u l:=h.toV.at
theorem RowS.own {w:World} {base n:Nat} {u:Value} {l:List Val} (h:RowS w base n u l):∀ b,u.ownBlock=some b->base≤b/\b<w.heap.size:=h.toV.own
theorem RowS.sp {w:World} {base n:Nat} {u:Value} {l:List Val} (h:RowS w base n u l) (hl:l.length≤600):Sp w (fun y=>base≤y) (n+1) u:=by
 obtain⟨raw,h1,h2⟩:=h;exact(Sp.of_row h1 hl fun i v hv=>(h2 i v hv).2).mono fun y hy=>hy.elim (fun h=>h.1) id
theorem nT {w:World} {ops:Array Oper} {rest:List Oper} {o:Oper} {a:Act} {Q:Exit->Act->World->Prop} (hgd:o.guard=none) (s x:Operand)
 (ho:o.op=.call { callee:=.builtin .append,args:=#[s,x],argTypes:=#[24,24] }) (base n:Nat)
 (u:Value) (l:List Val) (hs:a.eval s=u) (hown:Hid (RowS w base n u l)) (y:Val) (raw:Value) (hy:Hid (SlAt w (fun b=>base≤b/\u.ownBlock≠some b) raw y.l/\Sp w (fun b=>base≤b/\u.ownBlock≠some b) n raw)) (hx:a.eval x=.slice (some ⟨w.heap.size,0,none⟩) 1 1)
 (hn:Hid ((l.length:Int)≤1000)) (hbase:Hid (base≤w.heap.size))
 (h:∀ v' w',Hid (RowS w' base n v' (l ++ [y]))->Hid (Keeps (fun b=>u.ownBlock=some b) w w')->wpList Tryz.prog ops Q rest (a.put o.dst v') w'):wpList Tryz.prog ops Q (o :: rest) a (w.alloc (.cells (au y raw) 27)):=by
 obtain⟨i,hi,hz,h1,h2⟩:=info_parts de;have hn':=hn.out;obtain⟨rw0,hrow,hel⟩:=hown.out;have hyo:=hy.out;obtain⟨p,c,e⟩:=hyo.1.form
 have hone:∀ t ∈ (au y raw).toList,t.oneCell'=true:=by
  intro t ht;rw [e]at ht;simp [au]at ht
  rcases ht with rfl | rfl | rfl | rfl | rfl <;> rfl
 refine wpList_append_own_at _ hgd s x 24 ho base 27 i (.agg zV) 5 64 Tryz.underlying24 hi hz h1 h2 rfl (by decide) u l.length _ hs (hrow.alloc _) ⟨w.heap.size,0,none⟩ 1 1 (au y raw).toList hx (by simp [au]) (fun j t hj=>by
  rw [Addr.add_lit,Nat.zero_add,ag (ai w _)]
  simpa using hj) hone (by unfold maxLen;omega) (by omega) (by have:=hbase.out;simp;omega) ?_
 intro v' w' r1 r2 _ r4;have hg:w.grownBy w' u.ownBlock:=(World.grownBy_alloc w _ _).trans r2;have hk:Keeps (fun b=>u.ownBlock=some b) w w':=⟨hg.os,hg.tape,hg.output,hg.size,fun k hk hne=>hg.block k hk (fun e=>hne e.symm)⟩;refine h v' w' ?_ hk;refine⟨fun k=>if k<l.length then rw0 k else raw,?_,fun k v hv=>?_⟩
 ·rw [fL,List.length_append];exact r1
 ·have hF:∀ b,(base≤b/\u.ownBlock≠some b)/\b<w.heap.size->base≤b/\v'.ownBlock≠some b:=fun b hb=>⟨hb.1.1,fun e'=>by
   rcases r4 with r4 | r4
   ·exact hb.1.2 (r4 ▸ e')
   ·rw [r4]at e';simp at e';have:=hb.2
    omega⟩
  have keep:∀ {rv:Value} {vl:List Val},SlAt w (fun b=>base≤b/\u.ownBlock≠some b) rv vl/\Sp w (fun b=>base≤b/\u.ownBlock≠some b) n rv->SlAt w' (fun b=>base≤b/\v'.ownBlock≠some b) rv vl/\Sp w' (fun b=>base≤b/\v'.ownBlock≠some b) n rv:=fun hS =>
   ⟨((SlAt.lt hS.1).keeps hk (fun b h1 h2=>h2.1.2 h1)).mono hF,((Sp.lt hS.2).keeps hk (fun b h1 h2=>h2.1.2 h1)).mono hF⟩
  show SlAt w' _ (if k<l.length then rw0 k else raw) v.l/\Sp w' _ n (if k<l.length then rw0 k else raw)
  by_cases hkl:k<l.length
  ·rw [if_pos hkl];rw [List.getElem?_append_left hkl]at hv;exact keep (hel k v hv)
  ·rw [if_neg hkl]
   have:k=l.length:=by
    have:=ji hv;simp at this;omega
   subst this;simp at hv;subst hv;exact keep hyo
end
section
theorem lJ:ff 27 2 7 bZ:=fun _ _ _ _ _=>rfl
theorem me (w:World) (b:Nat) (v:Value) (B:Bool) (ts:Array Value) {x0 x1 x2 x3 x4:Value} (h:w.heap[b]? = some (.cells #[x0,x1,x2,x3,x4] 27 (0,0))) (h2:ts[2]? = some (.pointer (some ⟨b,0,none⟩))) (h3:ts[3]? = some (.bool B)) (hv:v=.agg #[x0,x1,x2,x3,x4]) :
 (results Tryz.f10 ts).run Tryz.prog w=.ok (.tuple #[v,.bool B]) w:=by
 obtain⟨⟨c0,c1,c2,c3,c4⟩,-⟩:=ax h;simp [results,Tryz.results10,go_sem,c0,c1,c2,c3,c4,h2,h3,hv]
end
end Go.Proofs.YthaliljaglldjaaGreat
