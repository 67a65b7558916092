/- Part of the proof. -/
import Derived.Test.YthaliljaglldjaaGreatmBH
import Derived.Lib.BitFns
namespace Go.Proofs.YthaliljaglldjaaGreat
set_option maxHeartbeats 16000000
set_option maxRecDepth 20000
open Go.RowKit Go.ChangeMaps Go.MapKept
section
def RowF (w0:World) (F:Nat->Prop) (u:Value) (l:List Val) (wx:World):Prop :=
 Bl w0 wx/\(∀ b,F b->b<w0.heap.size)/\∃ raw:Nat->Value,wx.ownsRow w0.heap.size 27 5 u l.length (bs l raw)/\∀ i v,l[i]? = some v->SlAt wx F (raw i) v.l
theorem RowF.below {w0 wx w':World} {F:Nat->Prop} {u:Value} {l:List Val} (h:RowF w0 F u l wx) (hb:Bl wx w'):RowF w0 F u l w':=by
 obtain⟨h1,h2,raw,⟨h3,h4⟩,h5⟩:=h;exact⟨h1.trans (hb.mono h1.size),h2,raw,⟨h3,h4.imp id fun⟨g,cap,cur,e1,e2,e3,e4⟩=>⟨g,cap,cur,e1,e2,ae hb e3,e4⟩⟩,fun i v hv=>(h5 i v hv).on hb⟩
theorem RowF.at {w0 wx:World} {F:Nat->Prop} {u:Value} {l:List Val} (h:RowF w0 F u l wx):SlAt wx (fun b=>F b\/w0.heap.size≤b) u l:=by
 obtain⟨-,-,raw,h1,h2⟩:=h;exact SlAt.of_row h1 h2
theorem RowF.own {w0 wx:World} {F:Nat->Prop} {u:Value} {l:List Val} (h:RowF w0 F u l wx):∀ b,u.ownBlock=some b->w0.heap.size≤b/\b<wx.heap.size:=fun b hb=>by
 obtain⟨-,-,raw,⟨h1,⟨rfl,-⟩ | ⟨g,cap,cur,rfl,h2,h3,-⟩⟩,-⟩:=h
 ·cases hb
 ·cases hb
  exact⟨h2,aw h3⟩
theorem RowF.nil {w0:World} {F:Nat->Prop} (hF:∀ b,F b->b<w0.heap.size):RowF w0 F (S_) [] w0 :=
 ⟨br,hF,fun _=>S_,World.ownsRow_nil _ _ _ _,fun i v h=>by simp at h⟩
theorem io (v:Val) (vs:List Val) (raw:Nat->Value):bs (v :: vs) raw=(au v (raw 0)).toList ++ bs vs fun i=>raw (i+1):=by
 have h:=jv v vs (raw 0) fun i=>raw (i+1)
 have e:(fun i=>if i=0 then raw 0 else raw (i - 1+1))=raw:=by
  funext i
  cases i with
  | zero=>rfl
  | succ i=>rfl
 rw [e]at h;exact h
theorem lh:∀ (l l2:List Val) (raw rws:Nat->Value),bs (l ++ l2) (fun i=>if i<l.length then raw i else rws (i - l.length))=bs l raw ++ bs l2 rws
 | [],l2,raw,rws=>by
   have e:(fun i=>if i<([]:List Val).length then raw i else rws (i - ([]:List Val).length))=rws:=by
    funext i
    simp
   rw [e];rfl
 | v :: l,l2,raw,rws=>by
   have e:(fun i=>if i+1<(v :: l).length then raw (i+1)else rws (i+1 - (v :: l).length))=fun i=>if i<l.length then (fun i=>raw (i+1)) i else rws (i - l.length):=by
    funext i
    simp only [List.length_cons]
    by_cases h:i<l.length
    ·rw [if_pos (by omega),if_pos h]
    ·rw [if_neg (by omega),if_neg h,Nat.add_sub_add_right]
   rw [List.cons_append,io,io v l raw,e,lh l l2 (fun i=>raw (i+1)) rws,List.append_assoc];rfl
theorem RowF.more {w0 wx w':World} {F:Nat->Prop} {u u':Value} {l l2:List Val} {raw rws:Nat->Value} (h1:Bl w0 wx) (hF:∀ b,F b->b<w0.heap.size) (h3:wx.ownsRow w0.heap.size 27 5 u l.length (bs l raw)) (h4:∀ i v,l[i]? = some v->SlAt wx F (raw i) v.l) (h2:∀ i v,l2[i]? = some v->SlAt wx F (rws i) v.l)
 (r1:w'.ownsRow w0.heap.size 27 5 u' (l.length+l2.length) (bs l raw ++ bs l2 rws)) (r2:wx.grownBy w' u.ownBlock):RowF w0 F u' (l ++ l2) w':=by
 have hown:=(show RowF w0 F u l wx from⟨h1,hF,raw,h3,h4⟩).own;have hk:Keeps (fun b=>u.ownBlock=some b) wx w':=⟨r2.os,r2.tape,r2.output,r2.size,fun k hk hne=>r2.block k hk (fun e=>hne e.symm)⟩;have keep:∀ {rv:Value} {m:List Val},SlAt wx F rv m->SlAt w' F rv m:=fun hS=>hS.keeps hk (fun b e hb=>by have:=hF b hb;have:=(hown b e).1;omega);refine⟨h1.trans (hk.below h1.size fun b hb=>(hown b hb).1),hF,fun i=>if i<l.length then raw i else rws (i - l.length),?_,fun i v hv=>?_⟩
 ·rw [List.length_append,lh];exact r1
 ·show SlAt w' F (if i<l.length then raw i else rws (i - l.length)) v.l
  by_cases hi:i<l.length
  ·rw [if_pos hi];rw [List.getElem?_append_left hi]at hv;exact keep (h4 i v hv)
  ·rw [if_neg hi];rw [List.getElem?_append_right (by omega)]at hv;exact keep (h2 _ v hv)
def fk (r:Int) (t:Th) (v:Val):Int × Option (Int × Th) :=
 if ay (aJ (t.vs ++ [v]))=true then (0,some (r,{ t with vs:=t.vs ++ [v] }))else (8,none)
theorem lE:bX 64 27 7 bp:=fun _ _ _ _ _=>rfl
attribute [local go_sem ↓] lE in
theorem rI {w:World} {q:Nat} {N:WM} {G F F1:Nat->Prop} (hR:IsR w q N G) (hN:ROk N) (hkeys:N.things.Pairwise fun a b=>a.1<b.1) {k:Int} (hk:k=2\/k=4) {r h:Int} {vs:List Val} {vals0 vals:Value} (hat:N.at r=some (qT k h vs vals0)) (hh:0≤h/\h<N.made.length)
 (hS:SlAt w F vals vs) (hsome:jC vals) (hlen:vs.length≤512) (v:Val) (raw:Value) (hv:SlAt w F1 raw v.l) (hms:∀ x ∈ vs,ay x=true) (hmv:ay v=true) (hwf:(aJ (vs ++ [v])).wf) (hkn:∀ x ∈ (vs ++ [v]).flatMap (aN 15),(N.at x).isSome=true) :
 Calls Tryz.prog 190 #[P_ q,J r,.agg (aF (qT k h vs vals)),.agg (au v raw)] w (Give8Q w q N G (fk r (qT k h vs vals) v).1 (fk r (qT k h vs vals) v).2):=by
 obtain⟨ps,cs,hvals⟩:=hS.form;subst hvals;obtain⟨pa,c,rfl⟩:=hv.form;obtain⟨t,ht⟩:∃ t:Th,t=qT k h vs (.slice ps vs.length cs):=⟨_,rfl⟩;have hb0:Bl w ((w.alloc (.cells (aF t) 46)).alloc (.cells (V_ v.kind v.n v.s (.slice pa v.l.length c) v.r) 27)):=((Below.refl _ w).alloc aH _).alloc (by simp) _;have e0:=aL w (.cells (aF t) 46) (.cells (V_ v.kind v.n v.s (.slice pa v.l.length c) v.r) 27);have e1:=aK w (.cells (aF t) 46) (.cells (V_ v.kind v.n v.s (.slice pa v.l.length c) v.r) 27);have H0:Hid (∀ w1,w1=((w.alloc (.cells (aF t) 46)).alloc (.cells (V_ v.kind v.n v.s (.slice pa v.l.length c) v.r) 27))->Bl w w1/\w1.heap[w.heap.size]? = some (.cells (aF t) 46 (0,0))/\w1.heap[w.heap.size+1]? = some (.cells (V_ v.kind v.n v.s (.slice pa v.l.length c) v.r) 27 (0,0))):=fun w1 e=>by subst e;exact⟨hb0,e0,e1⟩
 have HR:Hid (IsR w q N G):=hR;have HSA:Hid (SlAt w (fun b=>(F b\/F1 b)/\b<w.heap.size) (.slice ps vs.length cs) vs/\SlAt w (fun b=>(F b\/F1 b)/\b<w.heap.size) (.slice pa v.l.length c) v.l):=⟨hS.lt.mono fun b h=>⟨.inl h.1,h.2⟩,hv.lt.mono fun b h=>⟨.inr h.1,h.2⟩⟩
 have HL:Hid (ay (aJ (vs ++ [v]))=true->∀ (w':World) (F':Nat->Prop) (vals':Value),Bl w w'->SlAt w' F' vals' (vs ++ [v])->Calls Tryz.prog 108 #[P_ q,J r,.agg (aF (qT k h (vs ++ [v]) vals'))] w' (gG w' q N G r (qT k h (vs ++ [v]) vals'))):=fun hm w' F' vals' hb hS' =>
  sW (hR.below hb) hN hkeys hk hat hh (vs ++ [v]) vals' hS' (fun e=>by simp at e) hm (fun x hx=>by
   rcases List.mem_append.1 hx with hx | hx
   ·exact hms x hx
   ·rw [List.mem_singleton.1 hx];exact hmv) hwf (by
   unfold knownB;rw [dl hm,List.all_eq_true]
   exact fun x hx=>hkn x hx)
 have HM:Hid (∀ (w':World) (F':Nat->Prop) (vals':Value),SlAt w' F' vals' (vs ++ [v])->Calls Tryz.prog 182 #[.agg (au (aJ (vs ++ [v])) vals')] w' fun e w''=>e=.returned (.bool (ay (aJ (vs ++ [v]))))/\Bl w' w''):=fun w' F' vals' hS'=>fF (v:=aJ (vs ++ [v])) hS' hwf;have HG:Hid (fk r (qT k h vs (.slice ps vs.length cs)) v=if ay (aJ (vs ++ [v]))=true then (0,some (r,qT k h (vs ++ [v]) (.slice ps vs.length cs)))else (8,none)):=rfl
 have HLn:Hid (vs.length≤512):=hlen;clear hS hv hR hN hkeys hat hh hms hmv hwf hkn hlen hb0 e0 e1;rw [ht]at H0;obtain⟨B,hB⟩:∃ B,B=ay (aJ (vs ++ [v])):=⟨_,rfl⟩;rw [<- hB]at HL HM HG;obtain⟨vk,vn,vstr,vl,vr⟩:=v;clear hB ht;simp only [au,aF]at H0 ⊢
 go_enter Tryz.func190,Tryz.ntmps190
 go_upto_region 1 with fail
 revert H0;generalize World.alloc _ _=w1;intro H0;have H0:Hid (_/\_):=H0.out w1 rfl;have k0:w1.cell? ⟨w.heap.size,0,none⟩=some (.int .u8 k):=by rw [ag H0.out.2.1];rfl
 have k7:w1.cell? ⟨w.heap.size,7,none⟩=some (.slice ps vs.length cs):=by rw [ag H0.out.2.1];rfl
 have kn3:(k==3)=false:=by rcases hk with rfl | rfl <;> rfl
 have kn11:(k==11)=false:=by rcases hk with rfl | rfl <;> rfl
 clear hk;have H1:Hid (RowF w1 (fun b=>(F b\/F1 b)/\b<w.heap.size) (S_) [] w1):=RowF.nil fun b hb=>Nat.lt_of_lt_of_le hb.2 H0.out.1.size
 go_upto_region 19 with fail
 go_cut [11] (fun v11 wx=>∃ p c,v11=.slice p vs.length c/\Hid (RowF w1 (fun b=>(F b\/F1 b)/\b<w.heap.size) (.slice p vs.length c) vs wx))
 case first =>
  obtain⟨iv,hi,hz,i1,i2⟩:=info_parts de
  rcases hsome with e | ⟨ad,m,c',e⟩
  ·injection e with e1 e2 e3
   subst e1;subst e3;have hvs:vs = []:=List.length_eq_zero_iff.1 e2;subst hvs;clear HL HM HG HSA H0
   go_wp2_with (at_builtin;refine wpList_append_own_none rfl _ _ 24 rfl 0 27 iv 5 Tryz.underlying24 hi _ 0 [] rfl (World.ownsRow_nil _ _ _ _) rfl ?_)
   go_meet
   case rel=>exact⟨none,0,rfl,H1.out⟩
  ·injection e with e1 e2 e3
   subst e1;clear e2 e3;obtain⟨-,rws,hrws,hcells⟩:=(HSA.out.1.on H0.out.1).cells
   have hcl:Hid (∀ j u,(bs vs rws)[j]? = some u->w1.cell? (ad.add j)=some u):=fun j u hj=>by
    obtain⟨b,o,e1,e2⟩:=hcells j u hj
    cases e1
    rw [Addr.add_lit];exact e2
   have hones:Hid (∀ u ∈ bs vs rws,u.oneCell'=true):=gQ fun i v hv=>by obtain⟨p,c,e⟩:=(hrws i v hv).form;exact⟨_,_,_,e⟩
   have HRW:Hid (∀ i v,vs[i]? = some v->SlAt w1 (fun b=>(F b\/F1 b)/\b<w.heap.size) (rws i) v.l):=hrws;clear HL HM HG HSA H0 hcells hrws;have hmx:0+vs.length≤maxLen:=by have:=HLn.out;unfold maxLen;omega
   have hby:(0+vs.length) * 64≤140737488355328:=by have:=HLn.out;omega
   go_wp2_with (at_builtin;refine wpList_append_own_at _ rfl _ _ 24 rfl w1.heap.size 27 iv (.agg zV) 5 64 Tryz.underlying24 hi hz i1 i2 rfl (by decide) _ 0 [] rfl (World.ownsRow_nil _ _ _ _) ad vs.length cs (bs vs rws) rfl (eO _ _) hcl.out hones.out hmx hby aH ?_;intro v' w' r1 r2 _ r4
                have HV:Hid (RowF w1 (fun b=>(F b\/F1 b)/\b<w.heap.size) v' vs w'):=RowF.more (l:=[]) (raw:=fun _=>S_) br H1.out.2.1 (World.ownsRow_nil _ _ _ _) (fun i v h=>by simp at h) HRW.out r1 r2
                clear r1 r2 r4 hcl hones HRW hmx hby)
   obtain⟨p',c',hu'⟩:=HV.out.at.form;subst hu'
   go_meet
   case rel=>exact⟨p',c',rfl,HV.out⟩
 obtain⟨p2,c2,rfl,HV⟩:=hcut;clear hsome H1;refine ‹∀ (a:Act) (w:World),Code.wp Tryz.prog _ _ a w->_› _ _ ?_;have g1:=ae HV.out.1 H0.out.2.2;have hld:=aI g1 rfl;have hba:Bl wc (wc.alloc (.cells (V_ vk vn vstr (.slice pa vl.length c) vr) 27)):=br.alloc aH _;obtain⟨hRb,hRF,raw0,hown0,hel0⟩:=HV.out.below hba;have HOwn:Hid (World.ownsRow _ w1.heap.size 27 5 _ vs.length (bs vs raw0)):=hown0;have HEl:Hid _:=And.intro hRb (And.intro hRF hel0);have HV1:Hid (SlAt (wc.alloc (.cells (V_ vk vn vstr (.slice pa vl.length c) vr) 27)) (fun b=>(F b\/F1 b)/\b<w.heap.size) (.slice pa vl.length c) vl):=(HSA.out.2.on H0.out.1).on (HV.out.1) |>.on hba
 have HN:Hid (∀ j u,[Value.int .u8 vk,J vn,.string vstr,.slice pa vl.length c,J vr][j]? = some u->(wc.alloc (.cells (V_ vk vn vstr (.slice pa vl.length c) vr) 27)).cell? ((⟨wc.heap.size,0,none⟩:Addr).add j)=some u):=fun j u hj=>by
  rw [Addr.add_lit,Nat.zero_add,ag (ai wc _)]
  simpa using hj
 have hmx:vs.length+1≤maxLen:=by have:=HLn.out;unfold maxLen;omega
 have hby:(vs.length+1) * 64≤140737488355328:=by have:=HLn.out;omega
 have hbs:w1.heap.size≤(wc.alloc (.cells (V_ vk vn vstr (.slice pa vl.length c) vr) 27)).heap.size:=Nat.le_trans HV.out.1.size hba.size;have HC:Hid (Bl w1 wc):=HV.out.1;obtain⟨iv,hi,hz,i1,i2⟩:=info_parts de;clear g1 hba hRb hRF hown0 hel0 HV HSA
 go_wp2_with (at_builtin;refine wpList_append_own_at _ rfl _ _ 24 rfl w1.heap.size 27 iv (.agg zV) 5 64 Tryz.underlying24 hi hz i1 i2 rfl (by decide) _ vs.length (bs vs raw0) rfl HOwn.out ⟨wc.heap.size,0,none⟩ 1 1 [U vk,J vn,.string vstr,.slice pa vl.length c,J vr] rfl rfl HN.out (fun u hu=>by simp at hu;rcases hu with rfl | rfl | rfl | rfl | rfl <;> rfl) hmx hby hbs ?_;intro v' w' r1 r2 _ r4
              have HV2:=(show Hid (RowF w1 (fun b=>(F b\/F1 b)/\b<w.heap.size) v' (vs ++ [⟨vk,vn,vstr,vl,vr⟩]) w')from RowF.more (l2:=[⟨vk,vn,vstr,vl,vr⟩]) (rws:=fun _=>.slice pa vl.length c) HEl.out.1 HEl.out.2.1 HOwn.out HEl.out.2.2 (fun i x hx=>by
               have hi0:i=0:=by have:=ji hx;simp at this;exact this
               subst hi0
               cases hx
               exact HV1.out) r1 r2)
              obtain⟨p',c',hu'⟩:=HV2.out.at.form;rw [show (vs ++ [(⟨vk,vn,vstr,vl,vr⟩:Val)]).length=vs.length+1 from by simp]at hu'
              subst hu';have hmay:=HM.out w' _ _ HV2.out.at;simp only [au,aJ]at hmay;have HMy:Hid _:=hmay
              clear hmay r1 r2 r4 HOwn HEl HV1 HN hmx hby hbs hld HM)
 refine Calls.mono HMy.out ?_;rintro e w4 ⟨rfl,hb4⟩;have HV4:Hid _:=HV2.out.below hb4;have hbw4:Bl w w4:=H0.out.1.trans (HV4.out.1.mono H0.out.1.size);clear HMy HV2 hb4 HC
 cases B with
 | false =>
   have HF:Hid (Give8Q w q N G 8 none (.returned (J 8)) w4):=Give8Q.no HR.out hbw4;clear HL HV4 H0 k0 k7 HR hbw4
   go_wp2_with fail
   go_ret
   rw [HG.out];exact HF.out
 | true =>
   have g0:=ae HV4.out.1 H0.out.2.1;have e7:w4.cell? ⟨w.heap.size,7,none⟩=some (.slice ps vs.length cs):=by rw [ag g0];rfl
   have f7:=av g0 7;have hg7:=aA g0 7 (.slice p' (vs.length+1) c');have hk7:Keeps (fun b=>b=w.heap.size) w4 (w4.setCell ⟨w.heap.size,7,none⟩ (.slice p' (vs.length+1) c')):=Keeps.setCell (S:=fun b=>b=w.heap.size) w4 ⟨w.heap.size,7,none⟩ _ rfl;obtain⟨w7,hw7⟩:∃ w7,w7=w4.setCell ⟨w.heap.size,7,none⟩ (.slice p' (vs.length+1) c'):=⟨_,rfl⟩;have H7:Hid (Bl w w7/\w7.heap[w.heap.size]? = some (.cells (aF (qT k h (vs ++ [⟨vk,vn,vstr,vl,vr⟩]) (.slice p' (vs.length+1) c'))) 46 (0,0))):=by rw [hw7];exact⟨hbw4.trans (hk7.below hbw4.size fun b hb=>by omega),hg7⟩
   have hS7:SlAt w7 (fun b=>((F b\/F1 b)/\b<w.heap.size)\/w1.heap.size≤b) (.slice p' (vs.length+1) c') (vs ++ [⟨vk,vn,vstr,vl,vr⟩]):=by
    have hlt1:=aw H0.out.2.1;rw [hw7];exact(RowF.at HV4.out).keeps hk7 fun b h1 h2=>by rcases h2 with h2 | h2 <;> omega
   have HLy:Hid _:=HL.out rfl w7 _ _ H7.out.1 hS7;clear hg7 hk7 hS7 g0 HL HV4 H0 k0 k7
   go_upto_region 24 with fail
   rw [<- hw7];clear hw7 e7 f7;have hldW:=aD H7.out.2 rfl;simp only [aF]at hldW HLy
   go_wp2_with fail
   refine Calls.mono HLy.out ?_;rintro e w8 hL8;obtain rfl:=hL8.1;have HF0:Give8Q w q N G 0 (some (r,qT k h (vs ++ [(⟨vk,vn,vstr,vl,vr⟩:Val)]) (.slice ps vs.length cs))) (.returned (J 0)) w8:=Give8Q.laid (t:=qT k h (vs ++ [(⟨vk,vn,vstr,vl,vr⟩:Val)]) (.slice p' (vs.length+1) c')) H7.out.1 hL8 ⟨S_,.slice ps vs.length cs,rfl⟩;have HF:Hid (Give8Q w q N G 0 (some (r,qT k h (vs ++ [(⟨vk,vn,vstr,vl,vr⟩:Val)]) (.slice ps vs.length cs))) (.returned (J 0)) w8):=HF0;clear HF0;clear hL8 H7 HLy hldW HR
   go_wp2_with fail
   go_ret
   rw [HG.out];exact HF.out
end
section
def hJ (tg:Int) (p:Th) (v:Val):Int × Option (Int × Th):=if p.full=true then (83,none)else (0,some (tg,{ p with full:=true,v:=v }))
theorem lu:bX 52 27 7 bp:=fun _ _ _ _ _=>rfl
attribute [local go_sem ↓] lu aW in
theorem oz {w:World} {q:Nat} {N:WM} {G F1:Nat->Prop} (hR:IsR w q N G) (hN:ROk N) (hkeys:N.things.Pairwise fun a b=>a.1<b.1) {r h0 tg h:Int} {x:Val} {vl0:Value} {fu:Bool} (hat:N.at tg=some (dX h x vl0 fu)) (hh:0≤h/\h<N.made.length)
 (v:Val) (raw:Value) (hv:SlAt w F1 raw v.l) (hmv:ay v=true) (hwf:v.wf) (hkn:knownB N v=true) :
 Calls Tryz.prog 190 #[P_ q,J r,.agg (aF (qm h0 tg)),.agg (au v raw)] w (Give8Q w q N G (hJ tg (dX h x vl0 fu) v).1 (hJ tg (dX h x vl0 fu) v).2):=by
 obtain⟨pa,c,rfl⟩:=hv.form;have hA7:at7 N tg=dX h x vl0 fu:=by unfold at7;rw [hat];rfl
 have hone:(aF (dX h x vl0 fu)).all (·.oneCell')=true:=by have:=hN.one tg;rwa [hA7]at this
 have hb0:Bl w ((w.alloc (.cells (aF (qm h0 tg)) 46)).alloc (.cells (V_ v.kind v.n v.s (.slice pa v.l.length c) v.r) 27)):=((Below.refl _ w).alloc aH _).alloc (by simp) _;have e0:=aL w (.cells (aF (qm h0 tg)) 46) (.cells (V_ v.kind v.n v.s (.slice pa v.l.length c) v.r) 27);have e1:=aK w (.cells (aF (qm h0 tg)) 46) (.cells (V_ v.kind v.n v.s (.slice pa v.l.length c) v.r) 27);have H0:Hid (∀ w1,w1=((w.alloc (.cells (aF (qm h0 tg)) 46)).alloc (.cells (V_ v.kind v.n v.s (.slice pa v.l.length c) v.r) 27))->Bl w w1/\w1.heap[w.heap.size]? = some (.cells (aF (qm h0 tg)) 46 (0,0))/\w1.heap[w.heap.size+1]? = some (.cells (V_ v.kind v.n v.s (.slice pa v.l.length c) v.r) 27 (0,0))):=fun w1 e=>by subst e;exact⟨hb0,e0,e1⟩
 have HR:Hid (IsR w q N G):=hR
 have HA:Hid (∀ w',Bl w w'->Calls Tryz.prog 47 #[P_ q,J tg] w' fun e w''=>e=.returned (.tuple #[.agg (aF (dX h x vl0 fu)),.bool true])/\Bl w' w''):=fun w' hb=>by
  have:=fH (hR.below hb) hN.len tg (fun x hx=>(hN.cell x hx).1);rw [hA7,hat]at this;exact this
 have HL:Hid (∀ (w':World),Bl w w'->Calls Tryz.prog 108 #[P_ q,J tg,.agg (aF (dX h v (.slice pa v.l.length c) true))] w' (gG w' q N G tg (dX h v (.slice pa v.l.length c) true))):=fun w' hb =>
  rh (hR.below hb) hN hkeys hat hh v (.slice pa v.l.length c) (hv.on hb) hmv hwf hkn
 have HG:Hid (hJ tg (dX h x vl0 fu) v=if fu=true then (83,none)else (0,some (tg,dX h v vl0 true))):=rfl
 clear hR hN hkeys hat hh hv hmv hwf hkn hb0 e0 e1 hA7;obtain⟨vk,vn,vstr,vl,vr⟩:=v;simp only [au,bS]at H0 ⊢
 go_enter Tryz.func190,Tryz.ntmps190
 go_upto_region 1 with fail
 revert H0;generalize World.alloc _ _=w1;intro H0;have H0:Hid (_/\_):=H0.out w1 rfl;have k0:w1.cell? ⟨w.heap.size,0,none⟩=some (.int .u8 11):=by rw [ag H0.out.2.1];rfl
 have k6:w1.cell? ⟨w.heap.size,10,none⟩=some (.int .i64 tg):=by rw [ag H0.out.2.1];rfl
 obtain⟨P,hP⟩:∃ P,P=dX h x vl0 fu:=⟨_,rfl⟩;rw [<- hP]at HA hone;have HP:Hid (P=dX h x vl0 fu):=hP;clear hP;have HAc:Hid _:=HA.out w1 H0.out.1;clear HA
 go_wp2_with fail
 refine Calls.mono HAc.out ?_;rintro e w2 ⟨rfl,hb2⟩;obtain⟨w3,hst,hb3,hg3,-⟩:=bh w2 (aF P) rfl hone;have hb13:Bl w1 w3:=hb2.trans (hb3.mono hb2.size);have H3:Hid (Bl w w3/\w3.heap[w2.heap.size]? = some (.cells (aF P) 46 (0,0))/\w.heap.size+1<w2.heap.size):=⟨H0.out.1.trans (hb13.mono H0.out.1.size),hg3,Nat.lt_of_lt_of_le (aw H0.out.2.2) hb2.size⟩;have g0:=ae hb13 H0.out.2.1;have g1:=ae hb13 H0.out.2.2;have k13:w3.cell? ⟨w2.heap.size,13,none⟩=some (.bool fu):=by rw [ag hg3,HP.out];rfl
 have f13:=av hg3 13;have H01:Hid _:=And.intro g0 g1;clear hb2 hb3 hg3 hb13 g0 g1 HAc k0 k6 H0 hone
 cases fu with
 | true =>
   have HF:Hid (Give8Q w q N G 83 none (.returned (J 83)) w3):=Give8Q.no HR.out H3.out.1
   go_wp2_with fail
   go_ret
   rw [HG.out];exact HF.out
 | false =>
   have hg4:=aA H3.out.2.1 13 (.bool true);have hk4:Keeps (fun b=>b=w2.heap.size) w3 (w3.setCell ⟨w2.heap.size,13,none⟩ (.bool true)):=Keeps.setCell (S:=fun b=>b=w2.heap.size) w3 ⟨w2.heap.size,13,none⟩ _ rfl;obtain⟨w4,hw4⟩:∃ w4,w4=w3.setCell ⟨w2.heap.size,13,none⟩ (.bool true):=⟨_,rfl⟩;rw [<- hw4]at hg4 hk4;have hst5:=fE (i:=2) (vs:=#[U vk,J vn,.string vstr,.slice pa vl.length c,J vr]) hg4 rfl (by rw [HP.out];simp [aF]) (by simp [go_sem]);have hg5:=ah (c':=(((aF P).setIfInBounds 13 (.bool true)).toList.take 2 ++ ((V_ vk vn vstr (.slice pa vl.length c) vr):Array Value).toList ++ ((aF P).setIfInBounds 13 (.bool true)).toList.drop (2+5)).toArray) hg4;have hk5:=aQ w4 w2.heap.size (((aF P).setIfInBounds 13 (.bool true)).toList.take 2 ++ ((V_ vk vn vstr (.slice pa vl.length c) vr):Array Value).toList ++ ((aF P).setIfInBounds 13 (.bool true)).toList.drop (2+5)).toArray;obtain⟨w5,hw5⟩:∃ w5,w5=w4.setRow w2.heap.size (((aF P).setIfInBounds 13 (.bool true)).toList.take 2 ++ ((V_ vk vn vstr (.slice pa vl.length c) vr):Array Value).toList ++ ((aF P).setIfInBounds 13 (.bool true)).toList.drop (2+5)).toArray:=⟨_,rfl⟩;rw [<- hw5]at hst5 hg5 hk5;have hk35:Keeps (fun b=>b=w2.heap.size) w3 w5:=hk4.trans hk5 (fun _ _ h=>h) (fun _ _ h=>h);have H5:Hid (Bl w w5/\w5.heap[w2.heap.size]? = some (.cells (aF (dX h ⟨vk,vn,vstr,vl,vr⟩ (.slice pa vl.length c) true)) 46 (0,0))/\w5.heap[w.heap.size]? = _):=⟨H3.out.1.trans (hk35.below H3.out.1.size fun b hb=>by have:=H3.out.2.2;omega),by rw [hg5,HP.out];rfl,hk35.none H01.out.1 (by have:=H3.out.2.2;omega)⟩;have hld7:=aI (hk4.none H01.out.2 (by have:=H3.out.2.2;omega)) rfl;have k6:w5.cell? ⟨w.heap.size,10,none⟩=some (.int .i64 tg):=by rw [ag H5.out.2.2];rfl
   have hldW:=aD H5.out.2.1 rfl;have HLy:Hid _:=HL.out w5 H5.out.1;clear hg4 hg5 hk4 hk5 hk35 hw5 H01 H3 HL;simp only [aF]at hldW HLy
   go_upto_region 15 with fail
   rw [<- hw4];clear hw4 k13 f13
   go_wp2_with fail
   refine Calls.mono HLy.out ?_;rintro e w8 hL8;obtain rfl:=hL8.1;have HF0:Give8Q w q N G 0 (some (tg,dX h ⟨vk,vn,vstr,vl,vr⟩ vl0 true)) (.returned (J 0)) w8:=Give8Q.laid (t:=dX h ⟨vk,vn,vstr,vl,vr⟩ (.slice pa vl.length c) true) H5.out.1 hL8 ⟨vl0,S_,rfl⟩;have HF:Hid (Give8Q w q N G 0 (some (tg,dX h ⟨vk,vn,vstr,vl,vr⟩ vl0 true)) (.returned (J 0)) w8):=HF0;clear HF0 hL8 H5 HLy hldW HR
   go_wp2_with fail
   go_ret
   rw [HG.out];exact HF.out
end
section
def cS (a:Int):Bool:=a==1 || a==2 || a==4 || a==8 || a==16 || a==32
def bD (k:Int):Bool:=k==1 || k==2 || k==3 || k==4 || k==10 || k==11
theorem wo (w:World) (a:Int):Calls Tryz.prog 186 #[U a] w fun e w'=>e=.returned (.bool (cS a))/\w=w':=by
 by_cases h:a=1\/a=2\/a=4\/a=8\/a=16\/a=32
 ·rcases h with rfl | rfl | rfl | rfl | rfl | rfl
  all_goals
   go_enter Tryz.func186,Tryz.ntmps186
   go_wp2_with fail
   go_ret
   exact⟨rfl,rfl⟩
 ·simp only [not_or]at h;obtain⟨h1,h2,h4,h8,h16,h32⟩:=h;have b1:(a==1)=false:=by simpa using h1
  have b2:(a==2)=false:=by simpa using h2
  have b4:(a==4)=false:=by simpa using h4
  have b8:(a==8)=false:=by simpa using h8
  have b16:(a==16)=false:=by simpa using h16
  have b32:(a==32)=false:=by simpa using h32
  have hB:cS a=false:=by simp only [cS,b1,b2,b4,b8,b16,b32];rfl
  rw [hB];clear hB h1 h2 h4 h8 h16 h32
  go_enter Tryz.func186,Tryz.ntmps186
  go_wp2_with fail
  go_ret
  exact⟨rfl,rfl⟩
theorem ud (w:World) (a:Int):Calls Tryz.prog 94 #[U a] w fun e w'=>e=.returned (.bool (bD a))/\w=w':=by
 by_cases h:a=1\/a=2\/a=3\/a=4\/a=10\/a=11
 ·rcases h with rfl | rfl | rfl | rfl | rfl | rfl
  all_goals
   go_enter Tryz.func94,Tryz.ntmps94
   go_wp2_with fail
   go_ret
   exact⟨rfl,rfl⟩
 ·simp only [not_or]at h;obtain⟨h1,h2,h4,h8,h16,h32⟩:=h;have b1:(a==1)=false:=by simpa using h1
  have b2:(a==2)=false:=by simpa using h2
  have b4:(a==3)=false:=by simpa using h4
  have b8:(a==4)=false:=by simpa using h8
  have b16:(a==10)=false:=by simpa using h16
  have b32:(a==11)=false:=by simpa using h32
  have hB:bD a=false:=by simp only [bD,b1,b2,b4,b8,b16,b32];rfl
  rw [hB];clear hB h1 h2 h4 h8 h16 h32
  go_enter Tryz.func94,Tryz.ntmps94
  go_wp2_with fail
  go_ret
  exact⟨rfl,rfl⟩
end
section
theorem re:((List.range 256).all fun n=>!(bits BinOp.andNot IntKind.u8 (n:Int) 63==0 && wrap64 (Lib.pop8 (n:Int))==1) || cS n)=true:=by kernel_rfl
theorem sk {a:Int} (h0:0≤a/\a≤255) (h1:a.toNat<Lib.pop8tab.size) (hb:bits BinOp.andNot IntKind.u8 a 63=0) (hp:(!wrap64 (Lib.pop8tab[a.toNat].toNat:Int)==1)=false):cS a=true:=by
 have:=List.all_eq_true.1 re a.toNat (List.mem_range.2 (by omega));have e:((a.toNat:Nat):Int)=a:=by omega
 rw [e]at this
 have e2:Lib.pop8 a=(Lib.pop8tab[a.toNat].toNat:Int):=by
  unfold Lib.pop8;rw [getElem?_pos Lib.pop8tab a.toNat h1];rfl
 rw [e2]at this;simp only [Bool.not_eq_false']at hp
 simpa [hb,hp]using this
theorem sF (w:World) (a:Int) (ha:(Lit.int .u8 a).wf=true) (h1':cS a=false):Calls Tryz.prog 184 #[U a] w fun e w'=>e=.returned (.tuple #[J 0,J 2])/\Below w.heap.size w w':=by
 have hr:0≤a/\a<256:=by
  simp [Lit.wf,IntKind.min,IntKind.max,IntKind.signed,IntKind.bits]at ha;omega
 have s1:Lib.pop8tab.size=256:=by kernel_rfl
 have s2:Lib.ntz8tab.size=256:=by kernel_rfl
 have h1:0≤a/\a<(Lib.pop8tab.size:Int):=by rw [s1];exact hr
 have h2:a<(Lib.ntz8tab.size:Int):=by rw [s2];exact hr.2
 have h3:0≤a:=hr.1
 have H1:=(show Hid (∀ (h1:a.toNat<Lib.pop8tab.size),bits BinOp.andNot IntKind.u8 a 63=0->(!wrap64 (Lib.pop8tab[a.toNat].toNat:Int)==1)=false->False)from fun h hb hp=>by
  have:=sk ⟨hr.1,by omega⟩ h hb hp;rw [h1']at this
  cases this)
 clear hr s1 s2 ha h1'
 go_enter Tryz.func184,Tryz.ntmps184
 go_wp2
 ·go_ret2
  exact⟨rfl,by go_grown⟩
 ·exact(H1.out _ (by assumption) (by assumption)).elim
 ·go_ret2
  exact⟨rfl,by go_grown⟩
theorem rR (w:World):Calls Tryz.prog 184 #[U 16] w fun e w'=>e=.returned (.tuple #[J 4,J 0])/\Below w.heap.size w w':=by
 have hp:wrap64 (Lib.pop8 16)=1:=by kernel_rfl
 have hn:wrap64 (Lib.ntz8 16)=4:=by kernel_rfl
 go_enter Tryz.func184,Tryz.ntmps184
 go_wp2
 go_ret2
 exact⟨by simp [hn],by go_grown⟩
theorem si (w:World):Calls Tryz.prog 184 #[U 32] w fun e w'=>e=.returned (.tuple #[J 5,J 0])/\Below w.heap.size w w':=by
 have hp:wrap64 (Lib.pop8 32)=1:=by kernel_rfl
 have hn:wrap64 (Lib.ntz8 32)=5:=by kernel_rfl
 go_enter Tryz.func184,Tryz.ntmps184
 go_wp2
 go_ret2
 exact⟨by simp [hn],by go_grown⟩
def xg (w:World) (a:Int) (e:Ending) (w':World):Prop:=∃ n:Int,e=.returned (.tuple #[J n,J 0])/\Bl w w'/\(a=16\/a=32->4≤n)
theorem rN (w:World) {a:Int} (h:cS a=true):Calls Tryz.prog 184 #[U a] w (xg w a):=by
 have ha:a=1\/a=2\/a=4\/a=8\/a=16\/a=32:=by simpa [cS,or_assoc]using h
 rcases ha with rfl | rfl | rfl | rfl | rfl | rfl
 ·exact(nN w).mono fun e w' ⟨h1,h2⟩=>⟨0,h1,h2,fun h=>by omega⟩
 ·exact(ol w).mono fun e w' ⟨h1,h2⟩=>⟨1,h1,h2,fun h=>by omega⟩
 ·exact(nF w).mono fun e w' ⟨h1,h2⟩=>⟨2,h1,h2,fun h=>by omega⟩
 ·exact(mQ w).mono fun e w' ⟨h1,h2⟩=>⟨3,h1,h2,fun h=>by omega⟩
 ·exact(rR w).mono fun e w' ⟨h1,h2⟩=>⟨4,h1,h2,fun _=>by omega⟩
 ·exact(si w).mono fun e w' ⟨h1,h2⟩=>⟨5,h1,h2,fun _=>by omega⟩
end
section
variable {w:World}
end
section
variable {w:World}
theorem cN (w:World) (b:Nat) (v:Value) (n:Int) (ts:Array Value) {x0 x1 x2 x3 x4:Value} (h:w.heap[b]? = some (.cells #[x0,x1,x2,x3,x4] 27 (0,0))) (h2:ts[8]? = some (.pointer (some ⟨b,0,none⟩))) (h3:ts[9]? = some (.int .i64 n)) (hv:v=.agg #[x0,x1,x2,x3,x4]) :
 (results Tryz.f90 ts).run Tryz.prog w=.ok (.tuple #[v,J n]) w:=by
 obtain⟨⟨c0,c1,c2,c3,c4⟩,-⟩:=ax h;simp [results,Tryz.results90,go_sem,c0,c1,c2,c3,c4,h2,h3,hv]
end
section
def Aw (t:Th):Int × Int:=if bD t.kind=false then (0,80)else if t.kind=1\/t.kind=10/\t.full=true then (1,0)else ((t.vs.length:Int),0)
def gx (N:WM) (r:Int):Int × Int:=match N.at r with | none=>(0,5) | some t=>Aw t
theorem wh {w:World} {q:Nat} {N:WM} {G:Nat->Prop} (hR:IsR w q N G) (hN:ROk N) (r:Int) (hvs:∀ t,N.at r=some t->∃ p c,t.vals=.slice p t.vs.length c) :
 Calls Tryz.prog 20 #[P_ q,J r] w fun e w'=>e=.returned (.tuple #[J (gx N r).1,J (gx N r).2])/\Bl w w':=by
 have HA:Hid _:=fH hR hN.len r (fun x hx=>(hN.cell x hx).1);have hone:=hN.one r;obtain⟨P,hP⟩:∃ P,P=at7 N r:=⟨_,rfl⟩;rw [<- hP]at HA hone
 cases hat:N.at r with
 | none =>
   have hD:gx N r=(0,5):=by unfold gx;rw [hat]
   rw [hat]at HA;rw [hD];clear hR hN hvs hat hP hD
   go_enter Tryz.func20,Tryz.ntmps20
   go_wp2_with fail
   refine Calls.mono HA.out ?_;rintro e w1 ⟨rfl,hb1⟩;obtain⟨w2,hst,hb2,hg2,-⟩:=bh w1 (aF P) rfl hone;have HB2:Hid (Bl w w2):=hb1.trans (hb2.mono hb1.size);clear hb1 hb2 hg2 hone HA
   go_wp2_with fail
   exact bodyPost_ret (by simp [results,Tryz.results20,go_sem]) rfl ⟨rfl,HB2.out⟩
 | some t =>
   have hD:gx N r=Aw t:=by unfold gx;rw [hat]
   obtain⟨p,c,hvals⟩:=hvs t hat;have hPt:P=t:=by rw [hP];unfold at7;rw [hat];rfl
   subst hPt;rw [hat]at HA;rw [hD];clear hR hN hvs hat hP hD;have HV:Hid _:=hvals;clear hvals
   go_enter Tryz.func20,Tryz.ntmps20
   go_wp2_with fail
   refine Calls.mono HA.out ?_;rintro e w1 ⟨rfl,hb1⟩;obtain⟨w2,hst,hb2,hg2,-⟩:=bh w1 (aF P) rfl hone;have HB2:Hid (Bl w w2):=hb1.trans (hb2.mono hb1.size);have k0:w2.cell? ⟨w1.heap.size,0,none⟩=some (.int .u8 P.kind):=by rw [ag hg2];rfl
   have k7:w2.cell? ⟨w1.heap.size,7,none⟩=some (.slice p P.vs.length c):=by rw [ag hg2,← HV.out];rfl
   have k13:w2.cell? ⟨w1.heap.size,13,none⟩=some (.bool P.full):=by rw [ag hg2];rfl
   clear hb1 hb2 hg2 hone HA HV
   go_wp2_with fail
   refine(ud w2 P.kind).mono ?_;rintro e _ ⟨rfl,rfl⟩;clear hst
   by_cases h:P.kind=1\/P.kind=2\/P.kind=3\/P.kind=4\/P.kind=10\/P.kind=11
   ·cases hf:P.full <;> rcases h with h | h | h | h | h | h
    all_goals
     have HT:Hid (Aw P=if P.kind=1\/P.kind=10/\P.full=true then (1,0)else ((P.vs.length:Int),0)):=by show _=_;unfold Aw;rw [if_neg (by rw [h];decide)]
     rw [h,hf]at HT;rw [hf]at k13;rw [h]at k0 ⊢;clear h hf
     go_wp2_with fail
     exact bodyPost_ret (by simp [results,Tryz.results20,go_sem];rfl) rfl ⟨by rw [HT.out];rfl,HB2.out⟩
   ·have hB:bD P.kind=false:=by
     simp only [not_or]at h;obtain⟨h1,h2,h4,h8,h16,h32⟩:=h;simp [bD,h1,h2,h4,h8,h16,h32]
    have HT:Hid (Aw P=(0,80)):=by show _=_;unfold Aw;rw [if_pos hB]
    rw [hB];clear hB h
    go_wp2_with fail
    exact bodyPost_ret (by simp [results,Tryz.results20,go_sem];rfl) rfl ⟨by rw [HT.out],HB2.out⟩
end
end Go.Proofs.YthaliljaglldjaaGreat
