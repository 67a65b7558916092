/- Part of the proof. -/
import Derived.Test.YthaliljaglldjaaGreatmBB
namespace Go.Proofs.YthaliljaglldjaaGreat
set_option maxHeartbeats 16000000
set_option maxRecDepth 20000
open Go.RowKit Go.ChangeMaps Go.MapKept
section
theorem qQ (w:World) (sides:Int) (h:Int) (hh:0≤h/\h<sides) {F:Nat->Prop} (v:Val) (pv:Option Addr) (cv:Nat) (hv:SlAt w F (.slice pv v.l.length cv) v.l) (hwf:v.wf) (hmay:ay v=true) :
 Calls Tryz.prog 81 #[.agg (X_ 1 h v.kind v.n v.s (.slice pv v.l.length cv) v.r (S_) 0 0 0 0 0 false),J sides] w fun e w'=>e=.returned (.bool true)/\Bl w w':=by
 have HM:Hid (∀ w',Bl w w'->Calls Tryz.prog 174 #[.agg (V_ v.kind v.n v.s (.slice pv v.l.length cv) v.r)] w' fun e w''=>e=.returned (.bool true)/\Bl w' w''):=fun w' hb=>by have h:=Ar hwf (hv.on hb);rw [hmay]at h;exact h
 have HS:Hid (∀ w',Bl w w'->Calls Tryz.prog 178 #[.agg (V_ v.kind v.n v.s (.slice pv v.l.length cv) v.r),.agg (V_ v.kind v.n v.s (.slice pv v.l.length cv) v.r)] w' fun e w''=>e=.returned (.bool true)/\Bl w' w''):=fun w' hb=>(iO v hwf v (.slice pv v.l.length cv) (.slice pv v.l.length cv) w' F F (hv.on hb) (hv.on hb)).mono fun e w'' ⟨B,h1,h2,h3⟩=>by rw [h2.2 rfl]at h1;exact⟨h1,h3⟩
 obtain⟨vk,vn,vstr,vl,vr⟩:=v;clear hv hwf hmay;simp only at HM HS ⊢;have hh1:¬ h<0:=by omega
 have hh2:¬ h ≥ sides:=by omega
 clear hh;have H5:Hid _:=cV w (X_ 1 h vk vn vstr (.slice pv vl.length cv) vr (S_) 0 0 0 0 0 false) (X_ 1 h vk vn vstr (.slice pv vl.length cv) vr (S_) 0 0 0 0 0 false)
 go_enter Tryz.func81,Tryz.ntmps81
 go_upto_region 51 with fail
 have H5:Hid (_/\_/\_):=H5.out _ (.inl rfl);revert H5;generalize World.alloc (World.alloc w _) _=w5;intro H5;have aa:=aq H5.out.2.1;have bb:=aq H5.out.2.2
 go_wp2_with fail
 refine Calls.mono (HM.out w5 H5.out.1) ?_;rintro e w6 ⟨rfl,hb6⟩;have H6:Hid (Bl w w6/\_/\_):=⟨H5.out.1.trans (hb6.mono H5.out.1.size),ae hb6 H5.out.2.1,ae hb6 H5.out.2.2⟩;clear hb6 H5;clear aa bb;have aa:=aq H6.out.2.1;have bb:=aq H6.out.2.2
 go_wp2_with fail
 refine Calls.mono (HS.out w6 H6.out.1) ?_;rintro e w7 ⟨rfl,hb7⟩;have H7:Hid (Bl w w7/\_/\_):=⟨H6.out.1.trans (hb7.mono H6.out.1.size),ae hb7 H6.out.2.1,ae hb7 H6.out.2.2⟩;clear hb7 H6;clear aa bb;have aa:=aq H7.out.2.1;have bb:=aq H7.out.2.2
 go_wp2_with fail
 go_ret
 exact⟨rfl,H7.out.1⟩
end
section
theorem Ae {k:Int} (hk:k=2\/k=4) (w:World) (sides:Int) (h:Int) (hh:0≤h/\h<sides) {F:Nat->Prop} (vs:List Val) (ps:Option Addr) (cs:Nat) (hv:SlAt w F (.slice ps vs.length cs) vs) (hwf:(aJ vs).wf) (hmay:ay (aJ vs)=true) (hlen:vs.length≤512) :
 Calls Tryz.prog 81 #[.agg (X_ k h 0 0 ⟨#[]⟩ (S_) 0 (.slice ps vs.length cs) 0 0 0 0 0 false),J sides] w fun e w'=>e=.returned (.bool true)/\Bl w w':=by
 have HM:Hid (∀ w',Bl w w'->Calls Tryz.prog 174 #[.agg (V_ 3 0 ⟨#[]⟩ (.slice ps vs.length cs) 0)] w' fun e w''=>e=.returned (.bool true)/\Bl w' w''):=fun w' hb=>by have h:=Ar (v:=aJ vs) hwf (hv.on hb);rw [hmay]at h;exact h
 have hlz:¬ (vs.length:Int) > 512:=by omega
 clear hv hwf hmay hlen;have hh1:¬ h<0:=by omega
 have hh2:¬ h ≥ sides:=by omega
 clear hh;have H5:Hid _:=cV w (X_ k h 0 0 ⟨#[]⟩ (S_) 0 (.slice ps vs.length cs) 0 0 0 0 0 false) (wr k h 0 0 0 0 0 0 0 false)
 rcases hk with rfl | rfl
 all_goals
  go_enter Tryz.func81,Tryz.ntmps81
  have HB0:Hid (Bl w ((w.alloc (.cells (X_ _ h 0 0 ⟨#[]⟩ (S_) 0 (.slice ps vs.length cs) 0 0 0 0 0 false) 46)).alloc (.cells (wr _ h 0 0 0 0 0 0 0 false) 46))):=(H5.out _ (.inl rfl)).1;have HC0:Hid (_/\_):=(H5.out _ (.inl rfl)).2
  go_upto_region 16 with fail
  revert HB0 HC0;generalize World.alloc (World.alloc w _) _=w3;intro HB0 HC0;have aa:=aq HC0.out.1
  go_wp2_with fail
  refine(iR w3 ps vs.length cs).mono ?_;rintro e w4 ⟨rfl,hb4⟩;have HB4:Hid (Bl w w4):=HB0.out.trans (hb4.mono HB0.out.size);have HC4:Hid (_/\_):=And.intro (ae hb4 HC0.out.1) (ae hb4 HC0.out.2);clear hb4 HB0 HC0 aa
  go_wp2_with fail
  refine Calls.mono (HM.out w4 HB4.out) ?_;rintro e w5 ⟨rfl,hb5⟩;have H6:Hid (Bl w w5/\_/\_):=⟨HB4.out.trans (hb5.mono HB4.out.size),ae hb5 HC4.out.1,ae hb5 HC4.out.2⟩;clear hb5 HB4 HC4 H5;have H5:=H6;clear H6
  go_upto_region 51 with fail
  have aa:=aq H5.out.2.1;have bb:=aq H5.out.2.2
  go_wp2_with fail
  refine(dP w5).mono ?_;rintro e w6 ⟨rfl,hb6⟩;have H6:Hid (Bl w w6/\_/\_):=⟨H5.out.1.trans (hb6.mono H5.out.1.size),ae hb6 H5.out.2.1,ae hb6 H5.out.2.2⟩;clear hb6 H5;clear aa bb;have aa:=aq H6.out.2.1;have bb:=aq H6.out.2.2
  go_wp2_with fail
  refine(dk w6).mono ?_;rintro e w7 ⟨rfl,hb7⟩;have H7:Hid (Bl w w7/\_/\_):=⟨H6.out.1.trans (hb7.mono H6.out.1.size),ae hb7 H6.out.2.1,ae hb7 H6.out.2.2⟩;clear hb7 H6;clear aa bb;have aa:=aq H7.out.2.1;have bb:=aq H7.out.2.2
  go_wp2_with fail
  go_ret
  exact⟨rfl,H7.out.1⟩
end
section
theorem qR (w:World) (sides:Int) (h:Int) (hh:0≤h/\h<sides) (n:Int) (hn:0≤n/\n≤9007199254740992) :
 Calls Tryz.prog 81 #[.agg (wr 3 h 0 0 n 0 0 0 0 false),J sides] w fun e w'=>e=.returned (.bool true)/\Bl w w':=by
 have hh1:¬ h<0:=by omega
 have hh2:¬ h ≥ sides:=by omega
 clear hh;have hn1:¬ n<0:=by omega
 have hn2:¬ n > 9007199254740992:=by omega
 clear hn;have H5:Hid _:=cV w (wr 3 h 0 0 n 0 0 0 0 false) (wr 3 h 0 0 n 0 0 0 0 false)
 go_enter Tryz.func81,Tryz.ntmps81
 go_upto_region 51 with fail
 have H5:Hid (_/\_/\_):=H5.out _ (.inl rfl);revert H5;generalize World.alloc (World.alloc w _) _=w5;intro H5;have aa:=aq H5.out.2.1;have bb:=aq H5.out.2.2
 go_wp2_with fail
 refine(dP w5).mono ?_;rintro e w6 ⟨rfl,hb6⟩;have H6:Hid (Bl w w6/\_/\_):=⟨H5.out.1.trans (hb6.mono H5.out.1.size),ae hb6 H5.out.2.1,ae hb6 H5.out.2.2⟩;clear hb6 H5;clear aa bb;have aa:=aq H6.out.2.1;have bb:=aq H6.out.2.2
 go_wp2_with fail
 refine(dk w6).mono ?_;rintro e w7 ⟨rfl,hb7⟩;have H7:Hid (Bl w w7/\_/\_):=⟨H6.out.1.trans (hb7.mono H6.out.1.size),ae hb7 H6.out.2.1,ae hb7 H6.out.2.2⟩;clear hb7 H6;clear aa bb;have aa:=aq H7.out.2.1;have bb:=aq H7.out.2.2
 go_wp2_with fail
 go_ret
 exact⟨rfl,H7.out.1⟩
end
section
theorem sm (w:World) (sides:Int) (h:Int) (hh:0≤h/\h<sides) {F:Nat->Prop} (v:Val) (pv:Option Addr) (cv:Nat) (hv:SlAt w F (.slice pv v.l.length cv) v.l) (hwf:v.wf) (hmay:ay v=true) :
 Calls Tryz.prog 81 #[.agg (X_ 10 h v.kind v.n v.s (.slice pv v.l.length cv) v.r (S_) 0 0 0 0 0 true),J sides] w fun e w'=>e=.returned (.bool true)/\Bl w w':=by
 have HM:Hid (∀ w',Bl w w'->Calls Tryz.prog 174 #[.agg (V_ v.kind v.n v.s (.slice pv v.l.length cv) v.r)] w' fun e w''=>e=.returned (.bool true)/\Bl w' w''):=fun w' hb=>by have h:=Ar hwf (hv.on hb);rw [hmay]at h;exact h
 have HS:Hid (∀ w',Bl w w'->Calls Tryz.prog 178 #[.agg (V_ v.kind v.n v.s (.slice pv v.l.length cv) v.r),.agg (V_ v.kind v.n v.s (.slice pv v.l.length cv) v.r)] w' fun e w''=>e=.returned (.bool true)/\Bl w' w''):=fun w' hb=>(iO v hwf v (.slice pv v.l.length cv) (.slice pv v.l.length cv) w' F F (hv.on hb) (hv.on hb)).mono fun e w'' ⟨B,h1,h2,h3⟩=>by rw [h2.2 rfl]at h1;exact⟨h1,h3⟩
 obtain⟨vk,vn,vstr,vl,vr⟩:=v;clear hv hwf hmay;simp only at HM HS ⊢;have hh1:¬ h<0:=by omega
 have hh2:¬ h ≥ sides:=by omega
 clear hh;have H5:Hid _:=cV w (X_ 10 h vk vn vstr (.slice pv vl.length cv) vr (S_) 0 0 0 0 0 true) (X_ 10 h vk vn vstr (.slice pv vl.length cv) vr (S_) 0 0 0 0 0 true)
 go_enter Tryz.func81,Tryz.ntmps81
 go_upto_region 32 with fail
 go_cut [] (fun wx=>Hid (Bl w wx/\wx.heap[w.heap.size]? = some (.cells (X_ 10 h vk vn vstr (.slice pv vl.length cv) vr (S_) 0 0 0 0 0 true) 46 (0,0))/\wx.heap[w.heap.size+1]? = some (.cells (X_ 10 h vk vn vstr (.slice pv vl.length cv) vr (S_) 0 0 0 0 0 true) 46 (0,0))))
 case first =>
  go_region
  all_goals
   go_wp2_with fail
   go_meet
   case rel=>first | exact H5.out _ (.inr rfl) | exact H5.out _ (.inl rfl)
 have H5:=hcut;clear hcut;generalize wc=w5 at *;have aa:=aq H5.out.2.1;have bb:=aq H5.out.2.2
 go_upto_region 51 with fail
 clear aa bb;have aa:=aq H5.out.2.1;have bb:=aq H5.out.2.2
 go_wp2_with fail
 refine Calls.mono (HM.out w5 H5.out.1) ?_;rintro e w6 ⟨rfl,hb6⟩;have H6:Hid (Bl w w6/\_/\_):=⟨H5.out.1.trans (hb6.mono H5.out.1.size),ae hb6 H5.out.2.1,ae hb6 H5.out.2.2⟩;clear hb6 H5;clear aa bb;have aa:=aq H6.out.2.1;have bb:=aq H6.out.2.2
 go_wp2_with fail
 refine Calls.mono (HS.out w6 H6.out.1) ?_;rintro e w7 ⟨rfl,hb7⟩;have H7:Hid (Bl w w7/\_/\_):=⟨H6.out.1.trans (hb7.mono H6.out.1.size),ae hb7 H6.out.2.1,ae hb7 H6.out.2.2⟩;clear hb7 H6;clear aa bb;have aa:=aq H7.out.2.1;have bb:=aq H7.out.2.2
 go_wp2_with fail
 go_ret
 exact⟨rfl,H7.out.1⟩
end
section
variable {w:World} {q:Nat} {N:WM} {G F:Nat->Prop}
theorem dl {vs:List Val} (hm:ay (aJ vs)=true):aM (aJ vs)=vs.flatMap (aN 15):=by
 rw [refsV_of hm];show (if (3:Int)=4 then [(0:Int)]else []) ++ vs.flatMap (aN 15)=_
 rw [if_neg (by decide),List.nil_append]
theorem gK {v:Val} (hk:knownB N v=true):∀ x ∈ aM v,(N.at x).isSome=true:=fun x hx=>List.all_eq_true.1 hk x hx
def jC (v:Value):Prop:=v=.slice none 0 0\/∃ ad m c,v=.slice (some ad) m c
theorem sW (hR:IsR w q N G) (hN:ROk N) (hkeys:N.things.Pairwise fun a b=>a.1<b.1) {k:Int} (hk:k=2\/k=4) {r h:Int} {vs0:List Val} {vals0:Value} (hat:N.at r=some (qT k h vs0 vals0)) (hh:0≤h/\h<N.made.length)
 (vs:List Val) (vals:Value) (hS:SlAt w F vals vs) (hnil:vs = []->jC vals) (hm:ay (aJ vs)=true) (hms:∀ x ∈ vs,ay x=true) (hwf:(aJ vs).wf) (hkn:knownB N (aJ vs)=true) :
 Calls Tryz.prog 108 #[P_ q,J r,.agg (aF (qT k h vs vals))] w (gG w q N G r (qT k h vs vals)):=by
 have h511:=(dz vs).1 hm;obtain⟨hlen,q0,hq0⟩:=h511
 have hform:∀ w',Bl w w'->Calls Tryz.prog 81 #[.agg (aF (qT k h vs vals)),J N.made.length] w' fun e w''=>e=.returned (.bool true)/\Bl w' w'':=fun w' hb=>by
  obtain⟨ps,cs,e⟩:=hS.form;rw [e]at hS ⊢
  rcases hk with rfl | rfl
  ·exact Ae (.inl rfl) w' N.made.length h hh vs ps cs (hS.on hb) hwf hm (by omega)
  ·exact Ae (.inr rfl) w' N.made.length h hh vs ps cs (hS.on hb) hwf hm (by omega)
 have hrs:=dl hm
 have hr0:((qT k h vs vals).v :: (qT k h vs vals).vs).flatMap (aN 15)=vs.flatMap (aN 15):=by
  rw [List.flatMap_cons];rfl
 have hle:(vs.flatMap (aN 15)).length≤512:=by rw [<- hrs];exact bW _
 refine lR (F:=F) hR hN hkeys hat (x:=qT k h vs vals) ⟨rfl,rfl,rfl,rfl,rfl,fun e=>e⟩ (SlAt.nil _ _ _ _) hS rfl rfl (dW rfl) (fun v hv=>bA (hms v hv)) (by show vs.length≤1000;omega) hform (vs.flatMap (aN 15)) (by omega) (fun w' hb=>?_) (fun x hx=>gK hkn x (by rw [hrs];exact hx));have:=tD (w:=w') (F:=F) (n:=15) (qT k h vs vals) (SlAt.nil _ _ _ _) (hS.on hb) hnil rfl (by show vs.length≤1000;omega) (fun x hx=>?_) (by rw [hr0];omega)
 ·rw [hr0]at this;exact this
 ·rcases List.mem_cons.1 hx with rfl | hx
  ·exact⟨512,511,aH,rfl⟩
  ·obtain⟨p',q',h1,h2⟩:=dR hq0 x hx;exact⟨p',q',by omega,h2⟩
theorem rV (hR:IsR w q N G) (hN:ROk N) (hkeys:N.things.Pairwise fun a b=>a.1<b.1) {r h:Int} {v0:Val} {raw0:Value} (hat:N.at r=some (bn h v0 raw0)) (hh:0≤h/\h<N.made.length)
 (v:Val) (raw:Value) (hS:SlAt w F raw v.l) (hm:ay v=true) (hwf:v.wf) (hkn:knownB N v=true) :
 Calls Tryz.prog 108 #[P_ q,J r,.agg (aF (bn h v raw))] w (gG w q N G r (bn h v raw)):=by
 obtain⟨q0,hq0⟩:=dJ hm;refine lR (F:=F) hR hN hkeys hat (x:=bn h v raw) ⟨rfl,rfl,rfl,rfl,rfl,fun e=>e⟩ hS (SlAt.nil _ _ _ _) rfl rfl (bA hm) (fun v hv=>by cases hv) (Nat.zero_le _) (fun w' hb=>?_) (aM v) (by have:=bW v;omega) (fun w' hb=>?_) (gK hkn)
 ·obtain⟨ps,cs,e⟩:=hS.form;rw [e]at hS ⊢;exact qQ w' N.made.length h hh v ps cs (hS.on hb) hwf hm
 ·rw [refsV_of hm];exact di (n:=16) (bn h v raw) (hS.on hb) rfl rfl (Nat.le_refl 512) hq0
theorem rh (hR:IsR w q N G) (hN:ROk N) (hkeys:N.things.Pairwise fun a b=>a.1<b.1) {r h:Int} {v0:Val} {raw0:Value} {fu:Bool} (hat:N.at r=some (dX h v0 raw0 fu)) (hh:0≤h/\h<N.made.length)
 (v:Val) (raw:Value) (hS:SlAt w F raw v.l) (hm:ay v=true) (hwf:v.wf) (hkn:knownB N v=true) :
 Calls Tryz.prog 108 #[P_ q,J r,.agg (aF (dX h v raw true))] w (gG w q N G r (dX h v raw true)):=by
 obtain⟨q0,hq0⟩:=dJ hm;refine lR (F:=F) hR hN hkeys hat (x:=dX h v raw true) ⟨rfl,rfl,rfl,rfl,rfl,fun _=>rfl⟩ hS (SlAt.nil _ _ _ _) rfl rfl (bA hm) (fun v hv=>by cases hv) (Nat.zero_le _) (fun w' hb=>?_) (aM v) (by have:=bW v;omega) (fun w' hb=>?_) (gK hkn)
 ·obtain⟨ps,cs,e⟩:=hS.form;rw [e]at hS ⊢;exact sm w' N.made.length h hh v ps cs (hS.on hb) hwf hm
 ·rw [refsV_of hm];exact di (n:=16) (dX h v raw true) (hS.on hb) rfl rfl (Nat.le_refl 512) hq0
theorem pk (hR:IsR w q N G) (hN:ROk N) (hkeys:N.things.Pairwise fun a b=>a.1<b.1) {r h n0:Int} (hat:N.at r=some (lt 3 h 0 0 n0 0 0 0 0 false)) (hh:0≤h/\h<N.made.length) (n:Int) (hn:0≤n/\n≤9007199254740992) :
 Calls Tryz.prog 108 #[P_ q,J r,.agg (aF (lt 3 h 0 0 n 0 0 0 0 false))] w (gG w q N G r (lt 3 h 0 0 n 0 0 0 0 false)) :=
 lR (F:=fun _=>False) hR hN hkeys hat (x:=lt 3 h 0 0 n 0 0 0 0 false) ⟨rfl,rfl,rfl,rfl,rfl,fun e=>e⟩ (SlAt.nil _ _ _ _) (SlAt.nil _ _ _ _) rfl rfl (bA (by rfl)) (fun x hx=>by cases hx) (Nat.zero_le _)
  (fun w' hb=>qR w' N.made.length h hh n hn) [] (Nat.zero_le _) (fun w' hb=>di (n:=16) (lt 3 h 0 0 n 0 0 0 0 false) (F:=fun _=>False) (SlAt.nil _ _ _ _) rfl rfl (Nat.le_refl 512) (q:=511) rfl) (fun x hx=>by cases hx)
end
section
theorem nY {w:World} {o:Oper} {a:Act} {K:Act->World->Prop} {Q:Exit->Act->World->Prop} (s x:Operand)
 (ho:o.op=.call { callee:=.builtin .append,args:=#[s,x],argTypes:=#[24,24] }) (base:Nat)
 (u:Value) (l:List Val) (hs:a.eval s=u) (hown:RowV w base u l) (y:Val) (raw:Value) {g c:Nat} (hx:a.eval x=.slice (some ⟨g,0,none⟩) 1 c) (hg:w.heap[g]? = some (.cells (au y raw) 27 (0,0)))
 (hy:SlAt w (fun b=>base≤b/\u.ownBlock≠some b) raw y.l) (hn:l.length≤1000) (hbase:base≤w.heap.size)
 (h:∀ v' w',RowV w' base v' (l ++ [y])->Keeps (fun b=>u.ownBlock=some b) w w'->v'.ownBlock=u.ownBlock\/v'.ownBlock=some w.heap.size->K (a.put o.dst v') w'):o.wp Tryz.prog a w K Q:=by
 obtain⟨i,hi,hz,h1,h2⟩:=info_parts de;obtain⟨rw0,hrow,hel⟩:=hown;obtain⟨p,pc,e⟩:=hy.form
 have hone:∀ t ∈ (au y raw).toList,t.oneCell'=true:=by
  intro t ht;rw [e]at ht;simp [au]at ht
  rcases ht with rfl | rfl | rfl | rfl | rfl <;> rfl
 refine cD s x 24 ho base 27 i (.agg zV) 5 64 Tryz.underlying24 hi hz h1 h2 rfl (by decide) u l.length _ hs hrow ⟨g,0,none⟩ 1 c (au y raw).toList hx (by simp [au]) (fun j t hj=>by
  rw [Addr.add_lit,Nat.zero_add,ag hg]
  simpa using hj) hone (by unfold maxLen;omega) (by omega) hbase ?_
 intro v' w' r1 r2 r4;have hk:Keeps (fun b=>u.ownBlock=some b) w w':=⟨r2.os,r2.tape,r2.output,r2.size,fun k hk hne=>r2.block k hk (fun e=>hne e.symm)⟩;refine h v' w' ⟨fun k=>if k<l.length then rw0 k else raw,?_,fun k v hv=>?_⟩ hk r4
 ·rw [fL,List.length_append];exact r1
 ·have keep:∀ {rv:Value} {vl:List Val},SlAt w (fun b=>base≤b/\u.ownBlock≠some b) rv vl->SlAt w' (fun b=>base≤b/\v'.ownBlock≠some b) rv vl:=fun hS =>
   ((SlAt.lt hS).keeps hk (fun b h1 h2=>h2.1.2 h1)).mono fun b hb=>⟨hb.1.1,fun e'=>by
     rcases r4 with r4 | r4
     ·exact hb.1.2 (r4 ▸ e')
     ·rw [r4]at e';simp at e';have:=hb.2
      omega⟩
  show SlAt w' _ (if k<l.length then rw0 k else raw) v.l
  by_cases hkl:k<l.length
  ·rw [if_pos hkl];rw [List.getElem?_append_left hkl]at hv;exact keep (hel k v hv)
  ·rw [if_neg hkl]
   have:k=l.length:=by
    have:=ji hv;simp at this;omega
   subst this;simp at hv;subst hv;exact keep hy
theorem mN:bX 5 27 1 bp:=fun _ _ _ _ _=>rfl
theorem mF:bX 25 27 3 bp:=fun _ _ _ _ _=>rfl
theorem nW (w:World) (b:Nat) (v:Value) (ts:Array Value) {x0 x1 x2 x3 x4:Value} (h:w.heap[b]? = some (.cells #[x0,x1,x2,x3,x4] 27 (0,0))) (h2:ts[2]? = some (.pointer (some ⟨b,0,none⟩))) (hv:v=.agg #[x0,x1,x2,x3,x4]) :
 (results Tryz.f248 ts).run Tryz.prog w=.ok v w:=by
 obtain⟨⟨c0,c1,c2,c3,c4⟩,-⟩:=ax h;simp [results,Tryz.results248,go_sem,c0,c1,c2,c3,c4,h2,hv]
theorem RowV.keeps {w w':World} {S:Nat->Prop} {base:Nat} {u:Value} {l:List Val} (h:RowV w base u l) (hk:Keeps S w w') (hS:∀ b,S b->base≤b->False):RowV w' base u l:=by
 obtain⟨raw,⟨h1,h2⟩,h3⟩:=h;exact⟨raw,⟨h1,h2.imp id fun⟨g,cap,cur,e1,e2,e3,e4⟩=>⟨g,cap,cur,e1,e2,hk.none e3 (fun e=>hS g e e2),e4⟩⟩,fun i v hv=>(h3 i v hv).keeps hk fun b hb hF=>hS b hb hF.1⟩
def xw (n:Nat):Prop:=∀ (v:Val) (raw:Value) (w:World) (F:Nat->Prop),bY n v->SlAt w F raw v.l->Calls Tryz.prog 248 #[.agg (au v raw)] w (dE w v)
structure R2oR (w:World) (kind nn:Int) (s:ByteArray) (raw:Value) (r:Int) (u:Value) (l:List Val) (wr:World):Prop where
 bel:Bl w wr
 box:wr.heap[w.heap.size]? = some (.cells (V_ kind nn s raw r) 27 (0,0))
 res:wr.heap[w.heap.size+1]? = some (.cells zV 27 (0,0))
 out:wr.heap[w.heap.size+1+1]? = some (.cells (V_ kind nn s u r) 27 (0,0))
 row:RowV wr (w.heap.size+3) u l
 nil:l = []->u=.slice none 0 0
def yy (B:Nat) (wr:World) (u:Value) (l:List Val) (y:Val) (v:Value) (wx:World):Prop :=
 RowV wx B v (l ++ [y])/\Keeps (fun b=>u.ownBlock=some b) wr wx
theorem R2oR.next {w wr w7:World} {kind nn r:Int} {s:ByteArray} {raw u v:Value} {l:List Val} {y:Val} (h:R2oR w kind nn s raw r u l wr) (hA:yy (w.heap.size+3) wr u l y v w7):R2oR w kind nn s raw r v (l ++ [y]) (w7.setCell ⟨w.heap.size+1+1,3,none⟩ v):=by
 obtain⟨hrow,hk⟩:=hA;have hs:=aw h.out;have hout:=hk.none h.out (fun e=>by have:=(h.row.own _ e).1;omega);have hk2:Keeps (fun b=>b=w.heap.size+1+1) w7 (w7.setCell ⟨w.heap.size+1+1,3,none⟩ v):=Keeps.setCell (S:=fun b=>b=w.heap.size+1+1) w7 ⟨w.heap.size+1+1,3,none⟩ _ rfl;refine⟨h.bel.trans (hk.below h.bel.size fun b hb=>by have:=(h.row.own b hb).1;omega) |>.trans (hk2.below (Nat.le_trans h.bel.size hk.size) fun b hb=>by omega),?_,?_,?_,?_,fun e=>by simp at e⟩
 ·exact hk2.none (hk.none h.box (fun e=>by have:=(h.row.own _ e).1;omega)) (by omega)
 ·exact hk2.none (hk.none h.res (fun e=>by have:=(h.row.own _ e).1;omega)) (by omega)
 ·rw [aA hout];rfl
 ·exact hrow.keeps hk2 (fun b h1 h2=>by omega)
theorem jR:bX 20 27 19 bp:=fun _ _ _ _ _=>rfl
def OwP (B1 B3 b o c ln i:Nat) (u uq:Value) (yk yn yr:Int) (ys:ByteArray) (yl:List Val) (wr:World) (xs:List Val) (p:Bool) (j:Nat) (v:Value) (wx:World):Prop :=
 match j with
 | 0=>v=R_ B3 3
 | 1=>v=u
 | 2=>v=R_ B1 3
 | 3=>v=.slice (some ⟨b,o,none⟩) ln c
 | 4=>v=J i
 | 5=>v=R_ b (o+i * 5)
 | 6=>v=.agg (V_ yk yn ys uq yr)
 | 7=>p=false->(∃ raw',v=.agg (au ⟨yk,yn,ys,yl,yr⟩ raw')/\SlAt wx (fun b=>wr.heap.size≤b) raw' yl)
 | 8=>p=false->(∃ g raw',v=.slice (some ⟨g,0,none⟩) 1 1/\wx.heap[g]? = some (.cells (au ⟨yk,yn,ys,yl,yr⟩ raw') 27 (0,0))/\SlAt wx (fun b=>wr.heap.size≤b) raw' yl)
 | 9=>p=true->yy (B1+3) wr u xs ⟨yk,yn,ys,yl,yr⟩ v wx
 | 10=>v=R_ B3 3
 | _=>True
theorem OwP.stab {B1 B3 b o c ln i:Nat} {u uq:Value} {yk yn yr:Int} {ys:ByteArray} {yl:List Val} {wr:World} {xs:List Val}:∀ (j:Nat) (v:Value) (w w':World),Bl w w'->OwP B1 B3 b o c ln i u uq yk yn yr ys yl wr xs false j v w->OwP B1 B3 b o c ln i u uq yk yn yr ys yl wr xs false j v w':=by
 intro j v w w' hR h;unfold OwP at h ⊢;split at h
 ·exact h
 ·exact h
 ·exact h
 ·exact h
 ·exact h
 ·exact h
 ·exact h
 ·intro _;have h:=h rfl;exact h.imp fun _ h=>⟨h.1,h.2.on hR⟩
 ·intro _;have h:=h rfl;exact h.imp fun _ h=>h.imp fun _ h=>⟨h.1,ae hR h.2.1,h.2.2.on hR⟩
 ·exact fun e=>by cases e
 ·exact h
 ·trivial
theorem OwP.turn {B1 B3 b o c ln i:Nat} {u uq:Value} {yk yn yr:Int} {ys:ByteArray} {yl:List Val} {wr:World} {xs:List Val}:∀ (j:Nat) (v:Value) (w w':World),j≠9->OwP B1 B3 b o c ln i u uq yk yn yr ys yl wr xs false j v w->OwP B1 B3 b o c ln i u uq yk yn yr ys yl wr xs true j v w':=by
 intro j v w w' hne h;unfold OwP at h ⊢;split at h
 ·exact h
 ·exact h
 ·exact h
 ·exact h
 ·exact h
 ·exact h
 ·exact h
 ·exact fun e=>by cases e
 ·exact fun e=>by cases e
 ·exact absurd rfl hne
 ·exact h
 ·trivial
attribute [local go_sem ↓] mN mF aW in
theorem mY (n:Nat) (ih:∀ m,n=m+1->xw m):xw n:=by
 intro v raw w F hd hS;obtain⟨pa,c,rfl⟩:=hS.form;obtain⟨kind,nn,s,l,r⟩:=v
 have hlen:l.length≤512:=by
  cases n with
  | zero=>rw [show l = []from hd];simp
  | succ m=>exact hd.1
 have hrec:∀ x ∈ l,∀ raw w F,SlAt w F raw x.l->Calls Tryz.prog 248 #[.agg (au x raw)] w (dE w x):=fun x hx raw w F h=>by
  cases n with
  | zero=>rw [show l = []from hd]at hx;cases hx
  | succ m=>exact ih m rfl x raw w F (hd.2 x hx) h
 have HS:Hid (∀ w',Bl w w'->SlAt w' F (.slice pa l.length c) l):=fun w' hb=>hS.on hb;have IH:Hid _:=hrec;have HL:Hid (l.length≤512):=hlen;have hld5:(bp (P_ w.heap.size)).run Tryz.prog ((w.alloc (.cells (V_ kind nn s (.slice pa l.length c) r) 27)).alloc (.cells zV 27))=.ok (.value (.agg (V_ kind nn s (.slice pa l.length c) r))) _:=aI (aL w _ _) rfl;have h4:=ai ((w.alloc (.cells (V_ kind nn s (.slice pa l.length c) r) 27)).alloc (.cells zV 27)) (.cells zV 27);rw [World.size_alloc,World.size_alloc]at h4;have hst3:=az (c':=#[U kind,J nn,.string s,.slice pa l.length c,J r]) h4 rfl rfl (by simp [go_sem]);have hb0:Bl w ((((w.alloc (.cells (V_ kind nn s (.slice pa l.length c) r) 27)).alloc (.cells zV 27)).alloc (.cells zV 27)).setRow (w.heap.size+1+1) (V_ kind nn s (.slice pa l.length c) r)):=Below.setRow ((((Below.refl _ w).alloc aH _).alloc (by simp) _).alloc (by simp;omega) _) (by omega) _;have g0:=(aj (((w.alloc (.cells (V_ kind nn s (.slice pa l.length c) r) 27)).alloc (.cells zV 27)).alloc (.cells zV 27)) (w.heap.size+1+1) (V_ kind nn s (.slice pa l.length c) r) w.heap.size (by omega)).trans (aG _ (.cells zV 27) (aL w (.cells (V_ kind nn s (.slice pa l.length c) r) 27) (.cells zV 27)));have g1:=(aj (((w.alloc (.cells (V_ kind nn s (.slice pa l.length c) r) 27)).alloc (.cells zV 27)).alloc (.cells zV 27)) (w.heap.size+1+1) (V_ kind nn s (.slice pa l.length c) r) (w.heap.size+1) (by omega)).trans (aG _ (.cells zV 27) (aK w (.cells (V_ kind nn s (.slice pa l.length c) r) 27) (.cells zV 27)));have g2:=ah (c':=#[U kind,J nn,.string s,.slice pa l.length c,J r]) h4;obtain⟨w5,hw5⟩:∃ w5,w5=(((w.alloc (.cells (V_ kind nn s (.slice pa l.length c) r) 27)).alloc (.cells zV 27)).alloc (.cells zV 27)).setRow (w.heap.size+1+1) (V_ kind nn s (.slice pa l.length c) r):=⟨_,rfl⟩;rw [<- hw5]at hst3 hb0 g0 g1 g2;have H0:Hid (Bl w w5/\w5.heap[w.heap.size]? = some (.cells (V_ kind nn s (.slice pa l.length c) r) 27 (0,0))/\w5.heap[w.heap.size+1]? = some (.cells zV 27 (0,0))/\w5.heap[w.heap.size+1+1]? = some (.cells (V_ kind nn s (.slice pa l.length c) r) 27 (0,0))):=⟨hb0,g0,g1,g2⟩;clear hS hd ih hrec hlen h4 hb0 g0 g1 g2 hw5;obtain⟨⟨a0,a1,a2,a3,a4⟩,f0,f1,f2,f3,f4⟩:=ax H0.out.2.2.2
 have H1:Hid (R2oR w kind nn s (.slice pa l.length c) r (S_) [] (w5.setCell ⟨w.heap.size+1+1,3,none⟩ (S_))):=by
  have hk2:Keeps (fun b=>b=w.heap.size+1+1) w5 (w5.setCell ⟨w.heap.size+1+1,3,none⟩ (S_)):=Keeps.setCell (S:=fun b=>b=w.heap.size+1+1) w5 ⟨w.heap.size+1+1,3,none⟩ _ rfl;refine⟨H0.out.1.trans (hk2.below H0.out.1.size fun b hb=>by omega),hk2.none H0.out.2.1 (by omega),hk2.none H0.out.2.2.1 (by omega),by rw [aA H0.out.2.2.2];rfl,RowV.nil _ _,fun _=>rfl⟩
 simp only [zV]at hld5 hst3;simp only [au]
 go_enter Tryz.func248,Tryz.ntmps248
 go_upto_region 4 with fail
 clear a0 a1 a2 a3 a4 f0 f1 f2 f3 f4 H0 hld5 hst3;revert H1;generalize World.setCell _ _ _=w6;intro H1
 go_loopw [4] (fun vi wr=>∃ (i:Nat) (u:Value),vi=J i/\i≤l.length/\Hid (R2oR w kind nn s (.slice pa l.length c) r u (l.take i) wr)) (fun vi _=>l.length - (intOf vi).toNat)
 case atStart=>exact⟨0,_,rfl,Nat.zero_le _,H1.out⟩
 case round =>
  clear H1;obtain⟨i,u,rfl,hi,HR⟩:=hrel;obtain⟨⟨a0,a1,a2,a3,a4⟩,f0,f1,f2,f3,f4⟩:=ax HR.out.box
  by_cases hil:i<l.length
  ·have hiz:(i:Int)<(l.length:Int):=by omega
   have hi0:(0:Int)≤(i:Int):=by omega
   obtain⟨y,hy⟩:∃ y,l[i]? = some y:=⟨_,List.getElem?_eq_getElem hil⟩;obtain⟨b,o,cq,raw,hpe,hrg,hlt,-,hSx⟩:=(HS.out wr HR.out.bel).range hy;have hpa:pa=some ⟨b,o,none⟩:=by injection hpe
   subst hpa;have HN:Hid (l.take (i+1)=l.take i ++ [y]):=by show _=_;rw [List.take_add_one,hy];rfl
   have HC:Hid (∀ w7,Bl wr w7->Calls Tryz.prog 248 #[.agg (au y raw)] w7 (dE w7 y)):=fun w7 hb=>IH.out y (List.mem_of_getElem? hy) raw w7 F (hSx.on hb);obtain⟨yk,yn,ys,yl,yr⟩:=y;obtain⟨pa2,c2,rfl⟩:=hSx.form
   have HRg:Hid (∀ w7,Bl wr w7->(bp (R_ b (o+i * 5))).run Tryz.prog w7=.ok (.value (.agg (V_ yk yn ys (.slice pa2 yl.length c2) yr))) w7):=fun w7 hb =>
    aY (cs:=[U yk,J yn,.string ys,.slice pa2 yl.length c2,J yr]) (fun j v hj=>(hb.cell (p:=⟨b,o+i * 5+j,none⟩) hlt).trans (hrg j v hj)) rfl
   have hwi:wrap64 ((i:Int)+1)=(i:Int)+1:=by have:=HL.out;unfold wrap64;omega
   clear hy hrg hSx hlt hpe;simp only [au]at HC;generalize Value.slice pa2 yl.length c2=uq at HC HRg;have HLn:Hid ((l.take i).length≤1000):=by show _≤_;rw [List.length_take];have:=HL.out;omega
   clear a0 a1 a2 a3 a4 f0 f1 f2 f3 f4;obtain⟨⟨a0,a1,a2,a3,a4⟩,f0,f1,f2,f3,f4⟩:=ax HR.out.box;obtain⟨xs,hxs⟩:∃ xs,xs=l.take i:=⟨_,rfl⟩;rw [<- hxs]at HR HN HLn;clear hxs
   go_upto_region 6 with fail
   clear a0 a1 a2 a3 a4 f0 f1 f2 f3 f4;obtain⟨B3,hB3⟩:∃ B,B=w.heap.size+1+1:=⟨_,rfl⟩;rw [<- hB3];obtain⟨B1,hB1⟩:∃ B,B=w.heap.size:=⟨_,rfl⟩;rw [<- hB1];have HBx:Hid (wr.heap[B1]? = some (.cells (V_ kind nn s (.slice (some ⟨b,o,none⟩) l.length c) r) 27 (0,0))):=by rw [hB1];exact HR.out.box
   have HOx:Hid (wr.heap[B3]? = some (.cells (V_ kind nn s u r) 27 (0,0))):=by rw [hB3];exact HR.out.out
   have HRow:Hid (RowV wr (B1+3) u xs):=by rw [hB1];exact HR.out.row
   have HWs:Hid (B1+3≤wr.heap.size):=by show _≤_;rw [hB1];exact aw HR.out.out
   have HB:Hid _:=And.intro hB1 hB3;clear hB1 hB3;obtain⟨ln,hln⟩:∃ ln,ln=l.length:=⟨_,rfl⟩;rw [<- hln]at HBx hiz;clear hln;refine bt 11 9 [10] (by kernel_rfl) rfl (by kernel_rfl) (by kernel_rfl) (by decide) (by kernel_rfl) (fun a b=>Bl a b) (OwP B1 B3 b o c ln i u uq yk yn yr ys yl wr xs) (fun p w'=>p=false->Bl wr w') OwP.stab (fun _=>below_drew) (fun a b h hR _=>(h rfl).trans (hR.mono (h rfl).size)) ?_ ?_ ?_ ?_ ?_
   ·exact fun _ _ _ _ _ h1 h2=>bC (by kernel_rfl) h1 h2
   ·intro j q a w7 hne hq hC hG;have hC:=hC rfl;have hj:j<11:=ji hq
    match j,hj with
    | 0,_=>cases hq;have h3':a.tmps[3]?.getD undef=P_ B3:=gq (hG.fr 3 (by simp));unfold Oper.wp;simp [go_sem,Act.eval,h3'];exact⟨_,rfl,br,rfl⟩
    | 1,_ =>
      cases hq;have h14':=gq (i:=14) (gd hG 0 rfl);have c3:w7.cell? ⟨B3,3,none⟩=some (u):=by rw [ag (ae hC HOx.out)];rfl
      unfold Oper.wp;simp [go_sem,Act.eval,h14',c3];exact⟨_,rfl,br,rfl⟩
    | 2,_=>cases hq;have h1':a.tmps[1]?.getD undef=P_ B1:=gq (hG.fr 1 (by simp));unfold Oper.wp;simp [go_sem,Act.eval,h1'];exact⟨_,rfl,br,rfl⟩
    | 3,_ =>
      cases hq;have h16':=gq (i:=16) (gd hG 2 rfl);have c3:w7.cell? ⟨B1,3,none⟩=some (.slice (some ⟨b,o,none⟩) ln c):=by rw [ag (ae hC HBx.out)];rfl
      unfold Oper.wp;simp [go_sem,Act.eval,h16',c3];exact⟨_,rfl,br,rfl⟩
    | 4,_=>cases hq;have h4':a.tmps[4]?.getD undef=J i:=gq (hG.fr 4 (by simp));unfold Oper.wp;simp [go_sem,Act.eval,h4'];exact⟨_,rfl,br,rfl⟩
    | 5,_=>cases hq;have h17':=gq (i:=17) (gd hG 3 rfl);have h18':=gq (i:=18) (gd hG 4 rfl);unfold Oper.wp;simp [go_sem,Act.eval,h17',h18',hiz,hi0];exact⟨_,rfl,br,rfl⟩
    | 6,_ =>
      cases hq;have h19:a.tmps.getD 19 undef=R_ b (o+i * 5):=gd hG 5 rfl;refine aT (.agg (V_ yk yn ys uq yr)) ?_ br rfl;rw [jR];show (bp (a.tmps.getD 19 undef)).run _ _=_;rw [h19];exact HRg.out w7 hC
    | 7,_ =>
      cases hq;have h20':=gq (i:=20) (gd hG 6 rfl);unfold Oper.wp;simp [go_sem,callFunc,Act.eval,Tryz.func248,h20'];refine Calls.mono (HC.out _ hC) ?_;rintro e w8 ⟨raw',rfl,hb8,o1,-⟩;exact⟨_,rfl,hb8,fun _=>⟨raw',rfl,o1.mono fun b hb=>Nat.le_trans hC.size hb⟩⟩
    | 8,_ =>
      cases hq;have p21:(∃ raw',(a.tmps.getD 21 undef)=.agg (au ⟨yk,yn,ys,yl,yr⟩ raw')/\SlAt w7 (fun b=>wr.heap.size≤b) raw' yl):=hG.dep ⟨7,.data⟩ (by simp) rfl _ rfl rfl;obtain⟨raw',e21,hq⟩:=p21;have h21':a.tmps[21]?.getD undef=.agg (V_ yk yn ys raw' yr):=by have e21':=e21;simp only [au]at e21';rw [<- e21'];simp [Array.getD_eq_getD_getElem?]
      unfold Oper.wp;simp [go_sem,Act.eval,h21'];exact⟨_,rfl,br.alloc aH _,fun _=>⟨_,raw',rfl,ai _ _,hq.on (br.alloc aH _)⟩⟩
    | 9,_=>exact absurd rfl hne
    | 10,_=>cases hq;have h3':a.tmps[3]?.getD undef=P_ B3:=gq (hG.fr 3 (by simp));unfold Oper.wp;simp [go_sem,Act.eval,h3'];exact⟨_,rfl,br,rfl⟩
   ·intro q a w7 hq hC hG;have hC:=hC rfl;cases hq;have h15:a.tmps.getD 15 undef=u:=gd hG 1 rfl;have h15':a.tmps[15]?.getD undef=u:=gq h15;have p22:(∃ g raw',(a.tmps.getD 22 undef)=.slice (some ⟨g,0,none⟩) 1 1/\w7.heap[g]? = some (.cells (au ⟨yk,yn,ys,yl,yr⟩ raw') 27 (0,0))/\SlAt w7 (fun b=>wr.heap.size≤b) raw' yl):=hG.dep ⟨8,.data⟩ (by simp) rfl _ rfl rfl;obtain⟨g,raw',e22,hg,hq⟩:=p22;refine nY (.tmp 15) (.tmp 22) rfl (B1+3) u xs h15 (HRow.out.below hC) ⟨yk,yn,ys,yl,yr⟩ raw' e22 hg (hq.mono fun b hb=>⟨Nat.le_trans HWs.out hb,fun e=>by have:=(HRow.out.own b e).2;omega⟩) HLn.out (Nat.le_trans HWs.out hC.size) ?_;intro v' w' hr hk ho;exact⟨v',rfl,(fun h=>by cases h),fun _=>⟨hr,(Keeps.of_below hC).trans hk (fun _ _ h=>h) (fun _ _ h=>h)⟩,fun k y hj h=>OwP.turn k y w7 w' hj h⟩
   ·intro j q a w7 hl hq hC hG;have hj:j<11:=ji hq
    match j,hj with
    | 0,_=>exact absurd hl (by decide)
    | 1,_=>exact absurd hl (by decide)
    | 2,_=>exact absurd hl (by decide)
    | 3,_=>exact absurd hl (by decide)
    | 4,_=>exact absurd hl (by decide)
    | 5,_=>exact absurd hl (by decide)
    | 6,_=>exact absurd hl (by decide)
    | 7,_=>exact absurd hl (by decide)
    | 8,_=>exact absurd hl (by decide)
    | 9,_=>exact absurd hl (by decide)
    | 10,_ =>
      cases hq;have h3':a.tmps[3]?.getD undef=P_ B3:=gq (hG.fr 3 (by simp));refine aT (R:=fun x y=>y=x) (R_ B3 3) ?_ rfl rfl;simp [execOp,go_sem,Act.eval,h3']
   ·intro a w7 hC hdf hsz hfr hphi;have e0:a.tmps.getD 14 undef=_:=hphi 0 _ rfl;have e1:a.tmps.getD 15 undef=u:=hphi 1 _ rfl;have e2:a.tmps.getD 16 undef=_:=hphi 2 _ rfl;have e3:a.tmps.getD 17 undef=_:=hphi 3 _ rfl;have e4:a.tmps.getD 18 undef=J i:=hphi 4 _ rfl;have e5:a.tmps.getD 19 undef=_:=hphi 5 _ rfl;have e6:a.tmps.getD 20 undef=_:=hphi 6 _ rfl;obtain⟨u7,e7⟩:∃ u,a.tmps.getD 21 undef=u:=⟨_,rfl⟩;obtain⟨u8,e8⟩:∃ u,a.tmps.getD 22 undef=u:=⟨_,rfl⟩;have p9:yy (B1+3) wr u xs ⟨yk,yn,ys,yl,yr⟩ (a.tmps.getD 23 undef) w7:=hphi 9 _ rfl rfl;obtain⟨u9,e9⟩:∃ u,a.tmps.getD 23 undef=u:=⟨_,rfl⟩;rw [e9]at p9;have e10:a.tmps.getD 24 undef=_:=hphi 10 _ rfl;have ha:=bq hdf hsz hfr;simp only [List.take_succ_cons,List.take_zero,List.filterMap_cons,List.filterMap_nil,List.foldl_cons,List.foldl_nil,List.setIfInBounds_toArray,List.set_cons_zero,List.set_cons_succ,e0,e1,e2,e3,e4,e5,e6,e7,e8,e9,e10]at ha;clear hdf hsz hfr hphi hC e0 e1 e2 e3 e4 e5 e6 e7 e8 e9 e10;subst ha;have hg7:=p9.2.none HOx.out (fun e=>by have:=(HRow.out.own _ e).1;have:=HB.out;omega);have c3:w7.cell? ⟨B3,3,none⟩=some u:=by rw [ag hg7];rfl
    have f3:=av hg7 3;obtain⟨hb1,hb3⟩:=HB.out;have HT7:Hid (R2oR w kind nn s (.slice (some ⟨b,o,none⟩) l.length c) r u9 (xs ++ [⟨yk,yn,ys,yl,yr⟩]) (w7.setCell ⟨B3,3,none⟩ u9)):=by rw [hb3];exact HR.out.next (by rw [<- hb1];exact p9)
    rw [<- HN.out]at HT7;obtain⟨p9',c9',hu9⟩:=p9.1.at.form;obtain⟨n9,hn9⟩:∃ n9,n9=(xs ++ [(⟨yk,yn,ys,yl,yr⟩:Val)]).length:=⟨_,rfl⟩;rw [<- hn9]at hu9;subst hu9;clear hg7 p9 HOx HBx HRow HR HC HRg HWs HLn hn9;refine⟨rfl,?_⟩;unfold Oper.wp;simp [execOp,go_sem,Act.eval,aV,c3,f3];refine ‹∀ (a:Act) (w:World),Code.wp Tryz.prog _ _ a w->_› _ _ ?_;clear c3 f3;revert HT7;generalize World.setCell _ _ _=w8;intro HT7;subst hb1;subst hb3
    go_wp2_with fail
    go_roundw
    case rel=>exact⟨i+1,_,by go_num,by omega,HT7.out⟩
    case measure=>rw [hwi];simp [intOf];omega
  ·have hiz:¬ (i:Int)<(l.length:Int):=by omega
   obtain rfl:i=l.length:=by omega
   have hkk:¬ (l.length:Int)<(l.length:Int):=by omega
   have HR:=HR.out;rw [List.take_length]at HR;obtain⟨p8,c8,rfl⟩:=HR.row.at.form;have hld:=aI HR.out rfl;have hst:=az (c':=#[U kind,J nn,.string s,.slice p8 l.length c8,J r]) HR.res rfl rfl (by simp [go_sem])
   have HF:Hid (∀ w9,w9=wr.setRow (w.heap.size+1) (V_ kind nn s (.slice p8 l.length c8) r)->w9.heap[w.heap.size+1]? = some (.cells (V_ kind nn s (.slice p8 l.length c8) r) 27 (0,0)) /\
    dE w ⟨kind,nn,s,l,r⟩ (.returned (.agg (V_ kind nn s (.slice p8 l.length c8) r))) w9):=by
    intro w9 e;subst e;have hk:=aQ wr (w.heap.size+1) (V_ kind nn s (.slice p8 l.length c8) r);refine⟨ah HR.res,.slice p8 l.length c8,rfl,HR.bel.trans (hk.below HR.bel.size fun b hb=>by omega),?_,fun e=>HR.nil e⟩;exact(HR.row.at.keeps hk (fun b h1 h2=>by omega)).mono fun b hb=>by omega
   clear HR
   go_wp2_with fail
   exact bodyPost_ret (nW _ _ _ _ (HF.out _ rfl).1 rfl rfl) rfl (HF.out _ rfl).2
theorem lO (n:Nat):xw n:=by
 induction n with
 | zero=>exact mY 0 (fun m h=>by cases h)
 | succ n ih=>exact mY (n+1) (fun m h=>by cases h;exact ih)
end
section
variable {w:World} {p:Nat} {M:WM} {F:Nat->Prop}
theorem FoundB.drew {w8:World} {r:Int} {t:Th} {ty:TypeId} {b:Nat} (h:FoundB w p r t ty b w8):FoundB w p r t ty b w8.drew:=by
 obtain⟨vl',vals',h1,h2,h3,h4,h5⟩:=h;exact⟨vl',vals',h1,h2,h3.drew,h4.of_blocks (Lists.of fun _ _=>rfl) fun _ h=>h,h5⟩
def zs (a x:Value):Sem Next:=do Instr.storeAt 240 a x;pure .skip
theorem jW (ρ:Operand->Value) (d:Option Tmp) (a x:Operand) (ty:TypeId) (pos:String) (af:Array Edge) (g:Option (Nat × Bool)) :
 execOp ρ { dst:=d,op:=.store 240 a x,type:=ty,pos:=pos,after:=af,guard:=g } = zs (ρ a) (ρ x):=rfl
theorem zh:(Tryz.prog.info? 240).map (·.size)=some 4:=by kernel_rfl
theorem qp {w:World} {b:Nat} {c c':Array Value} (hg:w.heap[b]? = some (.cells c 240 (0,0))) (hs:c.size=4) (hs':c'.size=4) (h1:c'.all (·.oneCell')=true) :
 (zs (P_ b) (.agg c')).run Tryz.prog w=.ok .skip (w.setRow b c'):=by
 have:=bI (P:=Tryz.prog) hg (by rw [hs'];exact zh) (by rw [hs,hs']) h1;simp only [zs,Sem.run_bind,this,Result.andThen,Sem.run_pure]
theorem nR:ff 27 8 69 bZ:=fun _ _ _ _ _=>rfl
def dx:Array Value:=#[.func (.methodOf 157 "postern/plain.get") #[] #[],.func (.methodOf 157 "postern/plain.put") #[] #[],.func (.methodOf 157 "postern/plain.take") #[] #[],.func (.methodOf 157 "postern/plain.give") #[] #[]]
def fR (w:World) (F:Nat->Prop) (b:Nat) (Post:Val->Value->Int->World->Prop) (e:Ending) (w':World):Prop :=
 ∃ v pv cv n,e=.returned (.tuple #[.agg (au v (.slice pv v.l.length cv)),J n])/\Keeps (fun y=>F y\/y=b) w w'/\Post v (.slice pv v.l.length cv) n w'
end
end Go.Proofs.YthaliljaglldjaaGreat
