/- Part of the proof. -/
import Derived.Test.YthaliljaglldjaaGreatmAQ
import Derived.Laws.Tables
namespace Go.Proofs.YthaliljaglldjaaGreat
set_option maxHeartbeats 16000000
set_option maxRecDepth 20000
open Go.RowKit Go.ChangeMaps Go.MapKept
section
variable {w:World} {p:Nat} {M:WM} {F:Nat->Prop}
def oq (w:World) (p:Nat) (M:WM) (F:Nat->Prop) (r:Int) (x:Th) (w':World):Prop :=
 ∃ vl' vals' F',((x.v.l = []->vl'=.slice none 0 0)/\(x.vals=.slice none 0 0->vals'=.slice none 0 0))/\IsW w' p (M.set r { x with vl:=vl',vals:=vals' }) F'/\Keeps F w w'/\∀ b,F' b->F b\/w.heap.size≤b
def nb (w:World) (p:Nat) (M:WM) (F:Nat->Prop) (r:Int) (x:Th) (w':World):Prop :=
 ∃ vl' vals' F',(x.v.l = []->vl'=.slice none 0 0)/\IsW w' p (M.set r { x with vl:=vl',vals:=vals' }) F'/\Keeps F w w'/\∀ b,F' b->F b\/w.heap.size≤b
theorem pG (hW:IsW w p M F) {r:Int} (hr:(Lit.int .i64 r).wf=true) {u:Th} (ht:M.at r=some u) (hfu:u.full=false) {F1:Nat->Prop} {x:Th} (hx:Lies w F1 x) (hfair:Fair x)
 (hkind:x.kind=u.kind) (hhome:x.home=u.home) (htgt:x.tgt=u.tgt) (hbi:x.bi=u.bi) (hset:x.set=u.set) (hwf:∀ r ∈ bk x,(Lit.int .i64 r).wf=true) (hnames:cX M x=true)
 (hform:∀ w',Bl w w'->Calls Tryz.prog 74 #[P_ p,.agg (aF x)] w' fun e w''=>e=.returned (.bool true)/\Bl w' w'') :
 Calls Tryz.prog 107 #[P_ p,J r,.agg (aF x)] w fun e w'=>e=.returned (J 0)/\oq w p M F r x w':=by
 obtain⟨pv,cv,hv⟩:=hx.v.form;obtain⟨ps,cs,hs⟩:=hx.vs.form;have hcode:=hx.code;have hnm:=hx.names;have Hx:Hid (Lies w F1 x/\Fair x/\(∀ r ∈ bk x,(Lit.int .i64 r).wf=true)/\cX M x=true/\x.kind=u.kind/\x.home=u.home/\x.tgt=u.tgt/\x.bi=u.bi/\x.set=u.set):=⟨hx,hfair,hwf,hnames,hkind,hhome,htgt,hbi,hset⟩;clear hx hfair hwf hnames hkind hhome htgt hbi hset;obtain⟨k,h,⟨vk,vn,vstr,vlist,vr⟩,raw,vs,vals,n',l',tg,bi,s,fu',code,names⟩:=x;simp only at hv hs hcode hnm;subst hv hs hcode hnm;have HL:Hid (∃ nl ns,nl=vlist.length/\ns=vs.length):=⟨_,_,rfl,rfl⟩;have Hf:Hid (∀ w',Bl w w'->Calls Tryz.prog 74 #[P_ p,.agg (X_ k h vk vn vstr (.slice pv vlist.length cv) vr (.slice ps vs.length cs) n' l' tg bi s fu')] w' fun e w''=>e=.returned (.bool true)/\Bl w' w''):=hform
 have Hn:Hid (∀ w',Bl w w'->Calls Tryz.prog 75 #[P_ p,.agg (X_ k h vk vn vstr (.slice pv vlist.length cv) vr (.slice ps vs.length cs) n' l' tg bi s fu')] w' fun e w''=>e=.returned (.bool true)/\Bl w' w''):=fun w' hb=>by
  have:=qj (hW.below hb) _ (Hx.out.1.on hb) Hx.out.2.1.len Hx.out.2.2.1;rw [Hx.out.2.2.2.1]at this;exact this
 have Ho:Hid (∀ w',Bl w w'->Calls Tryz.prog 80 #[.agg (X_ k h vk vn vstr (.slice pv vlist.length cv) vr (.slice ps vs.length cs) n' l' tg bi s fu')] w' fun e w''=>∃ pv' cv' ps' cs',e=.returned (.agg (X_ k h vk vn vstr (.slice pv' vlist.length cv') vr (.slice ps' vs.length cs') n' l' tg bi s fu'))/\Bl w' w'' /\
  Deep w'' (fun b=>w'.heap.size≤b) ⟨k,h,⟨vk,vn,vstr,vlist,vr⟩,.slice pv' vlist.length cv',vs,.slice ps' vs.length cs',n',l',tg,bi,s,fu',S_,S_⟩/\(vlist = []->Value.slice pv' vlist.length cv'=.slice none 0 0)/\(Value.slice ps vs.length cs=.slice none 0 0->Value.slice ps' vs.length cs'=.slice none 0 0)):=fun w' hb =>
  (eL _ (Hx.out.1.on hb) Hx.out.2.1.v Hx.out.2.1.vs Hx.out.2.1.len).mono fun e w'' ⟨vl',vals',he,hb2,hd,h5,h6,_⟩=>by
   obtain⟨pv',cv',hv⟩:=hd.v.form;obtain⟨ps',cs',hs⟩:=hd.vs.form;simp only at hv hs;subst hv hs;exact⟨pv',cv',ps',cs',he,hb2,hd,h5,h6⟩
 clear HL hform;generalize hnl:vlist.length=nl at Hf Hn Ho;generalize hns:vs.length=ns at Hf Hn Ho;have hB0:Bl w (w.alloc (.cells (X_ k h vk vn vstr (.slice pv nl cv) vr (.slice ps ns cs) n' l' tg bi s fu') 46)):=br.alloc aH _;have b0:=ai w (.cells (X_ k h vk vn vstr (.slice pv nl cv) vr (.slice ps ns cs) n' l' tg bi s fu') 46);obtain⟨wa,hwa⟩:∃ wa,wa=w.alloc (.cells (X_ k h vk vn vstr (.slice pv nl cv) vr (.slice ps ns cs) n' l' tg bi s fu') 46):=⟨_,rfl⟩;have HB0:Hid (Bl w wa):=by rw [hwa];exact hB0
 have Hb0:Hid (wa.heap[w.heap.size]? = some (.cells (X_ k h vk vn vstr (.slice pv nl cv) vr (.slice ps ns cs) n' l' tg bi s fu') 46 (0,0))):=by rw [hwa];exact b0
 have Hwa:Hid _:=hwa;have HW:Hid (IsW w p M F):=hW;have Ht:Hid (M.at r=some u):=ht;have Hfu:Hid (u.full=false):=hfu;obtain⟨pa,pc,cg,cc,mg,mc,tb,fb,fn,bl,hV⟩:=hW;have HV:Hid (WV w p M F pa pc cg cc mg mc tb fb fn bl):=hV
 have ds:Hid (∀ w',Bl wa w'->w'.cell? ⟨w.heap.size,0,none⟩=some (.int .u8 k)/\w'.cell? ⟨w.heap.size,1,none⟩=some (.int .i64 h)/\w'.cell? ⟨w.heap.size,10,none⟩=some (.int .i64 tg)/\w'.cell? ⟨w.heap.size,11,none⟩=some (.int .i64 bi)/\w'.cell? ⟨w.heap.size,12,none⟩=some (.int .u8 s) /\
  w'.cell? ⟨bl r,0,none⟩=some (.int .u8 k)/\w'.cell? ⟨bl r,1,none⟩=some (.int .i64 h)/\w'.cell? ⟨bl r,10,none⟩=some (.int .i64 tg)/\w'.cell? ⟨bl r,11,none⟩=some (.int .i64 bi)/\w'.cell? ⟨bl r,12,none⟩=some (.int .u8 s)/\w'.cell? ⟨bl r,13,none⟩=some (.bool false) /\
  (dZ (P_ w.heap.size)).run Tryz.prog w'=.ok (.value (.agg (X_ k h vk vn vstr (.slice pv nl cv) vr (.slice ps ns cs) n' l' tg bi s fu'))) w'/\Bl w w'):=fun w' hb=>by
  have hbl:=(HV.out.below (HB0.out.trans (hb.mono HB0.out.size))).blk r _ Ht.out;obtain⟨q0,q1,-,-,q10,q11,q12,q13⟩:=dO hbl.1;have hg:=ae hb Hb0.out;obtain⟨-,-,-,-,e1,e2,e3,e4,e5⟩:=Hx.out;simp only at e1 e2 e3 e4 e5;rw [<- e1]at q0;rw [<- e2]at q1;rw [<- e3]at q10;rw [<- e4]at q11;rw [<- e5]at q12;rw [Hfu.out]at q13;exact⟨by rw [ag hg];rfl,by rw [ag hg];rfl,by rw [ag hg];rfl,by rw [ag hg];rfl,by rw [ag hg];rfl,q0,q1,q10,q11,q12,q13,aD hg rfl,HB0.out.trans (hb.mono HB0.out.size)⟩
 clear hV hB0 b0 ht hwa hfu;simp only [aF]
 go_enter Tryz.func107,Tryz.ntmps107
 go_wp2_with fail
 rw [<- Hwa.out];have hWa:=HW.out.below HB0.out;refine(eF hWa).mono ?_;rintro e _ ⟨rfl,rfl⟩
 go_wp2_with fail
 refine(gN hWa hr).mono ?_;rw [Ht.out];rintro e _ ⟨rfl,rfl⟩;have c2:=(HV.out.below HB0.out).c2;have hlk:=(HV.out.below HB0.out).look hr;rw [Ht.out]at hlk;simp only [Option.map_some]at hlk;clear hWa
 go_wp2_with fail
 refine cZ (C:=fun w'=>Bl wa w') (by kernel_rfl) (by kernel_rfl) below_drew ?_
 repeat (first
  | go_big_quiet_step (fail)
  | quiet_step (fail)
  | (refine wpQuiet_step (fun K hK=>?_);go_simp;first
   | (refine hK _ ?_;clear hK K)
   | (apply Exists.intro
      refine⟨fun w' hC=>?_,hK _ ?_⟩
      ·obtain⟨q1,q2,q3,q4,q5,q6,q7,q8,q9,q10,q11,q12,q13⟩:=ds.out w' hC
       first
        | exact rfl
        | (go_simp;exact rfl)
        | (go_simp;exact⟨rfl,rfl⟩)
        | exact(Hf.out w' q13).mono fun e w'' ⟨he,hb⟩=>⟨he,hC.trans (hb.mono hC.size)⟩
      clear hK K)))
 refine wpQuiet_nil ?_;intro w5 hC5;have HB5:Hid (Bl wa w5/\Bl w w5):=⟨hC5,(ds.out w5 hC5).2.2.2.2.2.2.2.2.2.2.2.2⟩;have l5:=(ds.out w5 hC5).2.2.2.2.2.2.2.2.2.2.2.1;clear hC5 c2 hlk
 go_wp2_with fail
 refine(Hn.out _ HB5.out.2).mono ?_;rintro e w6 ⟨rfl,hb6⟩;have hB6:Bl wa w6:=HB5.out.1.trans (hb6.mono HB5.out.1.size);have HB6:Hid (Bl wa w6/\Bl w w6):=⟨hB6,(ds.out w6 hB6).2.2.2.2.2.2.2.2.2.2.2.2⟩;have l6:=(ds.out w6 hB6).2.2.2.2.2.2.2.2.2.2.2.1;clear hb6 l5 HB5 hB6
 go_wp2_with fail
 refine(Ho.out _ HB6.out.2).mono ?_;rintro e w7 ⟨pv',cv',ps',cs',rfl,hb7,hd7,hn7⟩;have HB7:Hid (Bl wa w7):=HB6.out.1.trans (hb7.mono HB6.out.1.size);have HB8:Hid (Bl w w7):=HB6.out.2.trans (hb7.mono HB6.out.2.size);have B7:=((HV.out.below HB8.out).blk r _ Ht.out).1;have hst:=aS (c':=#[U k,J h,U vk,J vn,.string vstr,.slice pv' nl cv',J vr,.slice ps' ns cs',J n',J l',J tg,J bi,U s,.bool fu',S_,S_]) B7 rfl rfl (by simp [go_sem]);have G7:Hid _:=ah (c':=#[U k,J h,U vk,J vn,.string vstr,.slice pv' nl cv',J vr,.slice ps' ns cs',J n',J l',J tg,J bi,U s,.bool fu',S_,S_]) B7;have HD7:Hid (Deep w7 (fun b=>w6.heap.size≤b) ⟨k,h,⟨vk,vn,vstr,vlist,vr⟩,.slice pv' nl cv',vs,.slice ps' ns cs',n',l',tg,bi,s,fu',S_,S_⟩/\w.heap.size≤w6.heap.size/\(vlist = []->Value.slice pv' nl cv'=.slice none 0 0)/\(Value.slice ps ns cs=.slice none 0 0->Value.slice ps' ns cs'=.slice none 0 0)):=⟨hd7,HB6.out.2.size,hn7⟩;clear hb7 B7 l6 hd7 hn7
 go_wp2_with fail
 go_ret
 have hF:=(HV.out.blk r _ Ht.out).2.1;have hlr:=HV.out.lt _ hF;refine⟨rfl,.slice pv' nl cv',.slice ps' ns cs',fun b=>F b\/(w.heap.size≤b/\b<w7.heap.size),HD7.out.2.2,?_,?_,?_⟩
 ·have hV7:=HV.out.below HB8.out;obtain⟨-,-,-,-,e1,e2,e3,e4,e5⟩:=Hx.out;refine⟨pa,pc,cg,cc,mg,mc,tb,fb,fn,bl,hV7.turn (u:=u) ⟨Ht.out,e1,e2,fun _=>e3,?_,e4,e5⟩ (by simp [World.setRow]) G7.out (fun b _ hb=>aj _ _ _ _ hb) (fun _ h=>.inl h) (fun b hb=>?_) ?_⟩
  ·have:=(hV7.ok.wf _ _ Ht.out).tgt;rw [<- e3]at this;exact this
  ·have:b<w7.heap.size:=by
    rcases hb with hb | hb
    ·exact hV7.lt b hb
    ·exact hb.2
   simpa [World.setRow]using this
  ·have hd:=HD7.out.1
   have h1:Deep w7 (fun b=>(w.heap.size≤b/\b<w7.heap.size)) ⟨k,h,⟨vk,vn,vstr,vlist,vr⟩,.slice pv' nl cv',vs,.slice ps' ns cs',n',l',tg,bi,s,fu',S_,S_⟩ :=
    ⟨hd.v.monoLt fun b hb h2=>⟨Nat.le_trans HD7.out.2.1 hb,h2⟩,hd.vs.monoLt fun b hb h2=>⟨Nat.le_trans HD7.out.2.1 hb,h2⟩,rfl,rfl⟩
   exact h1.of_blocks (Lists.of fun b hb=>aj _ _ _ _ (by omega)) (fun b hb=>.inr hb)
 ·exact Below.keeps HB8.out ⟨rfl,rfl,rfl,by simp [World.setRow],fun b _ hb=>aj _ _ _ _ (fun e=>hb (e ▸ hF))⟩
 ·rintro b (hb | hb)
  ·exact .inl hb
  ·exact .inr hb.1
theorem xa (hW:IsW w p M F) {r:Int} (hr:(Lit.int .i64 r).wf=true) {u:Th} (ht:M.at r=some u) (hfu:u.full=false) {F1:Nat->Prop} {x:Th} (hx:Lies w F1 x) (hfair:Fair x)
 (hkind:x.kind=u.kind) (hhome:x.home=u.home) (htgt:x.tgt=u.tgt) (hbi:x.bi=u.bi) (hset:x.set=u.set) (hwf:∀ r ∈ bk x,(Lit.int .i64 r).wf=true) (hnames:cX M x=true)
 (hform:∀ w',Bl w w'->Calls Tryz.prog 74 #[P_ p,.agg (aF x)] w' fun e w''=>e=.returned (.bool true)/\Bl w' w'') :
 Calls Tryz.prog 107 #[P_ p,J r,.agg (aF x)] w fun e w'=>e=.returned (J 0)/\nb w p M F r x w' :=
 (pG hW hr ht hfu hx hfair hkind hhome htgt hbi hset hwf hnames hform).mono fun _ _ ⟨he,vl',vals',F',h1,h2⟩=>⟨he,vl',vals',F',h1.1,h2⟩
end
section
variable {w:World} {p:Nat} {M:WM} {F:Nat->Prop}
theorem jt (w:World) (n:Int):Calls Tryz.prog 158 #[J n] w fun e w'=>e=.returned (.agg (V_ 1 n ⟨#[]⟩ (S_) 0))/\Below w.heap.size w w':=by
 go_enter Tryz.func158,Tryz.ntmps158
 go_wp2
 go_returns
 exact⟨rfl,by go_grown⟩
theorem eI (w:World) (n:Int):Calls Tryz.prog 65 #[J n] w fun e w'=>e=.returned (.agg (V_ 1 n ⟨#[]⟩ (S_) 0))/\Below w.heap.size w w':=by
 go_enter Tryz.func65,Tryz.ntmps65
 go_wp2
 go_returns
 exact⟨rfl,by go_grown⟩
theorem pw (w:World) (s:Option Addr) (n c:Nat):Calls Tryz.prog 329 #[.slice s n c] w fun e w'=>e=.returned (.agg (V_ 3 0 ⟨#[]⟩ (.slice s n c) 0))/\Below w.heap.size w w':=by
 go_enter Tryz.func329,Tryz.ntmps329
 go_wp2
 go_returns
 exact⟨rfl,by go_grown⟩
theorem bT (hW:IsW w p M F):Calls Tryz.prog 92 #[P_ p] w fun e w'=>e=.returned (.bool true)/\w=w':=by
 have hS:=fZ hW;have hl:=hW.ok.made;have HS:Hid _:=hS;have hl1:0<M.made.length:=by omega
 clear hS hW hl
 go_enter Tryz.func92,Tryz.ntmps92
 go_wp2_with fail
 refine Calls.mono HS.out ?_;rintro e _ ⟨rfl,rfl⟩
 go_wp2_with fail
 go_ret
 exact⟨by simp,rfl⟩
theorem mm (w:World) (k n r:Int) (s:ByteArray) (a:Option Addr) (m c:Nat):Calls Tryz.prog 325 #[.agg O,.agg (V_ k n s (.slice a m c) r)] w fun e w'=>e=.returned (.tuple #[.agg (V_ k n s (.slice a m c) r),J 0])/\Below w.heap.size w w':=by
 go_enter Tryz.func325,Tryz.ntmps325
 go_wp2
 go_returns
 exact⟨rfl,by go_grown⟩
theorem nN (w:World):Calls Tryz.prog 184 #[U 1] w fun e w'=>e=.returned (.tuple #[J 0,J 0])/\Below w.heap.size w w':=by
 have hp:wrap64 (Lib.pop8 1)=1:=by kernel_rfl
 have hn:wrap64 (Lib.ntz8 1)=0:=by kernel_rfl
 go_enter Tryz.func184,Tryz.ntmps184
 go_wp2
 go_ret2
 exact⟨by simp [hn],by go_grown⟩
theorem ol (w:World):Calls Tryz.prog 184 #[U 2] w fun e w'=>e=.returned (.tuple #[J 1,J 0])/\Below w.heap.size w w':=by
 have hp:wrap64 (Lib.pop8 2)=1:=by kernel_rfl
 have hn:wrap64 (Lib.ntz8 2)=1:=by kernel_rfl
 go_enter Tryz.func184,Tryz.ntmps184
 go_wp2
 go_ret2
 exact⟨by simp [hn],by go_grown⟩
theorem nF (w:World):Calls Tryz.prog 184 #[U 4] w fun e w'=>e=.returned (.tuple #[J 2,J 0])/\Below w.heap.size w w':=by
 have hp:wrap64 (Lib.pop8 4)=1:=by kernel_rfl
 have hn:wrap64 (Lib.ntz8 4)=2:=by kernel_rfl
 go_enter Tryz.func184,Tryz.ntmps184
 go_wp2
 go_ret2
 exact⟨by simp [hn],by go_grown⟩
theorem mQ (w:World):Calls Tryz.prog 184 #[U 8] w fun e w'=>e=.returned (.tuple #[J 3,J 0])/\Below w.heap.size w w':=by
 have hp:wrap64 (Lib.pop8 8)=1:=by kernel_rfl
 have hn:wrap64 (Lib.ntz8 8)=3:=by kernel_rfl
 go_enter Tryz.func184,Tryz.ntmps184
 go_wp2
 go_ret2
 exact⟨by simp [hn],by go_grown⟩
theorem qI (hW:IsW w p M F) {F1:Nat->Prop} (v:Val) (raw:Value) (hS:SlAt w F1 raw v.l) (hk:∀ r ∈ aM v,(Lit.int .i64 r).wf=true/\(M.at r).isSome=true) :
 Calls Tryz.prog 185 #[P_ p,.agg (au v raw)] w fun e w'=>e=.returned (.bool true)/\Bl w w':=by
 obtain⟨pa,c,rfl⟩:=hS.form;have hb0:Bl w (w.alloc (.cells (au v (.slice pa v.l.length c)) 27)):=br.alloc aH _;have HR:Hid _:=And.intro hb0 (mC (w:=w.alloc (.cells (au v (.slice pa v.l.length c)) 27)) v _ (hS.on hb0));have Hk:Hid (∀ r ∈ aM v,(Lit.int .i64 r).wf=true/\(M.at r).isSome=true):=hk;have Hl:Hid ((aM v).length≤512):=bW v;have HW:Hid (IsW w p M F):=hW;obtain⟨kind,n,s,l,r⟩:=v;generalize aM ⟨kind,n,s,l,r⟩=xs at HR Hk Hl;clear hS hk hW hb0;simp only [au]at HR ⊢
 go_enter Tryz.func185,Tryz.ntmps185
 go_wp2_with fail
 refine Calls.mono HR.out.2 ?_;rintro e w1 ⟨u,rfl,hr,hb1⟩;have HB1:Hid (Bl w w1):=HR.out.1.trans (hb1.mono HR.out.1.size)
 obtain⟨q,c',hu,hcell⟩:∃ q c',u=.slice q xs.length c'/\∀ (j:Nat) (x:Int),xs[j]? = some x->∃ g,q=some ⟨g,0,none⟩/\w1.cell? ⟨g,j,none⟩=some (.int .i64 x):=by
  obtain⟨h1,⟨rfl,h0⟩ | ⟨g,cap,cur,rfl,-,hb,hc,hm,hcs,ht⟩⟩:=hr
  ·exact⟨none,0,by rw [h0],fun j x hj=>by have:=ji hj;omega⟩
  ·refine⟨_,cap,rfl,fun j x hj=>⟨g,rfl,?_⟩⟩;have hj':=ji hj;have h2:(xs.map (Value.int .i64))[j]? = some (.int .i64 x):=by rw [List.getElem?_map,hj];rfl
   rw [<- ht,List.getElem?_take,if_pos (by omega)]at h2;rw [ag hb,← Array.getElem?_toList];exact h2
 subst hu;have HC:Hid (∀ (j:Nat) (x:Int),xs[j]? = some x->∃ g,q=some ⟨g,0,none⟩/\w1.cell? ⟨g,j,none⟩=some (.int .i64 x)):=hcell;have HW1:Hid (IsW w1 p M F):=HW.out.below HB1.out;clear hr hb1 hcell HR HW
 go_wp2_with fail
 go_loopw [10] (fun vi wr=>∃ k:Nat,vi=J k/\k≤xs.length/\wr=w1) (fun vi _=>xs.length - (intOf vi).toNat)
 case atStart=>exact⟨0,rfl,Nat.zero_le _,rfl⟩
 case round =>
  obtain⟨k,rfl,hk,rfl⟩:=hrel
  by_cases hkl:k<xs.length
  ·have hkz:(k:Int)<(xs.length:Int):=by omega
   obtain⟨x,hx⟩:∃ x,xs[k]? = some x:=⟨_,List.getElem?_eq_getElem hkl⟩;obtain⟨g,rfl,hc⟩:=HC.out k x hx;obtain⟨hwf,his⟩:=Hk.out x (List.mem_of_getElem? hx);have hI:=gN HW1.out hwf;rw [his]at hI;have HI:Hid _:=hI;have hk1:k<512:=by have:=Hl.out;omega
   clear hx hI his
   go_wp2_with fail
   refine Calls.mono HI.out ?_;rintro e _ ⟨rfl,rfl⟩
   go_wp2_with fail
   go_roundw
   case rel=>exact⟨k+1,by go_num,by omega,by first | rfl | trivial⟩
   case measure =>
    simp [intOf];omega
  ·have hkz:¬ (k:Int)<(xs.length:Int):=by omega
   obtain rfl:k=xs.length:=by omega
   go_wp2_with fail
   go_ret
   exact⟨rfl,HB1.out⟩
theorem ti (hW:IsW w p M F) {F1:Nat->Prop} {h:Int} (hh:0≤h/\h<M.made.length) (v:Val) (raw:Value) (hS:SlAt w F1 raw v.l) (hm:ay v=true) (hk:∀ r ∈ aM v,(Lit.int .i64 r).wf=true/\(M.at r).isSome=true) :
 Calls Tryz.prog 181 #[P_ p,J h,.agg (au v raw)] w fun e w'=>e=.returned (J 0)/\Bl w w':=by
 obtain⟨pa,c,rfl⟩:=hS.form;have hb0:Bl w (w.alloc (.cells (au v (.slice pa v.l.length c)) 27)):=br.alloc aH _;have HW:Hid (IsW w p M F):=hW;have HW0:Hid (IsW (w.alloc (.cells (au v (.slice pa v.l.length c)) 27)) p M F):=hW.below hb0
 have HM:Hid (∀ w',Bl w w'->Calls Tryz.prog 161 #[.agg (au v (.slice pa v.l.length c))] w' fun e w''=>e=.returned (.bool true)/\Bl w' w''):=fun w' hb=>by
  have:=dF (hS.on hb) (v:=v)
  rwa [hm]at this
 have HK:Hid (∀ w',Bl w w'->Calls Tryz.prog 185 #[P_ p,.agg (au v (.slice pa v.l.length c))] w' fun e w''=>e=.returned (.bool true)/\Bl w' w''):=fun w' hb=>qI (hW.below hb) v _ (hS.on hb) hk;have HB0:Hid _:=And.intro hb0 (ai w (.cells (au v (.slice pa v.l.length c)) 27));obtain⟨h1,h2⟩:=hh;have h1':¬ h<0:=by omega
 have h2':¬ h ≥ (M.made.length:Int):=by omega
 clear hS hm hk hW hb0 h1 h2;obtain⟨kind,n,s,l,r⟩:=v;simp only [au]at HW0 HM HK HB0 ⊢
 go_enter Tryz.func181,Tryz.ntmps181
 go_wp2_with fail
 refine(bT HW0.out).mono ?_;rintro e _ ⟨rfl,rfl⟩
 go_wp2_with fail
 refine(fZ HW0.out).mono ?_;rintro e _ ⟨rfl,rfl⟩
 go_wp2_with fail
 refine Calls.mono (HM.out _ HB0.out.1) ?_;rintro e w1 ⟨rfl,hb1⟩;have b1:=ae hb1 HB0.out.2;obtain⟨⟨a0,a1,a2,a3,a4⟩,-⟩:=ax b1;have HB1:Hid (Bl w w1):=HB0.out.1.trans (hb1.mono HB0.out.1.size);clear hb1 b1
 go_wp2_with fail
 refine Calls.mono (HK.out _ HB1.out) ?_;rintro e w2 ⟨rfl,hb2⟩;have HB2:Hid (Bl w w2):=HB1.out.trans (hb2.mono HB1.out.size);clear hb2 a0 a1 a2 a3 a4
 go_wp2_with fail
 go_ret
 exact⟨rfl,HB2.out⟩
end
section
variable {w:World} {p:Nat} {M:WM} {F:Nat->Prop}
theorem Grew.start {w w1 w':World} {F F':Nat->Prop} (h:Grew F w1 F' w') (hb:Bl w w1):Grew F w F' w' :=
 ⟨Below.keeps hb h.1,fun b hF=>(h.2 b hF).imp id fun h=>Nat.le_trans hb.size h⟩
theorem MadeG.start {w1 w':World} {h:Int} {T:Th->Prop} {e:Ending} (hm:MadeG w1 p M F h T e w') (hb:Bl w w1):MadeG w p M F h T e w':=by
 rcases hm with ⟨h1,h2,t,F',h3,h4,h5⟩ | ⟨h1,h2,h3⟩
 ·exact .inl ⟨h1,h2,t,F',h3,h4,h5.start hb⟩
 ·exact .inr ⟨h1,h2,hb.trans (h3.mono hb.size)⟩
theorem lZ (hW:IsW w p M F) {F1:Nat->Prop} {h:Int} (hh:0≤h/\h<M.made.length) (t:Th) (hth:t.home=h) (hS:SlAt w F1 t.vl t.v.l) (hvs:∃ a n c,t.vals=.slice a n c) (hc:t.code=.slice none 0 0) (hnm:t.names=.slice none 0 0) (hm:ay t.v=true) (hk:∀ r ∈ aM t.v,(Lit.int .i64 r).wf=true/\(M.at r).isSome=true)
 {T:Th->Prop} (hMake:∀ w',Bl w w'->Calls Tryz.prog 14 #[P_ p,.agg (aF t)] w' (MadeG w' p M F h T)) :
 Calls Tryz.prog 156 #[P_ p,.agg (aF t)] w (MadeG w p M F h T):=by
 obtain⟨pa,c,hv⟩:=hS.form;obtain⟨ps,ns,cs,hvals⟩:=hvs;have hb0:Bl w (w.alloc (.cells (aF t) 46)):=br.alloc aH _;have HMay:Hid _:=ti (hW.below hb0) hh t.v t.vl (hS.on hb0) hm hk;have HMk:Hid _:=hMake;have HB0:Hid _:=And.intro hb0 (ai w (.cells (aF t) 46));clear hS hW hb0 hm hk hMake hh;obtain⟨k,h',⟨vk,vn,vstr,vlist,vr⟩,raw,vs,vals,n,l,tg,bi,s,fu,code,names⟩:=t;simp only at hth hv hvals hc hnm;subst hth hv hvals hc hnm;simp only [aF,au]at HMay HMk HB0 ⊢
 go_enter Tryz.func156,Tryz.ntmps156
 go_wp2_with fail
 refine Calls.mono HMay.out ?_;rintro e w1 ⟨rfl,hb1⟩;have b1:=ae hb1 HB0.out.2;have l1:=aD b1 rfl;have HB1:Hid (Bl w w1):=HB0.out.1.trans (hb1.mono HB0.out.1.size);clear hb1 b1
 go_wp2_with fail
 refine Calls.mono (HMk.out _ HB1.out) ?_;rintro e w2 hmade;have hmade:=hmade.start HB1.out
 rcases hmade with ⟨h1,rfl,h3⟩ | ⟨h1,rfl,h3⟩
 ·have H:Hid _:=And.intro h1 h3;clear h1 h3
  go_wp2_with fail
  go_ret2
  exact .inl ⟨H.out.1,rfl,H.out.2⟩
 ·have H:Hid _:=And.intro h1 h3;clear h1 h3
  go_wp2_with fail
  go_ret2
  exact .inr ⟨by have:=H.out.1;omega,rfl,H.out.2⟩
theorem MadeL.toG {h:Int} {t:Th} {e:Ending} {w':World} (hm:MadeL w p M F h t e w'):MadeG w p M F h (fun u=>u=t) e w':=by
 rcases hm with ⟨h1,h2,F',h4,h5⟩ | h
 ·exact .inl ⟨h1,h2,t,F',rfl,h4,h5⟩
 ·exact .inr h
theorem aZ (vk vn:Int) (h:Plain vk vn):aM ⟨vk,vn,⟨#[]⟩,[],0⟩ = []/\ay ⟨vk,vn,⟨#[]⟩,[],0⟩=true:=by
 rcases h with ⟨rfl,rfl⟩ | rfl
 ·exact⟨by rfl,by rfl⟩
 ·constructor
  ·show (if ay _ then aN 16 _ else []) = []
   split <;> rfl
  ·rfl
theorem zf (hW:IsW w p M F) (hl:M.last+1≤1099511627776) {h:Int} (hh:0≤h/\h<M.made.length):Calls Tryz.prog 84 #[P_ p,J h] w (MadeG w p M F h (fun t=>t=lt 2 h 0 0 0 0 0 0 0 false)):=by
 have HM:Hid (Calls Tryz.prog 156 #[P_ p,.agg (aF (lt 2 h 0 0 0 0 0 0 0 false))] w (MadeG w p M F h (fun t=>t=lt 2 h 0 0 0 0 0 0 0 false))) :=
  lZ hW hh (lt 2 h 0 0 0 0 0 0 0 false) rfl (SlAt.nil w F none 0) ⟨_,_,_,rfl⟩ rfl rfl (aZ 0 0 (.inl ⟨rfl,rfl⟩)).2 (fun r hr=>by rw [(aZ 0 0 (.inl ⟨rfl,rfl⟩)).1]at hr;cases hr) fun w' hb=>(xz (hW.below hb) hl hh).mono fun _ _ h=>h.toG
 clear hW hl hh;rw [bS]at HM
 go_enter Tryz.func84,Tryz.ntmps84
 go_wp2_with fail
 refine Calls.mono HM.out ?_;rintro e w2 (⟨h1,rfl,h3⟩ | ⟨h1,rfl,h3⟩)
 ·have H:Hid _:=And.intro h1 h3;clear h1 h3 HM
  go_wp2_with fail
  go_ret2
  exact .inl ⟨H.out.1,rfl,H.out.2⟩
 ·have H:Hid _:=And.intro h1 h3;clear h1 h3 HM
  go_wp2_with fail
  go_ret2
  exact .inr ⟨by have:=H.out.1;omega,rfl,H.out.2⟩
theorem ws (hW:IsW w p M F) (hl:M.last+1≤1099511627776) {h:Int} (hh:0≤h/\h<M.made.length):Calls Tryz.prog 85 #[P_ p,J h] w (MadeG w p M F h (fun t=>t=lt 3 h 0 0 0 0 0 0 0 false)):=by
 have HM:Hid (Calls Tryz.prog 156 #[P_ p,.agg (aF (lt 3 h 0 0 0 0 0 0 0 false))] w (MadeG w p M F h (fun t=>t=lt 3 h 0 0 0 0 0 0 0 false))) :=
  lZ hW hh (lt 3 h 0 0 0 0 0 0 0 false) rfl (SlAt.nil w F none 0) ⟨_,_,_,rfl⟩ rfl rfl (aZ 0 0 (.inl ⟨rfl,rfl⟩)).2 (fun r hr=>by rw [(aZ 0 0 (.inl ⟨rfl,rfl⟩)).1]at hr;cases hr) fun w' hb=>(yH (hW.below hb) hl hh (n:=0) ⟨by decide,by decide⟩).mono fun _ _ h=>h.toG
 clear hW hl hh;rw [bS]at HM
 go_enter Tryz.func85,Tryz.ntmps85
 go_wp2_with fail
 refine Calls.mono HM.out ?_;rintro e w2 (⟨h1,rfl,h3⟩ | ⟨h1,rfl,h3⟩)
 ·have H:Hid _:=And.intro h1 h3;clear h1 h3 HM
  go_wp2_with fail
  go_ret2
  exact .inl ⟨H.out.1,rfl,H.out.2⟩
 ·have H:Hid _:=And.intro h1 h3;clear h1 h3 HM
  go_wp2_with fail
  go_ret2
  exact .inr ⟨by have:=H.out.1;omega,rfl,H.out.2⟩
theorem qi (hW:IsW w p M F) (hl:M.last+1≤1099511627776) {h:Int} (hh:0≤h/\h<M.made.length):Calls Tryz.prog 66 #[P_ p,J h] w (MadeG w p M F h (fun t=>t=lt 4 h 0 0 0 0 0 0 0 false)):=by
 have HM:Hid (Calls Tryz.prog 156 #[P_ p,.agg (aF (lt 4 h 0 0 0 0 0 0 0 false))] w (MadeG w p M F h (fun t=>t=lt 4 h 0 0 0 0 0 0 0 false))) :=
  lZ hW hh (lt 4 h 0 0 0 0 0 0 0 false) rfl (SlAt.nil w F none 0) ⟨_,_,_,rfl⟩ rfl rfl (aZ 0 0 (.inl ⟨rfl,rfl⟩)).2 (fun r hr=>by rw [(aZ 0 0 (.inl ⟨rfl,rfl⟩)).1]at hr;cases hr) fun w' hb=>(yG (hW.below hb) hl hh).mono fun _ _ h=>h.toG
 clear hW hl hh;rw [bS]at HM
 go_enter Tryz.func66,Tryz.ntmps66
 go_wp2_with fail
 refine Calls.mono HM.out ?_;rintro e w2 (⟨h1,rfl,h3⟩ | ⟨h1,rfl,h3⟩)
 ·have H:Hid _:=And.intro h1 h3;clear h1 h3 HM
  go_wp2_with fail
  go_ret2
  exact .inl ⟨H.out.1,rfl,H.out.2⟩
 ·have H:Hid _:=And.intro h1 h3;clear h1 h3 HM
  go_wp2_with fail
  go_ret2
  exact .inr ⟨by have:=H.out.1;omega,rfl,H.out.2⟩
abbrev bn (h:Int) (v:Val) (raw:Value):Th:=⟨1,h,v,raw,[],S_,0,0,0,0,0,false,S_,S_⟩
theorem vW (w:World) (q:Option Addr) (r h vk vn vr:Int) (vstr:ByteArray) (pv:Option Addr) (nv cv:Nat):Calls Tryz.prog 78 #[.pointer q,J r,.agg (X_ 1 h vk vn vstr (.slice pv nv cv) vr (S_) 0 0 0 0 0 false)] w fun e w'=>e=.returned (.bool true)/\Below w.heap.size w w':=by
 go_enter Tryz.func78,Tryz.ntmps78
 go_wp2
 go_ret
 exact⟨rfl,by go_grown⟩
theorem ia {h:Int} {v:Val} {raw:Value} (hk:∀ r ∈ aM v,(Lit.int .i64 r).wf=true/\(M.at r).isSome=true):cX M (bn h v raw)=true/\∀ r ∈ bk (bn h v raw),(Lit.int .i64 r).wf=true:=by
 have e:bk (bn h v raw)=aM v:=by simp [bk]
 unfold cX;rw [e];exact⟨by rw [List.all_eq_true];exact fun r hr=>(hk r hr).2,fun r hr=>(hk r hr).1⟩
theorem uV (hW:IsW w p M F) (hl:M.last+1≤1099511627776) {h:Int} (home:0≤h/\h<M.made.length) {F1:Nat->Prop} (v:Val) (raw:Value) (hS:SlAt w F1 raw v.l) (hm:ay v=true) (hk:∀ r ∈ aM v,(Lit.int .i64 r).wf=true/\(M.at r).isSome=true) :
 Calls Tryz.prog 14 #[P_ p,.agg (aF (bn h v raw))] w (MadeG w p M F h (fun t=>∃ vl',t=bn h v vl')):=by
 obtain⟨pa,c,rfl⟩:=hS.form;have hL:Lies w F1 (bn h v (.slice pa v.l.length c)):=⟨hS,SlAt.nil _ _ _ _,rfl,rfl⟩
 refine ft hW (T:=fun t=>∃ vl',t=bn h v vl') (c2:=U v.kind) (c3:=J v.n) (c4:=.string v.s) (c5:=.slice pa v.l.length c) (c6:=J v.r) (c7:=S_) (c14:=S_) (c15:=S_) {
  form:=fun w1 hb=>qU (hW.below hb) (sideB_iff.2 home) (ya (hS.on hb) hm) oY
  names:=fun w1 hb=>by
   have:=qj (hW.below hb) _ (hL.on hb) (Nat.zero_le _) (ia (M:=M) hk).2;rw [(ia (M:=M) hk).1]at this;exact this
  fits:=fun w1 hb=>vW w1 _ 0 h _ _ _ _ _ _ _
  own:=fun w1 hb=>(eL _ (hL.on hb) hm (fun x hx=>by cases hx) (Nat.zero_le _)).mono fun e w' ⟨vl',vals',he,hb',hd,_,h2,_⟩=>by
   have h3:=h2 rfl;subst h3;refine⟨_,⟨vl',rfl⟩,he,hb',⟨hd.v.monoLt fun b hb h2=>⟨hb,h2⟩,SlT.nil _ _ _ _,rfl,rfl⟩⟩
  k14:=rfl
  k13:=fun e=>absurd (show (1:Int)=13 from e) (by decide)
  tgw:=rfl
  biw:=rfl
  home:=home
  hA:=fun e=>absurd (show ec 1=true from e) (by decide)
  hB:=fun e=>absurd (show fI 1=true from e) (by decide)
  add:=fun hr t ht=>by
   obtain⟨vl',rfl⟩:=ht
   exact⟨rfl,rfl,rfl,{
    wf:=⟨by show (1:Int)≤1/\(1:Int)≤16;decide,rfl,rfl,by show (0:Int)≤0/\(0:Int)≤255;decide⟩
    last:=hl
    home:=fun _=>home
    made:=fun _=>hr
    wrap:=fun e=>absurd (show cC 1=true from e) (by decide)
    gate:=fun e=>absurd (show (1:Int)=15 from e) (by decide)
    purse:=fun e=>absurd (show (1:Int)=9 from e) (by decide)
    facet:=fun e=>absurd (show (1:Int)=14 from e) (by decide) }⟩ }
theorem tx (hW:IsW w p M F) (hl:M.last+1≤1099511627776) {h:Int} (hh:0≤h/\h<M.made.length) {F1:Nat->Prop} (v:Val) (raw:Value) (hS:SlAt w F1 raw v.l) (hm:ay v=true) (hk:∀ r ∈ aM v,(Lit.int .i64 r).wf=true/\(M.at r).isSome=true) :
 Calls Tryz.prog 64 #[P_ p,J h,.agg (au v raw)] w (MadeG w p M F h (fun t=>∃ vl',t=bn h v vl')):=by
 obtain⟨pa,c,rfl⟩:=hS.form;have hb0:Bl w (w.alloc (.cells (au v (.slice pa v.l.length c)) 27)):=br.alloc aH _;have HM:Hid _:=And.intro hb0 (lZ (hW.below hb0) hh (bn h v (.slice pa v.l.length c)) rfl (hS.on hb0) ⟨_,_,_,rfl⟩ rfl rfl hm hk fun w' hb=>uV ((hW.below hb0).below hb) hl hh v _ ((hS.on hb0).on hb) hm hk);clear hW hl hh hS hm hk hb0;obtain⟨vk,vn,vstr,vl,vr⟩:=v;simp only [aF,au]at HM ⊢
 go_enter Tryz.func64,Tryz.ntmps64
 go_wp2_with fail
 refine Calls.mono HM.out.2 ?_;rintro e w2 h0
 rcases h0.start HM.out.1 with ⟨h1,rfl,h3⟩ | ⟨h1,rfl,h3⟩
 ·have H:Hid _:=And.intro h1 h3;clear h1 h3 HM h0
  go_wp2_with fail
  go_ret2
  exact .inl ⟨H.out.1,rfl,H.out.2⟩
 ·have H:Hid _:=And.intro h1 h3;clear h1 h3 HM h0
  go_wp2_with fail
  go_ret2
  exact .inr ⟨by have:=H.out.1;omega,rfl,H.out.2⟩
end
section
def bj (p:Nat) (r:Int) (t:Th):Array Value :=
 #[P_ p,J r,U t.kind,J t.home,U t.v.kind,J t.v.n,.string t.v.s,t.vl,J t.v.r,t.vals,J t.n,J t.lost,J t.tgt,J t.bi,U t.set,.bool t.full,t.code,t.names]
def eg:Array Value:=#[.pointer none,J 0,U 0,J 0,U 0,J 0,T_,S_,J 0,S_,J 0,J 0,J 0,J 0,U 0,.bool false,S_,S_]
theorem mR:(Tryz.prog.info? 163).map (·.size)=some 18:=by kernel_rfl
def alB:Sem Next:=do pure (.value (← Instr.alloc 163 true (.tuple #[])))
def zz (a:Value):Sem Next:=do pure (.value (← Instr.loadAt 163 a))
def zx (a x:Value):Sem Next:=do Instr.storeAt 163 a x;pure .skip
def uX (a b c:Value):Sem Next:=do pure (.value (← Instr.build 163 #[(0,a),(1,b),(2,c)]))
def wg (ty:TypeId) (a:Value):Sem Next:=do pure (.value (← Instr.build ty #[(0,a)]))
def xI (ty:TypeId) (a:Value):Sem Next:=do pure (.value (← Instr.box ty a))
theorem ju (ρ:Operand->Value) (d:Option Tmp) (ty:TypeId) (pos:String) (af:Array Edge) (g:Option (Nat × Bool)) :
 execOp ρ { dst:=d,op:=.alloc 163,type:=ty,pos:=pos,after:=af,guard:=g } = alB:=rfl
theorem js (ρ:Operand->Value) (d:Option Tmp) (a:Operand) (ty:TypeId) (pos:String) (af:Array Edge) (g:Option (Nat × Bool)) :
 execOp ρ { dst:=d,op:=.load 163 a,type:=ty,pos:=pos,after:=af,guard:=g } = zz (ρ a):=rfl
theorem kx (ρ:Operand->Value) (d:Option Tmp) (a x:Operand) (ty:TypeId) (pos:String) (af:Array Edge) (g:Option (Nat × Bool)) :
 execOp ρ { dst:=d,op:=.store 163 a x,type:=ty,pos:=pos,after:=af,guard:=g } = zx (ρ a) (ρ x):=rfl
theorem im (ρ:Operand->Value) (d:Option Tmp) (a b c:Operand) (ty:TypeId) (pos:String) (af:Array Edge) (g:Option (Nat × Bool)) :
 execOp ρ { dst:=d,op:=.build 163 #[(0,a),(1,b),(2,c)],type:=ty,pos:=pos,after:=af,guard:=g } = uX (ρ a) (ρ b) (ρ c):=by simp [execOp,uX]
theorem qB (w:World):alB.run Tryz.prog w=.ok (.value (P_ w.heap.size)) (w.alloc (.cells eg 163)):=by
 simp [alB,eg,go_sem]
theorem vz {w:World} {b:Nat} {cs:Array Value} {fr:Nat × Nat} (hg:w.heap[b]? = some (.cells cs 163 fr)) (hs:cs.size=18):(zz (P_ b)).run Tryz.prog w=.ok (.value (.agg cs)) w:=by
 have:=cA hg Tryz.underlying163 rfl (by rw [hs];exact mR);simp only [zz,Sem.run_bind,this,Result.andThen,Sem.run_pure]
theorem pW {w:World} {b:Nat} {c c':Array Value} (hg:w.heap[b]? = some (.cells c 163 (0,0))) (hs:c.size=18) (hs':c'.size=18) (h1:c'.all (·.oneCell')=true) :
 (zx (P_ b) (.agg c')).run Tryz.prog w=.ok .skip (w.setRow b c'):=by
 have:=bI (P:=Tryz.prog) hg (by rw [hs'];exact mR) (by rw [hs,hs']) h1;simp only [zx,Sem.run_bind,this,Result.andThen,Sem.run_pure]
theorem nx (w:World) (p:Nat) (r:Int) {x0 x1 x2 x3 x4 x5 x6 x7 x8 x9 x10 x11 x12 x13 x14 x15:Value}:(uX (.pointer (some ⟨p,0,none⟩)) (.int .i64 r) (.agg #[x0,x1,x2,x3,x4,x5,x6,x7,x8,x9,x10,x11,x12,x13,x14,x15])).run Tryz.prog w =
 .ok (.value (.agg #[.pointer (some ⟨p,0,none⟩),.int .i64 r,x0,x1,x2,x3,x4,x5,x6,x7,x8,x9,x10,x11,x12,x13,x14,x15])) w:=by
 have h:Tryz.prog.built 163 [(0,.pointer (some ⟨p,0,none⟩)),(1,.int .i64 r),(2,.agg #[x0,x1,x2,x3,x4,x5,x6,x7,x8,x9,x10,x11,x12,x13,x14,x15])]=some #[.pointer (some ⟨p,0,none⟩),.int .i64 r,x0,x1,x2,x3,x4,x5,x6,x7,x8,x9,x10,x11,x12,x13,x14,x15]:=by kernel_rfl
 have:=run_build (P:=Tryz.prog) w 163 #[(0,.pointer (some ⟨p,0,none⟩)),(1,.int .i64 r),(2,.agg #[x0,x1,x2,x3,x4,x5,x6,x7,x8,x9,x10,x11,x12,x13,x14,x15])] _ h;simp only [uX,Sem.run_bind,this,Result.andThen,Sem.run_pure]
def jT (k:Int) (tp tf:TypeId):Prop :=
 (k=1/\tp=160/\tf=247)\/(k=2/\tp=161/\tf=165)\/(k=3/\tp=248/\tf=249)\/(k=4/\tp=166/\tf=167)\/(k=10/\tp=168/\tf=169)\/(k=11/\tp=250/\tf=251)
theorem yS:jT 1 160 247:=.inl ⟨rfl,rfl,rfl⟩
theorem yO:jT 2 161 165:=.inr (.inl ⟨rfl,rfl,rfl⟩)
theorem yP:jT 3 248 249:=.inr (.inr (.inl ⟨rfl,rfl,rfl⟩))
theorem yR:jT 4 166 167:=.inr (.inr (.inr (.inl ⟨rfl,rfl,rfl⟩)))
theorem pI:jT 10 168 169:=.inr (.inr (.inr (.inr (.inl ⟨rfl,rfl,rfl⟩))))
theorem qZ:jT 11 250 251:=.inr (.inr (.inr (.inr (.inr ⟨rfl,rfl,rfl⟩))))
theorem yg {k:Int} {tp tf:TypeId} (hr:jT k tp tf) (w:World) {y0 y1 x0 x1 x2 x3 x4 x5 x6 x7 x8 x9 x10 x11 x12 x13 x14 x15:Value}:(wg tf (.agg #[y0,y1,x0,x1,x2,x3,x4,x5,x6,x7,x8,x9,x10,x11,x12,x13,x14,x15])).run Tryz.prog w=.ok (.value (.agg #[y0,y1,x0,x1,x2,x3,x4,x5,x6,x7,x8,x9,x10,x11,x12,x13,x14,x15])) w:=by
 have h:Tryz.prog.built tf [(0,.agg #[y0,y1,x0,x1,x2,x3,x4,x5,x6,x7,x8,x9,x10,x11,x12,x13,x14,x15])]=some #[y0,y1,x0,x1,x2,x3,x4,x5,x6,x7,x8,x9,x10,x11,x12,x13,x14,x15]:=by rcases hr with ⟨-,-,rfl⟩ | ⟨-,-,rfl⟩ | ⟨-,-,rfl⟩ | ⟨-,-,rfl⟩ | ⟨-,-,rfl⟩ | ⟨-,-,rfl⟩ <;> kernel_rfl
 have:=run_build (P:=Tryz.prog) w tf #[(0,.agg #[y0,y1,x0,x1,x2,x3,x4,x5,x6,x7,x8,x9,x10,x11,x12,x13,x14,x15])] _ h;simp only [wg,Sem.run_bind,this,Result.andThen,Sem.run_pure]
theorem xT (tf:TypeId) (w:World) {cs:Array Value}:(xI tf (.agg cs)).run Tryz.prog w=.ok (.value (P_ w.heap.size)) (w.alloc (.cells cs tf)):=by
 simp [xI,go_sem]
theorem mM (ρ:Operand->Value) (d:Option Tmp) (t:TypeId) (a:Operand) (ty:TypeId) (pos:String) (af:Array Edge) (g:Option (Nat × Bool)) :
 execOp ρ { dst:=d,op:=.build t #[(0,a)],type:=ty,pos:=pos,after:=af,guard:=g } = wg t (ρ a):=by simp [execOp,wg]
theorem nV (ρ:Operand->Value) (d:Option Tmp) (t:TypeId) (a:Operand) (ty:TypeId) (pos:String) (af:Array Edge) (g:Option (Nat × Bool)) :
 execOp ρ { dst:=d,op:=.box t a,type:=ty,pos:=pos,after:=af,guard:=g } = xI t (ρ a):=rfl
end
section
variable {w:World} {p:Nat} {M:WM} {F:Nat->Prop}
def FoundB (w:World) (p:Nat) (r:Int) (t:Th) (ty:TypeId) (b:Nat) (w':World):Prop :=
 ∃ vl' vals',w'.heap[b]? = some (.cells (bj p r { t with vl:=vl',vals:=vals' }) ty (0,0))/\w.heap.size≤b/\Bl w w'/\Deep w' (fun x=>w.heap.size≤x) { t with vl:=vl',vals:=vals' } /\
   (t.v.l = []->vl'=.slice none 0 0)/\(t.vals=.slice none 0 0->vals'=.slice none 0 0)/\dQ vals'
attribute [local go_sem ↓] ju js kx im mM nV in
theorem ed {k:Int} {tp tf:TypeId} (hrow:jT k tp tf) (hW:IsW w p M F) {r:Int} (hr:(Lit.int .i64 r).wf=true) {t:Th} (ht:M.at r=some t) (hf:Fair t) (hk:t.kind=k) :
 Calls Tryz.prog 93 #[P_ p,J r] w fun e w'=>∃ b,e=.returned (.tuple #[.iface tp (P_ b),J 0])/\FoundB w p r t tf b w':=by
 have HW:Hid _:=pD hW hr ht hf;clear hW ht hf;obtain⟨k,h,⟨vk,vn,vstr,vl,vr⟩,raw,vs,vals,n,l,tg,bi,s,fu,code,names⟩:=t;simp only at hk;subst hk;simp only [aF]at HW
 go_enter Tryz.func93,Tryz.ntmps93
 go_wp2_with fail
 refine Calls.mono HW.out ?_;rintro e w1 ⟨vl',vals',rfl,hb1,hd1,hn1,hn2,hn3⟩;obtain⟨pv,cv,hv⟩:=hd1.v.form;obtain⟨ps,cs,hs⟩:=hd1.vs.form;have hcode:=hd1.code;have hnames:=hd1.names;simp only at hv hs hcode hnames hn1 hn2;subst hv hs hcode hnames;have hal:=qB (w1.alloc (.cells (X_ k h vk vn vstr (.slice pv vl.length cv) vr (.slice ps vs.length cs) n l tg bi s fu) 46));rw [World.size_alloc]at hal;have g2:=aG (w1.alloc (.cells (X_ k h vk vn vstr (.slice pv vl.length cv) vr (.slice ps vs.length cs) n l tg bi s fu) 46)) (.cells eg 163) (ai w1 (.cells (X_ k h vk vn vstr (.slice pv vl.length cv) vr (.slice ps vs.length cs) n l tg bi s fu) 46));have g3:=ai (w1.alloc (.cells (X_ k h vk vn vstr (.slice pv vl.length cv) vr (.slice ps vs.length cs) n l tg bi s fu) 46)) (.cells eg 163);rw [World.size_alloc]at g3;have hb2:Bl w1 ((w1.alloc (.cells (X_ k h vk vn vstr (.slice pv vl.length cv) vr (.slice ps vs.length cs) n l tg bi s fu) 46)).alloc (.cells eg 163)):=(br.alloc aH _).alloc (by simp) _;have hst0:=pW (c':=#[P_ p,J r,U k,J h,U vk,J vn,.string vstr,.slice pv vl.length cv,J vr,.slice ps vs.length cs,J n,J l,J tg,J bi,U s,.bool fu,S_,S_]) g3 rfl rfl (by simp [go_sem,show (Value.pointer (some ⟨p,0,none⟩)).oneCell'=true from rfl]);have hbld:=fun w0:World=>nx w0 p r (x0:=U k) (x1:=J h) (x2:=U vk) (x3:=J vn) (x4:=.string vstr) (x5:=.slice pv vl.length cv) (x6:=J vr) (x7:=.slice ps vs.length cs) (x8:=J n) (x9:=J l) (x10:=J tg) (x11:=J bi) (x12:=U s) (x13:=.bool fu) (x14:=S_) (x15:=S_);have hg2:=(aj _ (w1.heap.size+1) #[P_ p,J r,U k,J h,U vk,J vn,.string vstr,.slice pv vl.length cv,J vr,.slice ps vs.length cs,J n,J l,J tg,J bi,U s,.bool fu,S_,S_] w1.heap.size (by omega)).trans g2;have hg3:=ah (c':=#[P_ p,J r,U k,J h,U vk,J vn,.string vstr,.slice pv vl.length cv,J vr,.slice ps vs.length cs,J n,J l,J tg,J bi,U s,.bool fu,S_,S_]) g3;have hb3:=Below.setRow hb2 (Nat.le_succ _) #[P_ p,J r,U k,J h,U vk,J vn,.string vstr,.slice pv vl.length cv,J vr,.slice ps vs.length cs,J n,J l,J tg,J bi,U s,.bool fu,S_,S_];have hz3:(((w1.alloc (.cells (X_ k h vk vn vstr (.slice pv vl.length cv) vr (.slice ps vs.length cs) n l tg bi s fu) 46)).alloc (.cells eg 163)).setRow (w1.heap.size+1) #[P_ p,J r,U k,J h,U vk,J vn,.string vstr,.slice pv vl.length cv,J vr,.slice ps vs.length cs,J n,J l,J tg,J bi,U s,.bool fu,S_,S_]).heap.size=w1.heap.size+2:=by simp [World.setRow]
 revert hal hst0 hg2 hg3 hb3 hz3;clear g2 g3 hb2;generalize World.setRow _ _ _=w4;generalize ((w1.alloc (.cells (X_ k h vk vn vstr (.slice pv vl.length cv) vr (.slice ps vs.length cs) n l tg bi s fu) 46)).alloc (.cells eg 163))=w3;intro hal hst hg2 hg3 hb3 hz3;have c0:w4.cell? ⟨w1.heap.size,0,none⟩=some (.int .u8 k):=by rw [ag hg2];rfl
 have hld:=vz hg3 rfl;have hbk:=yg hrow w4 (y0:=P_ p) (y1:=J r) (x0:=U k) (x1:=J h) (x2:=U vk) (x3:=J vn) (x4:=.string vstr) (x5:=.slice pv vl.length cv) (x6:=J vr) (x7:=.slice ps vs.length cs) (x8:=J n) (x9:=J l) (x10:=J tg) (x11:=J bi) (x12:=U s) (x13:=.bool fu) (x14:=S_) (x15:=S_);have hbox:=xT tf w4 (cs:=#[P_ p,J r,U k,J h,U vk,J vn,.string vstr,.slice pv vl.length cv,J vr,.slice ps vs.length cs,J n,J l,J tg,J bi,U s,.bool fu,S_,S_])
 have HX:Hid (∀ w5,w5=w4.alloc (.cells #[P_ p,J r,U k,J h,U vk,J vn,.string vstr,.slice pv vl.length cv,J vr,.slice ps vs.length cs,J n,J l,J tg,J bi,U s,.bool fu,S_,S_] tf)->FoundB w p r ⟨k,h,⟨vk,vn,vstr,vl,vr⟩,raw,vs,vals,n,l,tg,bi,s,fu,S_,S_⟩ tf w4.heap.size w5):=by
  intro w5 e;subst e;have hbb:Bl w1 (w4.alloc (.cells #[P_ p,J r,U k,J h,U vk,J vn,.string vstr,.slice pv vl.length cv,J vr,.slice ps vs.length cs,J n,J l,J tg,J bi,U s,.bool fu,S_,S_] tf)):=hb3.alloc (by omega) _;exact⟨_,_,ai _ _,by have:=hb1.size;omega,hb1.trans (hbb.mono hb1.size),hd1.on hbb,hn1,hn2,hn3⟩
 clear hg2 hg3 hb3 hb1 hd1 HW hn1 hn2 hn3 hz3
 rcases hrow with ⟨rfl,rfl,rfl⟩ | ⟨rfl,rfl,rfl⟩ | ⟨rfl,rfl,rfl⟩ | ⟨rfl,rfl,rfl⟩ | ⟨rfl,rfl,rfl⟩ | ⟨rfl,rfl,rfl⟩
 all_goals
  go_wp2_with fail
  go_ret2
  exact⟨_,rfl,HX.out _ rfl⟩
end
end Go.Proofs.YthaliljaglldjaaGreat
