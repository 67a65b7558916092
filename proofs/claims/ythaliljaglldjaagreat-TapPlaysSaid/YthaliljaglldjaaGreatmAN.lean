/- Part of the proof. -/
import Derived.Test.YthaliljaglldjaaGreatmAM
namespace Go.Proofs.YthaliljaglldjaaGreat
set_option maxHeartbeats 16000000
set_option maxRecDepth 20000
open Go.RowKit Go.ChangeMaps Go.MapKept
section
theorem nil_wf:(⟨0,0,⟨#[]⟩,[],0⟩:Val).wf:=.inl rfl
theorem may4_nil (w:World):Calls Tryz.prog 174 #[.agg #[.int .u8 0,.int .i64 0,.string ⟨#[]⟩,.slice none 0 0,.int .i64 0]] w fun e w'=>e=.returned (.bool true)/\Bl w w':=by
 have h:=may4_W (w:=w) (F:=fun _=>False) (v:=⟨0,0,⟨#[]⟩,[],0⟩) (raw:=.slice none 0 0) nil_wf (SlAt.nil _ _ _ _);rw [(by rfl:mayV ⟨0,0,⟨#[]⟩,[],0⟩=true)]at h;exact h
theorem same4_nil (w:World):Calls Tryz.prog 178 #[.agg #[.int .u8 0,.int .i64 0,.string ⟨#[]⟩,.slice none 0 0,.int .i64 0],.agg #[.int .u8 0,.int .i64 0,.string ⟨#[]⟩,.slice none 0 0,.int .i64 0]] w fun e w'=>e=.returned (.bool true)/\Bl w w':=by
 refine(same4_G ⟨0,0,⟨#[]⟩,[],0⟩ nil_wf ⟨0,0,⟨#[]⟩,[],0⟩ (.slice none 0 0) (.slice none 0 0) w (fun _=>False) (fun _=>False) (SlAt.nil _ _ _ _) (SlAt.nil _ _ _ _)).mono ?_;rintro e w' ⟨B,rfl,hB,hb⟩;rw [hB.2 rfl];exact⟨rfl,hb⟩
theorem size7_nil (w:World):Calls Tryz.prog 176 #[.slice none 0 0] w fun e w'=>e=.returned (.int .i64 0)/\w=w':=by
 go_enter Tryz.func176,Tryz.ntmps176
 go_wp2_with fail
 go_loopw [3,4] (fun vo vi wr=>vo=.int .i64 0/\vi=.int .i64 0/\wr=w) (fun _ _ _=>0)
 case atStart=>exact⟨rfl,rfl,rfl⟩
 case round =>
  obtain⟨rfl,rfl,rfl⟩:=hrel
  go_wp2_with fail
  go_ret
  exact⟨rfl,rfl⟩
theorem cfits7_nil (w:World):Calls Tryz.prog 177 #[.slice none 0 0] w fun e w'=>e=.returned (.bool true)/\w=w':=by
 go_enter Tryz.func177,Tryz.ntmps177
 go_wp2_with fail
 go_loopw [3] (fun vi wr=>vi=.int .i64 0/\wr=w) (fun _ _=>0)
 case atStart=>exact⟨rfl,rfl⟩
 case round =>
  obtain⟨rfl,rfl⟩:=hrel
  go_wp2_with fail
  go_ret
  exact⟨rfl,rfl⟩
theorem list7_W (w:World) (p:Option Addr) (n c:Nat):Calls Tryz.prog 175 #[.slice p n c] w fun e w'=>e=.returned (.agg #[.int .u8 3,.int .i64 0,.string ⟨#[]⟩,.slice p n c,.int .i64 0])/\Below w.heap.size w w':=by
 go_enter Tryz.func175,Tryz.ntmps175
 go_wp2_with fail
 go_returns
 exact⟨rfl,by go_grown⟩
theorem two_what (w:World) (A B:Array Value):∀ wx,wx=(w.alloc (.cells A 46)).alloc (.cells B 46)\/wx=((w.alloc (.cells A 46)).alloc (.cells B 46)).drew->Bl w wx/\wx.heap[w.heap.size]? = some (.cells A 46 (0,0))/\wx.heap[w.heap.size+1]? = some (.cells B 46 (0,0)):=by
 intro wx e;have key:=And.intro (((Below.refl _ w).alloc (Nat.le_refl _) (.cells A 46)).alloc (by simp) (.cells B 46)) (And.intro (blk2_old w (.cells A 46) (.cells B 46)) (blk2_new w (.cells A 46) (.cells B 46)))
 rcases e with e | e
 ·subst e;exact key
 ·subst e;exact⟨key.1.trans (below_drew.mono key.1.size),key.2⟩
def f7 (t:Th):Th where
 kind:=t.kind
 home:=if t.kind=14 then 0 else t.home
 v:=if t.kind=1\/t.kind=7\/t.kind=10 then t.v else ⟨0,0,⟨#[]⟩,[],0⟩
 vl:=if t.kind=1\/t.kind=7\/t.kind=10 then t.vl else .slice none 0 0
 vs:=[]
 vals:=.slice none 0 0
 n:=if t.kind=3\/t.kind=8\/t.kind=9 then t.n else 0
 lost:=if t.kind=8 then t.lost else 0
 tgt:=if t.kind=6\/t.kind=7\/t.kind=9\/t.kind=11\/13≤t.kind then t.tgt else 0
 bi:=if 15≤t.kind then t.bi else 0
 set:=if t.kind=14 then t.set else 0
 full:=if t.kind=10\/t.kind=13 then t.full else false
 code:=.slice none 0 0
 names:=.slice none 0 0
structure F7 (w:World) (t:Th) (sides:Int) (wx:World):Prop where
 kind:1≤t.kind/\t.kind≤16
 side:t.kind≠14->0≤t.home/\t.home<sides
 vals:t.kind=2\/t.kind=4->t.vs.length≤512/\mayV (listV t.vs)=true
 mint:t.kind=8->0≤t.lost/\t.lost≤t.n
 prom:t.kind=10->t.full=false->t.v.kind=0
 bel:Bl w wx
 x:wx.heap[w.heap.size]? = some (.cells (thc t) 46 (0,0))
 y:wx.heap[w.heap.size+1]? = some (.cells (thc (f7 t)) 46 (0,0))
end
section
theorem ownsRow_int {w:World} {n:Nat} {v:Value} {xs:List Int} {base:Nat} {e:TypeId} (h:w.ownsRow base e 1 v n (xs.map (Value.int .i64))) {j:Nat} {x:Int} (hx:xs[j]? = some x) :
 ∃ g c,v=.slice (some ⟨g,0,none⟩) n c/\w.cell? ⟨g,j,none⟩=some (.int .i64 x)/\w.frozen? ⟨g,j,none⟩=false/\g<w.heap.size:=by
 obtain⟨h1,⟨rfl,h0⟩ | ⟨g,cap,cur,rfl,hg,hb,hc,hm,hcs,ht⟩⟩:=h
 ·subst h0;simp at h1;subst h1;simp at hx
 ·refine⟨g,cap,rfl,?_,frozen_blk hb j,blk_lt hb⟩;rw [cell_blk hb,← Array.getElem?_toList];have h2:(xs.map (Value.int .i64))[j]? = some (.int .i64 x):=by rw [List.getElem?_map,hx];rfl
  rw [<- ht,List.getElem?_take]at h2;split at h2
  ·exact h2
  ·cases h2
theorem ownsRow_set {w:World} {n c g:Nat} {xs:List Value} {base:Nat} {e:TypeId} (h:w.ownsRow base e 1 (.slice (some ⟨g,0,none⟩) n c) n xs) (j:Nat) (y:Value) :
 (w.setCell ⟨g,j,none⟩ y).ownsRow base e 1 (.slice (some ⟨g,0,none⟩) n c) n (xs.set j y):=by
 obtain⟨h1,⟨h2,-⟩ | ⟨g',cap,cur,h2,hg,hb,hc,hm,hcs,ht⟩⟩:=h
 ·cases h2
 ·cases h2
  refine⟨by simpa using h1,.inr ⟨g,c,cur.setIfInBounds j y,rfl,hg,blk_setCell hb j y,hc,hm,by simpa using hcs,?_⟩⟩;rw [Array.toList_setIfInBounds,List.take_set,ht]
theorem RVw.count {w:World} {q:Nat} {M:WM} {G:Nat->Prop} {sP sC sT sM:Value} (h:RVw w q M G sP sC sT sM) {g c:Nat} (hs:sM=.slice (some ⟨g,0,none⟩) M.made.length c) (j:Nat) (y:Int) :
 RVw (w.setCell ⟨g,j,none⟩ (.int .i64 y)) q { M with made:=M.made.set j y } G sP sC sT sM/\Keeps G w (w.setCell ⟨g,j,none⟩ (.int .i64 y)):=by
 have hG:G g:=h.own g (.inr (.inr (.inr (.inr (by rw [hs];rfl)))));have hk:=Keeps.setCell (S:=fun b=>b=g) w ⟨g,j,none⟩ (.int .i64 y) rfl;have hown:sM.ownBlock=some g:=by rw [hs];rfl
 have hqg:q≠g:=fun e=>h.apq.2.2.2 (by rw [hown,e]);refine⟨?_,hk.mono fun b _ e=>by subst e;exact hG⟩
 exact {
  blk:=hk.none h.blk hqg
  rp:=ownsRow_keeps h.rp hk fun b hb e=>(h.app b hb).2.2 (by rw [hown,e])
  rc:=ownsRow_keeps h.rc hk fun b hb e=>(h.apc b hb).2 (by rw [hown,e])
  rt:=ownsRow_keeps h.rt hk fun b hb e=>h.apt b hb (by rw [hown,e])
  rm:=by
   have hr:=h.rm;subst hs;have:=ownsRow_set hr j (.int .i64 y);rw [<- List.map_set]at this
   simpa using this
  own:=h.own
  lt:=fun b hb=>by simpa [World.setCell]using h.lt b hb
  deep:=fun r t ht=>((h.deep r t ht).keeps hk fun b hb _ e=>hb.2.2.2.2.2 (by rw [hown,e])).mono fun b hb=>hb.1
  apq:=h.apq
  app:=h.app
  apc:=h.apc
  apt:=h.apt }
def MakeR (w:World) (q:Nat) (N:WM) (G:Nat->Prop) (t:Th) (aE:Int) (e:Ending) (w':World):Prop :=
 (aE≠0/\e=.returned (.tuple #[.int .i64 0,.int .i64 aE])/\Bl w w') \/
 (aE=0/\¬ N.made.getD t.home.toNat 0<512/\e=.returned (.tuple #[.int .i64 0,.int .i64 8])/\Bl w w') \/
 (aE=0/\N.made.getD t.home.toNat 0<512/\e=.returned (.tuple #[.int .i64 (N.last+1),.int .i64 0])/\∃ vl' vals' G',IsR w' q (N.add { t with vl:=vl',vals:=vals' }) G'/\Keeps G w w'/\(∀ b,G' b->G b\/w.heap.size≤b)/\(t.v.l = []->vl'=.slice none 0 0)/\(t.vs = []->vals'=.slice none 0 0))
theorem make7_W {w:World} {q:Nat} {N:WM} {G F:Nat->Prop} (hR:IsR w q N G) (hl:N.things.length≤100000) (hla:0≤N.last/\N.last≤1099511627776) (hmade:∀ (i:Nat) (x:Int),N.made[i]? = some x->0≤x/\x≤512)
 (t:Th) (h1:SlAt w F t.vl t.v.l) (h2:SlAt w F t.vals t.vs) (hc:t.code=.slice none 0 0) (hn:t.names=.slice none 0 0) (hd:depV 16 t.v) (hds:∀ x ∈ t.vs,depV 16 x) (hvl:t.vs.length≤1000) (hF:∀ b,F b->¬ G b)
 (hhome:0≤t.home/\t.home<N.made.length) (hk:0≤t.kind/\t.kind≤255) (hk13:t.kind≠13/\t.kind≠14/\t.kind≠15) (aE:Int)
 (hform:∀ w',Bl w w'->Calls Tryz.prog 81 #[.agg (thc t),.int .i64 N.made.length] w' fun e w''=>e=.returned (.bool true)/\Bl w' w'')
 (hask:∀ w',Bl w w'->Calls Tryz.prog 82 #[.pointer (some ⟨q,0,none⟩),.int .i64 0,.agg (thc t)] w' fun e w''=>e=.returned (.int .i64 aE)/\Bl w' w'') :
 Calls Tryz.prog 15 #[.pointer (some ⟨q,0,none⟩),.agg (thc t)] w (MakeR w q N G t aE):=by
 have hwk:IntKind.i64.wrap t.kind=t.kind:=by simp [IntKind.wrap,IntKind.signed,IntKind.bits];omega
 obtain⟨hk13,hk14,hk15⟩:=hk13;have k13:(t.kind==13)=false:=by simpa using hk13
 have k14:(t.kind==14)=false:=by simpa using hk14
 have k15:(t.kind==15)=false:=by simpa using hk15
 obtain⟨pv,cv,hv⟩:=h1.form;obtain⟨ps,cs,hvals⟩:=h2.form;obtain⟨j,hj⟩:∃ j:Nat,t.home=j:=⟨t.home.toNat,by omega⟩;have hjn:j<N.made.length:=by omega
 obtain⟨m,hm⟩:∃ m,N.made[j]? = some m:=⟨_,List.getElem?_eq_getElem hjn⟩;have hm512:=hmade j m hm;have hgd:N.made.getD t.home.toNat 0=m:=by rw [hj];simp [List.getD_eq_getElem?_getD,hm]
 have HADD:Hid (∀ (w':World),Keeps G w w'->IsR w' q { N with made:=N.made.set j (m+1) } G->Calls Tryz.prog 83 #[.pointer (some ⟨q,0,none⟩),.agg (thc t)] w' (AddR w' q { N with made:=N.made.set j (m+1) } G t)):=fun w' hk' hR' =>
  add7_W hR' hl hla t (h1.lt.keeps hk' fun b e h=>hF b h.1 e) (h2.lt.keeps hk' fun b e h=>hF b h.1 e) hc hn hd hds hvl (fun b h=>hF b h.1)
 obtain⟨sP,sC,sT,sM,hV⟩:=hR;obtain⟨g,cM,hsM,hcm,hfm,hgl⟩:=ownsRow_int hV.rm hm
 have hone:(thc t).all (·.oneCell')=true:=by
  simp only [thc,hc,hn,hv,hvals];simp [go_sem]
 obtain⟨ln,hln⟩:∃ ln,ln=N.made.length:=⟨_,rfl⟩;rw [<- hln]at hsM;have HV:=(show Hid (RVw w q N G sP sC sT sM)from hV);have HFM:=(show Hid _ from hform);have HAK:=(show Hid _ from hask);have HI:Hid (N.made.getD t.home.toNat 0=m/\t.home=j/\0≤m/\m≤512/\j<ln/\ln=N.made.length):=⟨hgd,hj,hm512.1,hm512.2,by omega,hln⟩;have hwm:wrap64 (m+1)=m+1:=by unfold wrap64;omega
 have DS:Hid (∀ w',Bl w w'->w'.heap[w.heap.size]? = some (.cells (thc t) 46 (0,0))->w'.cell? ⟨q,4,none⟩=some sM/\w'.cell? ⟨w.heap.size,0,none⟩=some (.int .u8 t.kind)/\w'.cell? ⟨w.heap.size,1,none⟩=some (.int .i64 j) /\
  (ldW (.pointer (some ⟨w.heap.size,0,none⟩))).run Tryz.prog w'=.ok (.value (.agg (thc t))) w'/\w'.cell? ⟨g,j,none⟩=some (.int .i64 m)/\w'.frozen? ⟨g,j,none⟩=false):=fun w' hb hx=>by
  have hq:=below_blk hb hV.blk;have hb':w'.heap[g]? = w.heap[g]?:=hb.block g hgl;refine⟨by rw [cell_blk hq];rfl,by rw [cell_blk hx];rfl,by rw [cell_blk hx,← hj];rfl,loadWhat_blk hx rfl,?_,?_⟩
  ·exact(World.cell?_of_block (a:=⟨g,j,none⟩) hb').trans hcm
  ·exact(World.frozen?_of_block (a:=⟨g,j,none⟩) hb').trans hfm
 clear hV hform hask hgd hj hm512 hln h1 h2 hc hn hd hds hvl hF hl hla hmade hhome hk hm hjn hcm hfm hgl hv hvals hone
 go_enter Tryz.func15,Tryz.ntmps15
 go_upto_region 1 with fail
 have H0:Hid (Bl w (w.alloc (.cells (thc t) 46))/\(w.alloc (.cells (thc t) 46)).heap[w.heap.size]? = some (.cells (thc t) 46 (0,0))):=⟨(Below.refl _ w).alloc (Nat.le_refl _) _,blk_new _ _⟩;revert H0;generalize w.alloc _=w0;intro H0
 have ds:Hid (∀ w',Bl w0 w'->w'.cell? ⟨q,4,none⟩=some (.slice (some ⟨g,0,none⟩) ln cM)/\w'.cell? ⟨w.heap.size,0,none⟩=some (.int .u8 t.kind)/\(ldW (.pointer (some ⟨w.heap.size,0,none⟩))).run Tryz.prog w'=.ok (.value (.agg (thc t))) w'/\Bl w w'):=fun w' hb=>by
  have hb':=H0.out.1.trans (hb.mono H0.out.1.size);obtain⟨q1,q2,q3,q4,-⟩:=DS.out w' hb' (below_blk hb H0.out.2);rw [hsM]at q1;exact⟨q1,q2,q4,hb'⟩
 have Hf:Hid (∀ w',Bl w w'->Calls Tryz.prog 81 #[.agg (thc t),.int .i64 ln] w' fun e w''=>e=.returned (.bool true)/\Bl w' w''):=by rw [HI.out.2.2.2.2.2];exact HFM.out
 have k0:=(ds.out w0 (Below.refl _ _)).2.1
 go_upto_region 2 with fail
 clear k0;refine region_class (C:=fun w'=>Bl w0 w') (by kernel_rfl) (by kernel_rfl) below_drew ?_
 repeat (first
  | go_big_quiet_step (fail)
  | quiet_step (fail)
  | (refine wpQuiet_step (fun K hK=>?_);go_simp;first
   | (refine hK _ ?_;clear hK K)
   | (apply Exists.intro
      refine⟨fun w' hC=>?_,hK _ ?_⟩
      ·obtain⟨q1,q2,q3,q4⟩:=ds.out w' hC
       first
        | exact rfl
        | (go_simp;exact rfl)
        | (go_simp;exact⟨rfl,rfl⟩)
        | exact(Hf.out w' q4).mono fun e w'' ⟨he,hb⟩=>⟨he,hC.trans (hb.mono hC.size)⟩
      clear hK K)))
 refine wpQuiet_nil ?_;intro w5 hC5;have H5:Hid (Bl w w5/\w5.heap[w.heap.size]? = some (.cells (thc t) 46 (0,0))):=⟨(ds.out w5 hC5).2.2.2,below_blk hC5 H0.out.2⟩;have l5:=(ds.out w5 hC5).2.2.1;clear hC5 ds Hf H0
 go_wp2_with fail
 refine Calls.mono (HAK.out w5 H5.out.1) ?_;rintro e w6 ⟨rfl,hb6⟩;have H6:Hid (Bl w w6/\w6.heap[w.heap.size]? = some (.cells (thc t) 46 (0,0))):=⟨H5.out.1.trans (hb6.mono H5.out.1.size),below_blk hb6 H5.out.2⟩;clear hb6 H5 l5 HAK HFM
 by_cases ha:aE=0
 rotate_left
 ·have HR:Hid (MakeR w q N G t aE (.returned (.tuple #[.int .i64 0,.int .i64 aE])) w6):=.inl ⟨ha,rfl,H6.out.1⟩;have hab:(aE==0)=false:=by simpa using ha
  go_wp2_with fail
  go_returns
  exact HR.out
 subst ha;obtain⟨c4,-,c1,l6,cm,fm⟩:=DS.out w6 H6.out.1 H6.out.2;rw [hsM]at c4;have hj0:(0:Int)≤(j:Int):=by omega
 have hjl:(j:Int)<(ln:Int):=by have:=HI.out.2.2.2.2.1;omega
 have hjl':j<ln:=HI.out.2.2.2.2.1
 by_cases hm5:m ≥ 512
 ·have HR:Hid (∀ wx,wx=w6.drew\/wx=w6->MakeR w q N G t 0 (.returned (.tuple #[.int .i64 0,.int .i64 8])) wx):=fun wx e=>.inr (.inl ⟨rfl,by rw [HI.out.1];omega,rfl,by
   rcases e with rfl | rfl
   ·exact H6.out.1.trans (below_drew.mono H6.out.1.size)
   ·exact H6.out.1⟩)
  go_upto_region 7 with fail
  go_region
  all_goals
   go_wp2_with fail
   go_returns
   exact HR.out _ (.inl rfl)
 have HM5:Hid (m<512):=by show _<_;omega
 have hm5':¬ m ≥ 512:=hm5
 have HC:Hid (∀ wx,wx=(w6.drew.setCell ⟨g,j,none⟩ (.int .i64 (m+1))).drew ->
  wx.heap[w.heap.size]? = some (.cells (thc t) 46 (0,0))/\Keeps G w wx/\IsR wx q { N with made:=N.made.set j (m+1) } G/\w.heap.size≤wx.heap.size):=fun wx e=>by
  have hv6:=(HV.out.below H6.out.1).below below_drew;have hs:=hsM;rw [HI.out.2.2.2.2.2]at hs;obtain⟨h1,h2⟩:=hv6.count hs j (m+1);have hgw:g<w.heap.size:=HV.out.lt g (HV.out.own g (.inr (.inr (.inr (.inr (by rw [hsM];rfl))))));have hx:(w6.drew.setCell ⟨g,j,none⟩ (.int .i64 (m+1))).heap[w.heap.size]? = some (.cells (thc t) 46 (0,0)):=blk_other (w:=w6.drew) H6.out.2 _ _ (by show w.heap.size≠g;omega);have hk:=(Keeps.of_below (S:=G) H6.out.1).drew.trans h2 (fun _ _ h=>h) (fun _ _ h=>h);have hi:IsR (w6.drew.setCell ⟨g,j,none⟩ (.int .i64 (m+1))) q { N with made:=N.made.set j (m+1) } G:=⟨sP,sC,sT,sM,h1⟩
  subst e;exact⟨hx,hk.drew,hi.below below_drew,hk.size⟩
 have d4:w6.drew.cell? ⟨q,4,none⟩=_:=c4;have d1:w6.drew.cell? ⟨w.heap.size,1,none⟩=_:=c1;have dm:w6.drew.cell? ⟨g,j,none⟩=_:=cm;have dfm:w6.drew.frozen? ⟨g,j,none⟩=_:=fm;clear hm5
 go_upto_region 7 with fail
 go_region
 all_goals (go_upto_region 9 with fail)
 clear d4 d1 dm dfm c4 c1 cm fm l6
 have c4:w6.drew.cell? ⟨q,4,none⟩=some (.slice (some ⟨g,0,none⟩) ln cM):=by
  have:=(DS.out w6 H6.out.1 H6.out.2).1;rw [hsM]at this;exact this
 have c1:w6.drew.cell? ⟨w.heap.size,1,none⟩=some (.int .i64 j):=(DS.out w6 H6.out.1 H6.out.2).2.2.1;have cm:w6.drew.cell? ⟨g,j,none⟩=some (.int .i64 m):=(DS.out w6 H6.out.1 H6.out.2).2.2.2.2.1;have fm:w6.drew.frozen? ⟨g,j,none⟩=false:=(DS.out w6 H6.out.1 H6.out.2).2.2.2.2.2;generalize hwd:w6.drew=wd at *
 go_region
 all_goals (go_upto_region 10 with fail)
 obtain⟨wx,hwx⟩:∃ wx,wx=(wd.setCell ⟨g,j,none⟩ (.int .i64 (m+1))).drew:=⟨_,rfl⟩;have HX:Hid (wx.heap[w.heap.size]? = some (.cells (thc t) 46 (0,0))/\Keeps G w wx/\IsR wx q { N with made:=N.made.set j (m+1) } G/\w.heap.size≤wx.heap.size):=HC.out wx hwx
 rw [<- hwx];have l9:=loadWhat_blk HX.out.1 rfl;clear hwx hwd c4 c1 cm fm HC DS
 go_wp2_with fail
 refine Calls.mono (HADD.out wx HX.out.2.1 HX.out.2.2.1) ?_;rintro e w9 ⟨vl',vals',G',rfl,hr9,hk9,hg9,n1,n2⟩
 have HR:Hid (MakeR w q N G t 0 (.returned (.tuple #[.int .i64 (N.last+1),.int .i64 0])) w9):=by
  refine .inr (.inr ⟨rfl,by rw [HI.out.1];exact HM5.out,rfl,vl',vals',G',?_,HX.out.2.1.trans hk9 (fun _ _ h=>h) (fun _ _ h=>h),fun b hb=>(hg9 b hb).imp id fun h=>Nat.le_trans HX.out.2.2.2 h,n1,n2⟩)
  have e:(N.add { t with vl:=vl',vals:=vals' }) = { N with made:=N.made.set j (m+1),things:=N.things ++ [(N.last+1,{ t with vl:=vl',vals:=vals' })],last:=N.last+1 }:=by
   unfold WM.add;rw [if_neg hk14];show WM.mk _ _ _ _ (N.made.set t.home.toNat (N.made.getD t.home.toNat 0+1))=_;rw [HI.out.1,HI.out.2.1];rfl
  rw [e];exact hr9
 clear hr9 hk9 hg9 n1 n2 HX HADD l9
 go_wp2_with fail
 go_returns
 exact HR.out
end
section
structure ROk (N:WM):Prop where
 len:N.things.length≤100000
 cell:∀ x ∈ N.things,(thc x.2).all (·.oneCell')=true/\1≤x.2.kind/\x.2.kind≤255
theorem ROk.kd {N:WM} (h:ROk N):∀ x ∈ N.things,(thc x.2).all (·.oneCell')=true/\0≤x.2.kind/\x.2.kind≤255:=fun x hx=>⟨(h.cell x hx).1,by have:=(h.cell x hx).2.1;omega,(h.cell x hx).2.2⟩
theorem ROk.one {N:WM} (h:ROk N) (r:Int):(thc (at7 N r)).all (·.oneCell')=true:=by
 rcases at7_mem (M:=N) (r:=r)with e | ⟨x,hx,e⟩
 ·rw [e,thc_lt];simp [go_sem]
 ·rw [e];exact(h.cell x hx).1
theorem wrap7_no (w:World) (k:Int) (h14:k≠14) (h15:k≠15) (h16:k≠16):Calls Tryz.prog 146 #[.int .i64 k] w fun e w'=>e=.returned (.bool false)/\w=w':=by
 have b14:(k==14)=false:=by simpa using h14
 have b15:(k==15)=false:=by simpa using h15
 have b16:(k==16)=false:=by simpa using h16
 go_enter Tryz.func146,Tryz.ntmps146
 go_wp2_with fail
 go_ret
 exact⟨rfl,rfl⟩
theorem asked7_0 {w:World} {q:Nat} {N:WM} {G:Nat->Prop} (hR:IsR w q N G) (hN:ROk N) (t:Th) (r:Int) (hk:0≤t.kind/\t.kind≤255)
 (hks:t.kind≠6/\t.kind≠7/\t.kind≠9/\t.kind≠11/\t.kind≠13/\t.kind≠14/\t.kind≠15/\t.kind≠16) (rs:List Int) (hrl:rs.length≤100000)
 (hrefs:∀ w',Bl w w'->Calls Tryz.prog 179 #[.agg (thc t)] w' fun e w''=>∃ u,e=.returned u/\RefRow w'' w'.heap.size u rs/\Bl w' w'')
 (hall:∀ x ∈ rs,(N.at x).isSome=true) :
 Calls Tryz.prog 82 #[.pointer (some ⟨q,0,none⟩),.int .i64 r,.agg (thc t)] w fun e w'=>e=.returned (.int .i64 0)/\Bl w w':=by
 have hwk:IntKind.i64.wrap t.kind=t.kind:=by simp [IntKind.wrap,IntKind.signed,IntKind.bits];omega
 obtain⟨h6,h7,h9,h11,h13,h14,h15,h16⟩:=hks;have b6:(t.kind==6)=false:=by simpa using h6
 have b7:(t.kind==7)=false:=by simpa using h7
 have b9:(t.kind==9)=false:=by simpa using h9
 have b11:(t.kind==11)=false:=by simpa using h11
 have b13:(t.kind==13)=false:=by simpa using h13
 have b14:(t.kind==14)=false:=by simpa using h14
 have b15:(t.kind==15)=false:=by simpa using h15
 have b16:(t.kind==16)=false:=by simpa using h16
 have HRf:=(show Hid _ from hrefs)
 have HKd:Hid (∀ w',Bl w w'->∀ x ∈ rs,Calls Tryz.prog 147 #[.pointer (some ⟨q,0,none⟩),.int .i64 x] w' fun e w''=>∃ k,e=.returned (.int .i64 k)/\(k==0)=false/\Bl w' w''):=fun w' hb x hx=>by
  refine(kind7_W (hR.below hb) hN.len x hN.kd).mono ?_;rintro e w'' ⟨rfl,hb'⟩;refine⟨_,rfl,?_,hb'⟩;obtain⟨u,hu⟩:=Option.isSome_iff_exists.1 (hall x hx);have h1:=(hN.cell (x,u) (at_mem hu)).2.1;have:(at7 N x).kind≠0:=by unfold at7;rw [hu];simp only [Option.getD_some]at *;omega
  simpa using this
 have HAt:Hid (∀ w',Bl w w'->∀ x,Calls Tryz.prog 47 #[.pointer (some ⟨q,0,none⟩),.int .i64 x] w' fun e w''=>e=.returned (.tuple #[.agg (thc (at7 N x)),.bool (N.at x).isSome])/\Bl w' w''):=fun w' hb x=>at7_W (hR.below hb) hN.len x fun y hy=>(hN.cell y hy).1;have HL:Hid (rs.length≤100000/\∀ x,(thc (at7 N x)).all (·.oneCell')=true):=⟨hrl,hN.one⟩;have H0:Hid (Bl w (w.alloc (.cells (thc t) 46))/\(w.alloc (.cells (thc t) 46)).heap[w.heap.size]? = some (.cells (thc t) 46 (0,0))):=⟨(Below.refl _ w).alloc (Nat.le_refl _) _,blk_new _ _⟩;clear hR hN hrefs hall hrl h6 h7 h9 h11 h13 h14 h15 h16 hk
 go_enter Tryz.func82,Tryz.ntmps82
 go_upto_region 1 with fail
 revert H0;generalize w.alloc _=w0;intro H0;have l0:=loadWhat_blk H0.out.2 rfl
 go_wp2_with fail
 refine Calls.mono (HRf.out w0 H0.out.1) ?_;rintro e w1 ⟨u,rfl,hr1,hb1⟩;have H1:Hid (Bl w w1/\w1.heap[w.heap.size]? = some (.cells (thc t) 46 (0,0))/\RefRow w1 w0.heap.size u rs):=⟨H0.out.1.trans (hb1.mono H0.out.1.size),below_blk hb1 H0.out.2,hr1⟩;obtain⟨n,hn⟩:∃ n,n=rs.length:=⟨_,rfl⟩
 obtain⟨p,c,rfl⟩:∃ p c,u=.slice p n c:=by
  obtain⟨h1,⟨rfl,h0⟩ | ⟨g,cap,cur,rfl,-⟩⟩:=hr1
  ·exact⟨none,0,by rw [hn,h0]⟩
  ·exact⟨_,_,by rw [hn]⟩
 have HN:Hid (n=rs.length):=hn;clear hr1 hb1 H0 l0 HRf hn
 go_wp2_with fail
 go_loopw [8] (fun vi wr=>∃ i:Nat,vi=.int .i64 i/\i≤n/\Hid (Bl w1 wr)) (fun vi _=>n - (intOf vi).toNat)
 case atStart=>exact⟨0,rfl,Nat.zero_le _,Below.refl _ _⟩
 case round =>
  obtain⟨i,rfl,hi,HB⟩:=hrel;have HBw:Hid (Bl w wr):=H1.out.1.trans (HB.out.mono H1.out.1.size)
  by_cases hin:i<n
  ·have hiz:(i:Int)<(n:Int):=by omega
   have hi0:(0:Int)≤(i:Int):=by omega
   obtain⟨x,hx⟩:∃ x,rs[i]? = some x:=⟨_,List.getElem?_eq_getElem (by have:=HN.out;omega)⟩;have hrow:wr.ownsRow w0.heap.size 25 1 (.slice p n c) rs.length (rs.map (Value.int .i64)):=refRow_on H1.out.2.2 HB.out;obtain⟨g,c',hs,hcx,-,-⟩:=ownsRow_int hrow hx;have hp:p=some ⟨g,0,none⟩:=by injection hs
   subst hp;have HC:=(show Hid _ from HKd.out wr HBw.out x (List.mem_of_getElem? hx));have hwi:wrap64 ((i:Int)+1)=(i:Int)+1:=by have:=HL.out.1;have:=HN.out;unfold wrap64;omega
   clear hrow hs hx
   go_wp2_with fail
   refine Calls.mono HC.out ?_;rintro e w3 ⟨k,rfl,hk0,hb3⟩;have HB3:Hid (Bl w1 w3):=HB.out.trans (hb3.mono HB.out.size);clear hb3 HB HBw HC hcx
   go_wp2_with fail
   go_roundw
   case rel=>exact⟨i+1,by go_num,by omega,HB3.out⟩
   case measure=>rw [hwi];simp [intOf];omega
  ·have hiz:¬ (i:Int)<(n:Int):=by omega
   obtain rfl:i=n:=by omega
   have hkk:¬ (i:Int)<(i:Int):=by omega
   have H4:Hid (Bl w wr/\wr.heap[w.heap.size]? = some (.cells (thc t) 46 (0,0))):=⟨HBw.out,below_blk HB.out H1.out.2.1⟩;clear HB HBw H1 HKd;have c0:wr.cell? ⟨w.heap.size,0,none⟩=some (.int .u8 t.kind):=by rw [cell_blk H4.out.2];rfl
   have c10:wr.cell? ⟨w.heap.size,10,none⟩=some (.int .i64 t.tgt):=by rw [cell_blk H4.out.2];rfl
   go_wp2_with fail
   refine Calls.mono (HAt.out wr H4.out.1 t.tgt) ?_;rintro e w5 ⟨rfl,hb5⟩;have H5:Hid (Bl w w5/\w5.heap[w.heap.size]? = some (.cells (thc t) 46 (0,0))):=⟨H4.out.1.trans (hb5.mono H4.out.1.size),below_blk hb5 H4.out.2⟩;clear hb5 H4 c0 c10;have ho:=HL.out.2 t.tgt;generalize at7 N t.tgt=o at ho ⊢;generalize (N.at t.tgt).isSome=B1;obtain⟨w6,hst,hb6,hg6,-⟩:=boxed_what' w5 (thc o) rfl ho;have H6:Hid (Bl w w6/\w6.heap[w.heap.size]? = some (.cells (thc t) 46 (0,0))):=⟨H5.out.1.trans (hb6.mono H5.out.1.size),below_blk hb6 H5.out.2⟩;have c11:w6.cell? ⟨w.heap.size,11,none⟩=some (.int .i64 t.bi):=by rw [cell_blk H6.out.2];rfl
   clear hb6 hg6 ho H5
   go_wp2_with fail
   refine Calls.mono (HAt.out w6 H6.out.1 t.bi) ?_;rintro e w7 ⟨rfl,hb7⟩;have H7:Hid (Bl w w7/\w7.heap[w.heap.size]? = some (.cells (thc t) 46 (0,0))):=⟨H6.out.1.trans (hb7.mono H6.out.1.size),below_blk hb7 H6.out.2⟩;clear hb7 H6 c11 hst HAt;have ho:=HL.out.2 t.bi;generalize at7 N t.bi=o2 at ho ⊢;generalize (N.at t.bi).isSome=B2;obtain⟨w8,hst,hb8,hg8,-⟩:=boxed_what' w7 (thc o2) rfl ho;have HB8:Hid (Bl w w8):=H7.out.1.trans (hb8.mono H7.out.1.size);clear hb8 hg8 ho H7
   go_wp2_with fail
   refine(wrap7_no _ _ (by simpa using b14) (by simpa using b15) (by simpa using b16)).mono ?_;rintro e _ ⟨rfl,rfl⟩
   go_wp2_with fail
   go_ret
   exact⟨rfl,HB8.out⟩
end
end Go.Proofs.YthaliljaglldjaaGreat
