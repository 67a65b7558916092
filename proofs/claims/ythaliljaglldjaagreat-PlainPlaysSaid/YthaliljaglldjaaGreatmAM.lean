/- Part of the proof. -/
import Derived.Test.YthaliljaglldjaaGreatmAL
namespace Go.Proofs.YthaliljaglldjaaGreat
set_option maxHeartbeats 16000000
set_option maxRecDepth 20000
open Go.RowKit Go.ChangeMaps Go.MapKept
section
section
variable {w:World} {p:Nat} {M:WM} {F:Nat->Prop} {pa:Option Addr} {pc cg cc mg mc tb fb fn:Nat} {bl:Int->Nat}
def eC (M:WM) (bl:Int->Nat) (B:Nat) (r:Int):Nat:=if r=M.last+1 then B else bl r
def pR (F:Nat->Prop) (B b:Nat):Prop:=F b\/b=B
theorem WV.ne_of_obj (_h:WV w p M F pa pc cg cc mg mc tb fb fn bl) {a b:Nat} {x y:Obj} (ha:w.heap[a]? = some x) (hb:w.heap[b]? = some y) (hne:x≠y):a≠b:=by
 intro e;subst e;rw [ha]at hb
 cases hb
 exact hne rfl
theorem Row.is {g:Nat} {e:TypeId} {cap:Nat} {xs:List Value} (h:Row w g e cap xs):∃ cur,w.heap[g]? = some (.cells cur e (0,0)):=by
 obtain⟨cur,h1,_⟩:=h;exact⟨cur,h1⟩
theorem tG (M:WM) (t:Th):(M.add t).made.length=M.made.length:=by
 show (if t.kind=14 then M.made else _).length=_
 split
 ·rfl
 ·rw [List.length_set]
theorem lT (hok:M.ok) (t:Th) (B:Nat):fB (M.add t) (eC M bl B) (.int .i64 (M.last+1))=some (.pointer (some ⟨B,0,none⟩)) /\
 ∀ x,x≠.int .i64 (M.last+1)->fB (M.add t) (eC M bl B) x=fB M bl x:=by
 refine⟨by simp [fB,WM.add_at_new hok,eC],fun x hx=>?_⟩;unfold fB;split
 ·rename_i r
  have hne:r≠M.last+1:=fun e=>hx (by rw [e]);rw [WM.add_at hok,if_neg hne,eC,if_neg hne]
 ·rfl
theorem ng {t:Th} (hk:t.kind≠14) (x:Value):kL (M.add t) x=kL M x:=by
 unfold kL;split
 ·split
  ·rw [WM.add_find_not hk]
  ·rfl
 ·rfl
theorem qP {t:Th} (hk:t.kind=14) (hn:M.find t.tgt t.set=none):kL (M.add t) (gi t.tgt t.set)=some (.int .i64 (M.last+1))/\∀ x,x≠gi t.tgt t.set->kL (M.add t) x=kL M x:=by
 refine⟨by simp [kL,gi,WM.add_find_facet hk hn],fun x hx=>?_⟩;unfold kL;split
 ·rename_i cs
  split
  ·rename_i a b he
   rw [WM.add_find_facet hk hn,if_neg];rintro ⟨rfl,rfl⟩;apply hx
   rw [gi]
   congr 1
   rw [<- Array.toArray_toList (xs:=cs),he]
  ·rfl
 ·rfl
theorem wy (h:WV w p M F pa pc cg cc mg mc tb fb fn bl) {t:Th} (a:AddOk M t) {F1:Nat->Prop} (hd:Deep w F1 t) (hF1:∀ b,F1 b->b<w.heap.size/\¬ F b) {w':World} (hsz:w.heap.size+1≤w'.heap.size)
 (hp:w'.heap[p]? = some (.cells #[.slice pa M.parents.length pc,.slice (some ⟨cg,0,none⟩) M.cuts.length cc,.map (some tb),.map (some fb),J (M.last+1),.slice (some ⟨mg,0,none⟩) M.made.length mc] 140 (0,0)))
 (hB:w'.heap[w.heap.size]? = some (.cells (aF t) 46 (0,0))) (hmg:Row w' mg 3 mc ((M.add t).made.map (Value.int .i64)))
 (htb:HasMap Tryz.prog 25 w' tb (fB (M.add t) (eC M bl w.heap.size)) (M.things.length+1)) (hfb:kU Tryz.prog 211 w' fb (kL (M.add t)) (fn+1))
 (hoth:∀ b,b<w.heap.size->b≠p->b≠mg->b≠tb->b≠fb->w'.heap[b]? = w.heap[b]?):IsW w' p (M.add t) (pR (fun b=>F b\/F1 b) w.heap.size):=by
 obtain⟨fn',hfn,hfb⟩:=hfb;obtain⟨mcur,hm⟩:=h.mad.is;obtain⟨ccur,hc⟩:=h.cut.is;obtain⟨tes,tcl,ht⟩:=h.things.is;obtain⟨fes,fcl,hf⟩:=h.facets.is;have hlen:(M.add t).things.length=M.things.length+1:=by simp [WM.add]
 have hdeep:∀ r u,M.at r=some u->Deep w' (pR (fun b=>F b\/F1 b) w.heap.size) u:=fun r u hu=>(h.blk r u hu).2.2.of_blocks (fun b cs e fr hF hb he=>hoth b (h.lt b hF) (h.ne_of_obj hb h.hp (by intro x;cases x;simp [gJ]at he))
  (h.ne_of_obj hb hm (by intro x;cases x;simp [gJ]at he)) (h.ne_of_obj hb ht (by intro x;cases x)) (h.ne_of_obj hb hf (by intro x;cases x))) (fun b hb=>.inl (.inl hb))
 refine⟨pa,pc,cg,cc,mg,mc,tb,fb,fn',eC M bl w.heap.size,?_⟩
 exact {
  hp:=by rw [tG];exact hp
  pars:=fun j x hx=>by
   obtain⟨b,o,h1,h2,⟨cs,fr,h3⟩,h4⟩:=h.pars j x hx;have k:=hoth b (h.lt b h2) (h.ne_of_obj h3 h.hp (by simp)) (h.ne_of_obj h3 hm (by simp)) (h.ne_of_obj h3 ht (by simp)) (h.ne_of_obj h3 hf (by simp));exact⟨b,o,h1,.inl (.inl h2),⟨cs,fr,k.trans h3⟩,(World.cell?_of_block (a:=⟨b,o+j,none⟩) k).trans h4⟩
  cut:=h.cut.of_block (hoth cg (h.lt _ h.own.2.1) (h.ne_of_obj hc h.hp (by simp)) (h.ne_of_obj hc hm (by simp)) (h.ne_of_obj hc ht (by simp)) (h.ne_of_obj hc hf (by simp)))
  mad:=hmg
  things:=by rw [hlen];exact htb
  facets:=hfb
  fnle:=by have:=h.fnle;show (fn':Int)≤M.last+1;omega
  blk:=fun r u hu=>by
   rw [WM.add_at h.ok]at hu;split at hu
   ·rename_i e
    cases hu
    simp only [eC,if_pos e];exact⟨hB,.inr rfl,hd.of_blocks (Lists.of fun b hb=>hoth b (hF1 b hb).1 (fun e=>(hF1 b hb).2 (e ▸ h.own.1)) (fun e=>(hF1 b hb).2 (e ▸ h.own.2.2.1)) (fun e=>(hF1 b hb).2 (e ▸ h.own.2.2.2.1)) (fun e=>(hF1 b hb).2 (e ▸ h.own.2.2.2.2))) (fun b hb=>.inl (.inr hb))⟩
   ·rename_i e
    obtain⟨h1,h2,h3⟩:=h.blk r u hu;simp only [eC,if_neg e];exact⟨(hoth _ (h.lt _ h2) (h.ne_of_obj h1 h.hp (by simp)) (h.ne_of_obj h1 hm (by simp)) (h.ne_of_obj h1 ht (by simp)) (h.ne_of_obj h1 hf (by simp))).trans h1,.inl (.inl h2),hdeep r u hu⟩
  inj:=fun r r' u u' hu hu' e=>by
   rw [WM.add_at h.ok]at hu hu';split at hu <;> split at hu'
   ·omega
   ·rename_i e1 e2
    have:=aw (h.blk _ _ hu').1;simp only [eC,if_pos e1,if_neg e2]at e;omega
   ·rename_i e1 e2
    have:=aw (h.blk _ _ hu).1;simp only [eC,if_pos e2,if_neg e1]at e;omega
   ·rename_i e1 e2
    simp only [eC,if_neg e1,if_neg e2]at e;exact h.inj r r' u u' hu hu' e
  own:=⟨.inl (.inl h.own.1),.inl (.inl h.own.2.1),.inl (.inl h.own.2.2.1),.inl (.inl h.own.2.2.2.1),.inl (.inl h.own.2.2.2.2)⟩
  tf:=h.tf
  lt:=fun b hb=>by
   rcases hb with (hb | hb) | hb
   ·have:=h.lt b hb;omega
   ·have:=(hF1 b hb).1;omega
   ·omega
  ok:=WM.add_ok h.ok a }
end
theorem zl {w:World} {p:Nat} {M:WM} {F:Nat->Prop} (hW:IsW w p M F) {t:Th} (a:AddOk M t) {F1:Nat->Prop} (hd:Deep w F1 t) (hF1:∀ b,F1 b->b<w.heap.size/\¬ F b) :
 Calls Tryz.prog 79 #[P_ p,.agg (aF t)] w fun e w'=>e=.returned (J (M.last+1))/\IsW w' p (M.add t) (pR (fun b=>F b\/F1 b) w.heap.size)/\Keeps F w w':=by
 obtain⟨pa,pc,cg,cc,mg,mc,tb,fb,fn,bl,h⟩:=hW;have c4:=gk h.c4 (.cells (aF t) 46);have f4:(w.alloc (.cells (aF t) 46)).frozen? ⟨p,4,none⟩=false:=av (aG w _ h.hp) 4;have hl0:=h.ok.last;have hl1:=a.last;have hpl:p<w.heap.size:=h.lt p h.own.1;obtain⟨mcur,hm⟩:=h.mad.is;obtain⟨tes,tcl,ht⟩:=h.things.is;obtain⟨fes,fcl,hf⟩:=h.facets.is;have pm:=h.ne_of_obj h.hp hm (by simp);have pt:=h.ne_of_obj h.hp ht (by simp);have pf:=h.ne_of_obj h.hp hf (by simp);have mt:=h.ne_of_obj hm ht (by simp);have mf:=h.ne_of_obj hm hf (by simp);have Bm:=aw hm;have Bt:=aw ht;have Bf:=aw hf
 have hnt:M.things.length<maxLen:=by
  have h1:∀ (l:List (Int × Th)) (b:Int),l.Pairwise (fun x y=>x.1<y.1)->(∀ x ∈ l,b<x.1/\x.1≤M.last)->(l.length:Int)+b≤M.last\/l = []:=by
   intro l
   induction l with
   | nil=>intro b _ _;exact .inr rfl
   | cons x l ih =>
     intro b hp hr;obtain⟨q1,q2⟩:=List.pairwise_cons.1 hp;have hx:=hr x (by simp)
     rcases ih x.1 q2 (fun y hy=>⟨q1 y hy,(hr y (by simp [hy])).2⟩)with h | rfl
     ·exact .inl (by simp;omega)
     ·exact .inl (by simp;omega)
  have:=h1 M.things 0 h.ok.keys (fun x hx=>h.ok.range x hx)
  rcases this with h2 | h2
  ·unfold maxLen;omega
  ·rw [h2];decide
 have hwl:(Lit.int .i64 (M.last+1)).wf=true:=WalkArith.wf_i64 (by omega);obtain⟨w2,hw2⟩:∃ w2,w2=(w.setCell ⟨p,4,none⟩ (J (M.last+1))).alloc (.cells (aF t) 46):=⟨_,rfl⟩;have s1:(w.setCell ⟨p,4,none⟩ (J (M.last+1))).heap.size=w.heap.size:=by simp [World.setCell]
 have b2:∀ b,b<w.heap.size->b≠p->w2.heap[b]? = w.heap[b]?:=fun b hb hne=>by
  rw [hw2,Below.heap_alloc _ _ _ (by rw [s1];exact hb),Below.heap_setCell _ _ _ _ hne]
 have s2:w2.heap.size=w.heap.size+1:=by rw [hw2];simp [World.setCell]
 have K2:Keeps F w w2:=(Keeps.setCell w ⟨p,4,none⟩ (J (M.last+1)) h.own.1).then_below (by rw [hw2];exact br.alloc aH _)
 have p2:w2.heap[p]? = some (.cells #[.slice pa M.parents.length pc,.slice (some ⟨cg,0,none⟩) M.cuts.length cc,.map (some tb),.map (some fb),J (M.last+1),.slice (some ⟨mg,0,none⟩) M.made.length mc] 140 (0,0)):=by
  rw [hw2];exact aG _ _ (aA h.hp 4 _)
 have B2:w2.heap[w.heap.size]? = some (.cells (aF t) 46 (0,0)):=by
  rw [hw2,← s1];exact ai _ _
 obtain⟨w3,hrun,th3,tu3⟩:=(nZ (h.things.of_block (b2 tb Bt (Ne.symm pt)))).store eu Tryz.underlying137 hnt (iJ hwl) (P_ w.heap.size) (lT h.ok t w.heap.size).1 (lT h.ok t w.heap.size).2;have T3:Turned w2 w3 tb:=Turned.of_drew tu3;have e0:(fB M bl (J (M.last+1))).isSome=false:=by simp [fB,h.ok.none_above (r:=M.last+1) (by omega)]
 rw [e0]at th3;simp only [Bool.false_eq_true,if_false]at th3;have s3:=T3.1;have p3:=(T3.block pt).trans p2;have B3:w3.heap[w.heap.size]? = some (.cells (aF t) 46 (0,0)):=(T3.block (by omega)).trans B2;have m3:=h.mad.of_block ((T3.block mt).trans (b2 mg Bm (Ne.symm pm)));have f3:=h.facets.of_block ((T3.block (Ne.symm h.tf)).trans (b2 fb Bf (Ne.symm pf)));have K3:Keeps F w w3:=K2.trans (T3.2.mono (T:=F) (fun x _ e=>e ▸ h.own.2.2.2.1)) (fun _ _ h=>h) (fun _ _ h=>h);obtain⟨k0,k1,-,-,k6,-,k8,-⟩:=dO B3;have d2:w3.cell? ⟨p,2,none⟩=some (.map (some tb)):=by rw [ag p3];rfl
 have d3:w3.cell? ⟨p,3,none⟩=some (.map (some fb)):=by rw [ag p3];rfl
 have d4:w3.cell? ⟨p,4,none⟩=some (.int .i64 (M.last+1)):=by rw [ag p3];rfl
 have d5:w3.cell? ⟨p,5,none⟩=some (.slice (some ⟨mg,0,none⟩) M.made.length mc):=by rw [ag p3];rfl
 have lk3:(Instr.lookup 137 (.map (some tb)) (J (M.last+1)) false).run Tryz.prog w3=.ok (P_ w.heap.size) w3:=by
  rw [th3.look eu Tryz.underlying137 (kN w3) (iJ hwl),(lT h.ok t w.heap.size).1];rfl
 have g2:w2.cell? ⟨p,2,none⟩=some (.map (some tb)):=by rw [ag p2];rfl
 have g4:w2.cell? ⟨p,4,none⟩=some (.int .i64 (M.last+1)):=by rw [ag p2];rfl
 have HV:Hid (WV w p M F pa pc cg cc mg mc tb fb fn bl):=h
 have fin:∀ w',Hid (w.heap.size+1≤w'.heap.size->w'.heap[p]? = w3.heap[p]?->w'.heap[w.heap.size]? = w3.heap[w.heap.size]?->Row w' mg 3 mc ((M.add t).made.map (Value.int .i64))->w'.heap[tb]? = w3.heap[tb]? ->
  kU Tryz.prog 211 w' fb (kL (M.add t)) (fn+1)->(∀ b,b<w.heap.size->b≠mg->b≠fb->w'.heap[b]? = w3.heap[b]?)->IsW w' p (M.add t) (pR (fun b=>F b\/F1 b) w.heap.size)):=fun w' h1 h2 h3 h4 h5 h6 h7 =>
  wy h a hd hF1 h1 (h2.trans p3) (h3.trans B3) h4 (th3.of_block h5) h6 (fun b hb n1 n2 n3 n4=>(h7 b hb n2 n4).trans ((T3.block n3).trans (b2 b hb n1)))
 by_cases hk:t.kind=14
 ·have hfn:fn<maxLen:=by have:=h.fnle;unfold maxLen;omega
  have hix:=mV d2 d3 lk3 (by rw [<- hk];exact k0) k6 k8 a.wf.tgt (WalkArith.wf_u8 (by have:=a.wf.set;omega)) f3 hfn (qP hk (a.facet hk)).1 (qP hk (a.facet hk)).2;have Hix:Hid (Calls Tryz.prog 133 #[P_ p,J (M.last+1)] w3 fun e w'=>e=.returned (.tuple #[])/\Turned w3 w' fb/\kU Tryz.prog 211 w' fb (kL (M.add t)) (fn+1)):=hix;have Hm:Hid (Row w3 mg 3 mc ((M.add t).made.map (Value.int .i64))):=by show Row _ _ _ _ _;simpa [WM.add,hk]using m3
  have Hk:Hid (Keeps F w w3):=K3;have Hb3:Hid (∀ b,b≠fb->True):=fun _ _=>trivial;have k0':w3.cell? ⟨w.heap.size,0,none⟩=some (.int .u8 14):=by rw [<- hk];exact k0
  have Hp:Hid (p≠fb/\w.heap.size≠fb/\mg≠fb/\tb≠fb/\F fb):=⟨pf,by omega,mf,h.tf,h.own.2.2.2.2⟩;have Hs:Hid (w3.heap.size=w.heap.size+1):=s3.trans s2;clear h a hd hF1 hm ht hf pm pt pf mt mf hnt hwl b2 s1 s2 K2 p2 B2 tu3 th3 T3 e0 s3 p3 B3 m3 f3 K3 k0 k1 k6 k8 hk hfn hix lk3 d2 d3 d5 Bm Bt Bf
  go_enter Tryz.func79,Tryz.ntmps79
  go_wp2
  rw [<- hw2];clear c4 f4 hw2
  go_still_tail 8,(by kernel_rfl)
  change wpList _ _ _ _ _ w2.drew
  go_wp2_with fail
  refine Hix.out.mono ?_;rintro e w4 ⟨rfl,hT,hM⟩;obtain⟨n1,n2,n3,n4,n5⟩:=Hp.out;have q0:=(hT.cell (a:=⟨w.heap.size,0,none⟩) n2).trans k0';have q4:=(hT.cell (a:=⟨p,4,none⟩) n1).trans d4;have HT:Hid (Turned w3 w4 fb):=hT;have HM:Hid (kU Tryz.prog 211 w4 fb (kL (M.add t)) (fn+1)):=hM;clear hT hM n1 n2 n3 n4 n5 k0' d4 g2 g4 hrun
  go_wp2_with fail
  go_ret
  obtain⟨n1,n2,n3,n4,n5⟩:=Hp.out;refine⟨rfl,(fin w4).out ?_ (HT.out.block n1) (HT.out.block n2) (Hm.out.of_block (HT.out.block n3)) (HT.out.block n4) HM.out (fun b _ _ hb=>HT.out.block hb),Hk.out.trans (HT.out.2.mono (T:=F) (fun x _ e=>e ▸ n5)) (fun _ _ h=>h) (fun _ _ h=>h)⟩;have:=HT.out.1;have:=Hs.out;omega
 ·obtain⟨h0,h1⟩:=a.home hk;obtain⟨n,hn⟩:=Int.eq_ofNat_of_zero_le h0;have hnl:n<M.made.length:=by omega
  have hix:=nB d2 lk3 k0 (by simp [hk])
  have hmc:(M.made.map (Value.int .i64))[n]? = some (.int .i64 (M.made.getD n 0)):=by
   rw [List.getElem?_map,List.getElem?_eq_getElem hnl,List.getD_eq_getElem?_getD,List.getElem?_eq_getElem hnl];rfl
  have m3c:=m3.cell hmc;have m3f:=m3.free n;have hmb:=a.made hk;rw [hn,Int.toNat_natCast]at hmb
  have hm0:0≤M.made.getD n 0:=by
   have:=h.ok.mades n (M.made.getD n 0) (by rw [List.getD_eq_getElem?_getD,List.getElem?_eq_getElem hnl];rfl);omega
  obtain⟨v,hv⟩:∃ v,v=M.made.getD n 0:=⟨_,rfl⟩;rw [<- hv]at m3c hmb hm0
  have Hm:Hid (Row ((w3.setCell ⟨mg,n,none⟩ (J (v+1))).drew) mg 3 mc ((M.add t).made.map (Value.int .i64))):=by
   have:=m3.set n (J (v+1))
   have e1:(M.made.map (Value.int .i64)).set n (J (v+1))=(M.add t).made.map (Value.int .i64):=by
    simp [WM.add,hk,hn,hv]
   rw [e1]at this;exact this
  have kk:(t.kind==14)=false:=by simp [hk]
  have npm:¬ p=mg:=pm;have nmp:¬ mg=p:=Ne.symm pm;have k1':w3.cell? ⟨w.heap.size,1,none⟩=some (.int .i64 (n:Int)):=by rw [<- hn];exact k1
  have Hk:Hid (Keeps F w w3):=K3;have Hs:Hid (w3.heap.size=w.heap.size+1):=s3.trans s2;have Hp:Hid (p≠mg/\w.heap.size≠mg/\tb≠mg/\fb≠mg/\F mg):=⟨pm,by omega,Ne.symm mt,Ne.symm mf,h.own.2.2.1⟩;have Hf:Hid (HasMap Tryz.prog 211 w3 fb (kL M) fn):=f3;have Hff:Hid (∀ x,kL (M.add t) x=kL M x):=ng hk;have hml:(n:Int)<M.made.length:=by omega
  have hm16:(M.made.length:Int)≤16:=by have:=h.ok.made;have:=h.ok.sides;omega
  have hvb:v+1≤512:=by omega
  clear h a hd hF1 hm ht hf pm pt pf mt mf hnt hwl b2 s1 s2 K2 p2 B2 tu3 th3 T3 e0 s3 p3 B3 m3 f3 K3 k1 k6 k8 hk lk3 d3 Bm Bt Bf hv hmc h0 h1 hnl d2 hn hmb;have Hix:Hid (Calls Tryz.prog 133 #[P_ p,J (M.last+1)] w3 fun e w'=>e=.returned (.tuple #[])/\w3=w'):=hix;clear hix
  go_enter Tryz.func79,Tryz.ntmps79
  go_wp2
  rw [<- hw2];clear c4 f4 hw2
  go_still_tail 8,(by kernel_rfl)
  change wpList _ _ _ _ _ w2.drew
  go_wp2_with fail
  refine Hix.out.mono ?_;rintro e w4 ⟨rfl,rfl⟩;clear g2 g4 hrun
  go_wp2_with fail
  go_still_tail 10,(by kernel_rfl)
  change wpList _ _ _ _ _ w3.drew
  go_wp2_with fail
  go_ret
  obtain⟨n1,n2,n3,n4,n5⟩:=Hp.out;have hs:∀ b,b≠mg->(w3.setCell ⟨mg,n,none⟩ (J (v+1))).drew.heap[b]? = w3.heap[b]?:=fun b hb=>Below.heap_setCell w3 ⟨mg,n,none⟩ _ b hb;have hk3:Keeps F w3 (w3.setCell ⟨mg,n,none⟩ (J (v+1))).drew:=(Keeps.setCell w3 ⟨mg,n,none⟩ _ n5).drew;refine⟨rfl,(fin _).out ?_ (hs p n1) (hs _ n2) Hm.out (hs tb n3) ⟨fn,by omega,(Hf.out.congr (fun x _ _=>Hff.out x)).of_block (hs fb n4)⟩ (fun b _ hb _=>hs b hb),Hk.out.trans hk3 (fun _ _ h=>h) (fun _ _ h=>h)⟩;have:=Hs.out;have:=hk3.size;omega
end
section
variable {w:World} {p:Nat} {M:WM} {F:Nat->Prop}
abbrev lt (k h vk vn n l tg bi s:Int) (fu:Bool):Th:=⟨k,h,⟨vk,vn,⟨#[]⟩,[],0⟩,S_,[],S_,n,l,tg,bi,s,fu,S_,S_⟩
theorem qu (w:World) (F:Nat->Prop) (k h vk vn n l tg bi s:Int) (fu:Bool):Deep w F (lt k h vk vn n l tg bi s fu):=⟨SlT.nil _ _ _ _,SlT.nil _ _ _ _,rfl,rfl⟩
def Grew (F:Nat->Prop) (w:World) (F':Nat->Prop) (w':World):Prop:=Keeps F w w'/\∀ b,F' b->F b\/w.heap.size≤b
end
section
variable {w:World} {p:Nat} {M:WM} {F:Nat->Prop}
theorem cQ {fn:Func} {q x:Tmp} (h:fn.results=#[.cell q 46,.tmp x]) (tmps:Array Value) (W:World) (g:Nat) (cs:Array Value) (fr:Nat × Nat) (hp:tmps.getD q undef=P_ g)
 (hg:W.heap[g]? = some (.cells cs 46 fr)) (hs:cs.size=16):(results fn tmps).run Tryz.prog W=.ok (.tuple #[.agg cs,tmps.getD x undef]) W:=by
 have h1:=run_loadVar_row W g 46 46 cs fr _ hg Tryz.underlying46 rfl (by rw [hs];exact dr);unfold results;rw [h];rw [Array.getD_eq_getD_getElem?]at hp;simp [hp,asAddr,h1,Result.andThen]
theorem bS (k h vk vn n l tg bi s:Int) (fu:Bool):aF (lt k h vk vn n l tg bi s fu)=(wr k h vk vn n l tg bi s fu):=rfl
end
section
def bL (x:Int × Th):List Value:=J x.1 :: (aF x.2).toList
def bB (l:List (Int × Th)):List Value:=l.flatMap bL
theorem ce (x:Int × Th):(bL x).length=17:=rfl
theorem jn {l:List (Int × Th)} {i k:Nat} {x:Int × Th} {v:Value} (hx:l[i]? = some x) (hk:(bL x)[k]? = some v):(bB l)[i * 17+k]? = some v:=by
 induction l generalizing i with
 | nil=>simp at hx
 | cons y l ih =>
   unfold bB;rw [List.flatMap_cons]
   cases i with
   | zero =>
     simp at hx;subst hx;rw [Nat.zero_mul,Nat.zero_add,List.getElem?_append_left (ji hk)];exact hk
   | succ i =>
     simp at hx;rw [List.getElem?_append_right (by rw [ce];omega),ce,show (i+1) * 17+k - 17=i * 17+k by omega];exact ih hx
structure DeepR (w:World) (G:Nat->Prop) (t:Th):Prop where
 v:SlAt w G t.vl t.v.l
 vs:SlAt w G t.vals t.vs
 code:t.code=.slice none 0 0
 names:t.names=.slice none 0 0
theorem DeepR.on {w w':World} {G:Nat->Prop} {t:Th} (h:DeepR w G t) (hb:Bl w w'):DeepR w' G t:=⟨h.v.on hb,h.vs.on hb,h.code,h.names⟩
structure RVw (w:World) (q:Nat) (M:WM) (G:Nat->Prop) (sP sC sT sM:Value):Prop where
 blk:w.heap[q]? = some (.cells #[sP,sC,sT,J M.last,sM] 94 (0,0))
 rp:w.ownsRow 0 3 1 sP M.parents.length (M.parents.map (Value.int .i64))
 rc:w.ownsRow 0 4 1 sC M.parents.length ((M.cuts.drop 1).map Value.bool)
 rt:w.ownsRow 0 117 17 sT M.things.length (bB M.things)
 rm:w.ownsRow 0 3 1 sM M.made.length (M.made.map (Value.int .i64))
 own:∀ b,(b=q\/sP.ownBlock=some b\/sC.ownBlock=some b\/sT.ownBlock=some b\/sM.ownBlock=some b)->G b
 lt:∀ b,G b->b<w.heap.size
 deep:∀ r t,(r,t) ∈ M.things->DeepR w (fun b=>G b/\b≠q/\sP.ownBlock≠some b/\sC.ownBlock≠some b/\sT.ownBlock≠some b/\sM.ownBlock≠some b) t
 apq:sP.ownBlock≠some q/\sC.ownBlock≠some q/\sT.ownBlock≠some q/\sM.ownBlock≠some q
 app:∀ b,sP.ownBlock=some b->sC.ownBlock≠some b/\sT.ownBlock≠some b/\sM.ownBlock≠some b
 apc:∀ b,sC.ownBlock=some b->sT.ownBlock≠some b/\sM.ownBlock≠some b
 apt:∀ b,sT.ownBlock=some b->sM.ownBlock≠some b
def IsR (w:World) (q:Nat) (M:WM) (G:Nat->Prop):Prop:=∃ sP sC sT sM,RVw w q M G sP sC sT sM
theorem ci {w w':World} {base k n:Nat} {e:TypeId} {u:Value} {xs:List Value} (h:w.ownsRow base e k u n xs) (hb:Bl w w'):w'.ownsRow base e k u n xs:=by
 obtain⟨h1,h2⟩:=h;exact⟨h1,h2.imp id fun⟨g,cap,cur,e1,e2,e3,e4⟩=>⟨g,cap,cur,e1,e2,ae hb e3,e4⟩⟩
theorem RVw.below {w w':World} {q:Nat} {M:WM} {G:Nat->Prop} {sP sC sT sM:Value} (h:RVw w q M G sP sC sT sM) (hb:Bl w w'):RVw w' q M G sP sC sT sM :=
 ⟨ae hb h.blk,ci h.rp hb,ci h.rc hb,ci h.rt hb,ci h.rm hb,h.own,fun b hG=>Nat.lt_of_lt_of_le (h.lt b hG) hb.size,fun r t ht=>(h.deep r t ht).on hb,h.apq,h.app,h.apc,h.apt⟩
theorem IsR.below {w w':World} {q:Nat} {M:WM} {G:Nat->Prop} (h:IsR w q M G) (hb:Bl w w'):IsR w' q M G:=by
 obtain⟨sP,sC,sT,sM,h⟩:=h;exact⟨sP,sC,sT,sM,h.below hb⟩
theorem RVw.ent {w:World} {q:Nat} {M:WM} {G:Nat->Prop} {sP sC sT sM:Value} (h:RVw w q M G sP sC sT sM) {i:Nat} {x:Int × Th} (hx:M.things[i]? = some x) :
 ∃ g c,sT=.slice (some ⟨g,0,none⟩) M.things.length c/\g<w.heap.size/\∀ k v,(bL x)[k]? = some v->w.cell? ⟨g,i * 17+k,none⟩=some v:=by
 obtain⟨h1,⟨rfl,h0⟩ | ⟨g,cap,cur,rfl,hg,hb,hc,hm,hcs,ht⟩⟩:=h.rt
 ·rw [List.length_eq_zero_iff.1 h0]at hx;simp at hx
 ·refine⟨g,cap,rfl,aw hb,fun k v hv=>?_⟩;have h2:=jn hx hv;rw [<- ht,List.getElem?_take]at h2;split at h2
  ·rw [ag hb,← Array.getElem?_toList];exact h2
  ·cases h2
theorem cB {w:World} {b o:Nat} {t:Th} (h:∀ k v,(aF t)[k]? = some v->w.cell? ⟨b,o+k,none⟩=some v):(dZ (R_ b o)).run Tryz.prog w=.ok (.value (.agg (aF t))) w:=by
 have:=run_loadAt_mid w b o 46 (aF t).toList _ (fun k v hv=>h k v (by simpa using hv)) Tryz.underlying46 rfl (by simpa [aF]using dr);simp only [dZ,Sem.run_bind,this,Result.andThen,Sem.run_pure,Array.toArray_toList]
def at7 (M:WM) (r:Int):Th:=(M.at r).getD (lt 0 0 0 0 0 0 0 0 0 false)
theorem fK:∀ {l:List (Int × Th)} {i:Nat} {r:Int} {t:Th},l[i]? = some (r,t)->(∀ j y,j<i->l[j]? = some y->y.1≠r)->l.lookup r=some t
 | [],_,_,_,h,_=>by simp at h
 | y :: l,0,r,t,h,_=>by
   simp at h;subst h;simp
 | y :: l,i+1,r,t,h,hn=>by
   have h0:=hn 0 y (Nat.succ_pos _) rfl;have e:(r==y.1)=false:=by simpa using fun e=>h0 e.symm
   rw [List.lookup_cons,e];exact fK (by simpa using h) (fun j z hj hz=>hn (j+1) z (by omega) (by simpa using hz))
theorem li:∀ {l:List (Int × Th)} {r:Int},(∀ y ∈ l,y.1≠r)->l.lookup r=none
 | [],_,_=>rfl
 | y :: l,r,h=>by
   have e:(r==y.1)=false:=by simpa using fun e=>h y (List.mem_cons_self ..) e.symm
   rw [List.lookup_cons,e];exact li (fun z hz=>h z (List.mem_cons_of_mem _ hz))
theorem fH {w:World} {q:Nat} {M:WM} {G:Nat->Prop} (hR:IsR w q M G) (hl:M.things.length≤100000) (r:Int) (hlst:∀ x ∈ M.things,(aF x.2).all (·.oneCell')=true) :
 Calls Tryz.prog 47 #[P_ q,J r] w fun e w'=>e=.returned (.tuple #[.agg (aF (at7 M r)),.bool (M.at r).isSome])/\Bl w w':=by
 obtain⟨sP,sC,sT,sM,hV⟩:=hR;obtain⟨n,hn⟩:∃ n,n=M.things.length:=⟨_,rfl⟩
 obtain⟨p0,c0,hsT⟩:∃ p c,sT=.slice p n c:=by
  obtain⟨h1,⟨rfl,h0⟩ | ⟨g,cap,cur,rfl,-⟩⟩:=hV.rt
  ·exact⟨none,0,by rw [hn,h0]⟩
  ·exact⟨_,_,by rw [hn]⟩
 subst hsT;have HV:Hid (RVw w q M G sP sC (.slice p0 n c0) sM):=hV;have HN:Hid (n=M.things.length/\n≤100000):=⟨hn,by omega⟩;have HO:Hid _:=hlst;have H0:Hid (Bl w (w.alloc (.cells (wr 0 0 0 0 0 0 0 0 0 false) 46))/\(w.alloc (.cells (wr 0 0 0 0 0 0 0 0 0 false) 46)).heap[w.heap.size]? = some (.cells (wr 0 0 0 0 0 0 0 0 0 false) 46 (0,0))):=⟨(Below.refl _ w).alloc aH _,ai _ _⟩;clear hV hn hl hlst
 go_enter Tryz.func47,Tryz.ntmps47
 go_wp2_with fail
 revert H0;generalize w.alloc _=w1;intro H0
 go_loopw [6] (fun vi wr=>∃ i:Nat,vi=J i/\i≤n/\w1=wr/\Hid (∀ j y,j<i->M.things[j]? = some y->y.1≠r)) (fun vi _=>n - (intOf vi).toNat)
 case atStart=>exact⟨0,rfl,Nat.zero_le _,rfl,fun j y h=>absurd h (Nat.not_lt_zero j)⟩
 case round =>
  obtain⟨i,rfl,hi,rfl,HJ⟩:=hrel;have HV1:Hid _:=HV.out.below H0.out.1;have d2:w1.cell? ⟨q,2,none⟩=some (.slice p0 n c0):=by rw [ag HV1.out.blk];rfl
  by_cases hin:i<n
  ·have hiz:(i:Int)<(n:Int):=by omega
   obtain⟨x,hx⟩:∃ x,M.things[i]? = some x:=⟨_,List.getElem?_eq_getElem (by have:=HN.out.1;omega)⟩;obtain⟨g,c,hs,hg,hc⟩:=HV1.out.ent hx;have hp0:p0=some ⟨g,0,none⟩:=by injection hs
   subst hp0;have k0:w1.cell? ⟨g,i * 17,none⟩=some (.int .i64 x.1):=hc 0 _ rfl
   have hldw:=cB (w:=w1) (b:=g) (o:=i * 17+1) (t:=x.2) (fun k v hv=>by
    have:=hc (k+1) v (by rw [<- hv];show (_ :: (aF x.2).toList)[k+1]? = _;simp);rw [show i * 17+1+k=i * 17+(k+1) by omega]
    exact this)
   have hwi:wrap64 ((i:Int)+1)=(i:Int)+1:=by have:=HN.out.2;unfold wrap64;omega
   by_cases hr:x.1=r
   ·have HE:Hid (M.at r=some x.2):=fK (by rw [hx,← hr]) HJ.out;have hst:=aS (c':=aF x.2) H0.out.2 rfl rfl (HO.out x (List.mem_of_getElem? hx));have HF:Hid ((w1.setRow w.heap.size (aF x.2)).heap[w.heap.size]? = some (.cells (aF x.2) 46 (0,0))/\Bl w (w1.setRow w.heap.size (aF x.2))):=⟨ah H0.out.2,Below.setRow H0.out.1 aH _⟩;have HT:Hid (at7 M r=x.2):=by show _=_;unfold at7;rw [HE.out];rfl
    clear hs hc hx
    go_wp2_with fail
    exact bodyPost_ret (cQ rfl _ _ _ _ _ rfl HF.out.1 rfl) rfl ⟨by rw [HT.out,HE.out];rfl,HF.out.2⟩
   ·have HJ2:Hid (∀ j y,j<i+1->M.things[j]? = some y->y.1≠r):=fun j y hj hy=>by
     by_cases e:j=i
     ·subst e;rw [hx]at hy
      cases hy
      exact hr
     ·exact HJ.out j y (by omega) hy
    clear hs hc hx
    go_wp2_with fail
    go_roundw
    case rel=>exact⟨i+1,by go_num,by omega,trivial,HJ2.out⟩
    case measure=>rw [hwi];simp [intOf];omega
  ·have hiz:¬ (i:Int)<(n:Int):=by omega
   obtain rfl:i=n:=by omega
   have HE:Hid (M.at r=none):=li fun y hy=>by
    obtain⟨j,hj,e⟩:=List.getElem_of_mem hy;exact HJ.out j y (by have:=HN.out.1;omega) (by rw [<- e];exact List.getElem?_eq_getElem hj)
   have hkk:¬ (i:Int)<(i:Int):=by omega
   have hst:=aS (c':=(wr 0 0 0 0 0 0 0 0 0 false)) H0.out.2 rfl rfl (by simp [go_sem]);have HF:Hid (∀ c',(w1.setRow w.heap.size c').heap[w.heap.size]? = some (.cells c' 46 (0,0))/\Bl w (w1.setRow w.heap.size c')):=fun c'=>⟨ah H0.out.2,Below.setRow H0.out.1 aH _⟩;have HT:Hid (at7 M r=lt 0 0 0 0 0 0 0 0 0 false):=by show _=_;unfold at7;rw [HE.out];rfl
   go_wp2_with fail
   exact bodyPost_ret (cQ rfl _ _ _ _ _ rfl (HF.out _).1 rfl) rfl ⟨by rw [HT.out,HE.out];rfl,(HF.out _).2⟩
end
section
theorem lM {M:WM} {r:Int}:at7 M r=lt 0 0 0 0 0 0 0 0 0 false\/∃ x ∈ M.things,at7 M r=x.2:=by
 unfold at7
 cases h:M.at r with
 | none=>exact .inl rfl
 | some t=>exact .inr ⟨(r,t),cK h,rfl⟩
theorem mD {w:World} {q:Nat} {M:WM} {G:Nat->Prop} (hR:IsR w q M G) (hl:M.things.length≤100000) (r:Int) (hlst:∀ x ∈ M.things,(aF x.2).all (·.oneCell')=true/\0≤x.2.kind/\x.2.kind≤255) :
 Calls Tryz.prog 147 #[P_ q,J r] w fun e w'=>e=.returned (J (at7 M r).kind)/\Bl w w':=by
 have HA:Hid _:=fH hR hl r (fun x hx=>(hlst x hx).1)
 have hk:0≤(at7 M r).kind/\(at7 M r).kind≤255:=by
  rcases lM (M:=M) (r:=r)with h | ⟨x,hx,h⟩
  ·rw [h];exact⟨by decide,by decide⟩
  ·rw [h];exact(hlst x hx).2
 have hone:(aF (at7 M r)).all (·.oneCell')=true:=by
  rcases lM (M:=M) (r:=r)with h | ⟨x,hx,h⟩
  ·rw [h,bS];simp [go_sem]
  ·rw [h];exact(hlst x hx).1
 have hwk:IntKind.i64.wrap (at7 M r).kind=(at7 M r).kind:=by simp [IntKind.wrap,IntKind.signed,IntKind.bits];omega
 clear hR hl hlst hk;generalize at7 M r=t at *
 go_enter Tryz.func147,Tryz.ntmps147
 go_wp2_with fail
 refine Calls.mono HA.out ?_;rintro e w1 ⟨rfl,hb1⟩;obtain⟨w2,hst,hb2,hg2,-⟩:=bh w1 (aF t) rfl hone;have k0:w2.cell? ⟨w1.heap.size,0,none⟩=some (.int .u8 t.kind):=by rw [ag hg2];rfl
 have HB2:Hid (Bl w w2):=hb1.trans (hb2.mono hb1.size);clear hb1 hb2 hg2 hone HA
 go_wp2_with fail
 go_ret
 exact⟨rfl,HB2.out⟩
end
section
theorem oy:bX 6 27 5 bp:=fun _ _ _ _ _=>rfl
attribute [local go_sem ↓] oy in
theorem ip {w:World} {F:Nat->Prop} (t:Th) (h1:SlAt w F t.vl t.v.l) (hvals:t.vals=.slice none 0 0) (hn:t.names=.slice none 0 0) :
 Calls Tryz.prog 240 #[.agg (aF t)] w fun e w'=>e=.returned (.slice (some ⟨w.heap.size+1,0,none⟩) 1 1)/\Bl w w'/\w'.heap[w.heap.size+1]? = some (.cells (au t.v t.vl) 27 (0,0)):=by
 obtain⟨pv,cv,hv⟩:=h1.form;obtain⟨k,h,⟨vk,vn,vstr,vl,vr⟩,raw,vs,vals,n,lo,tg,bi,s,fu,code,names⟩:=t;simp only at hv hvals h1 hn;subst hv hvals hn;have hld:=cF (t:=⟨k,h,⟨vk,vn,vstr,vl,vr⟩,.slice pv vl.length cv,vs,S_,n,lo,tg,bi,s,fu,code,S_⟩) (ai w (.cells (aF ⟨k,h,⟨vk,vn,vstr,vl,vr⟩,.slice pv vl.length cv,vs,S_,n,lo,tg,bi,s,fu,code,S_⟩) 46))
 have H0:Hid (Bl w ((w.alloc (.cells #[U k,J h,U vk,J vn,.string vstr,.slice pv vl.length cv,J vr,S_,J n,J lo,J tg,J bi,U s,.bool fu,code,S_] 46)).alloc (.cells (V_ vk vn vstr (.slice pv vl.length cv) vr) 27))/\((w.alloc (.cells #[U k,J h,U vk,J vn,.string vstr,.slice pv vl.length cv,J vr,S_,J n,J lo,J tg,J bi,U s,.bool fu,code,S_] 46)).alloc (.cells (V_ vk vn vstr (.slice pv vl.length cv) vr) 27)).heap[w.heap.size+1]? = some (.cells (V_ vk vn vstr (.slice pv vl.length cv) vr) 27 (0,0))/\((w.alloc (.cells #[U k,J h,U vk,J vn,.string vstr,.slice pv vl.length cv,J vr,S_,J n,J lo,J tg,J bi,U s,.bool fu,code,S_] 46)).alloc (.cells (V_ vk vn vstr (.slice pv vl.length cv) vr) 27)).cell? ⟨w.heap.size,15,none⟩=some (.slice none 0 0)) :=
  ⟨((Below.refl _ w).alloc aH _).alloc (by simp) _,aK w _ _,by rw [ag (aL w (.cells #[U k,J h,U vk,J vn,.string vstr,.slice pv vl.length cv,J vr,S_,J n,J lo,J tg,J bi,U s,.bool fu,code,S_] 46) (.cells (V_ vk vn vstr (.slice pv vl.length cv) vr) 27))];rfl⟩
 have HOwn:Hid (∀ A:Obj,((w.alloc A).alloc (.cells (V_ vk vn vstr (.slice pv vl.length cv) vr) 27)).ownsRow 0 27 5 (.slice (some ⟨w.heap.size+1,0,none⟩) 1 1) 1 [U vk,J vn,.string vstr,.slice pv vl.length cv,J vr]):=fun A =>
  ⟨by simp,.inr ⟨w.heap.size+1,1,#[U vk,J vn,.string vstr,.slice pv vl.length cv,J vr],rfl,Nat.zero_le _,aK w _ _,by first | rfl | simp,by decide,by rfl,by rfl⟩⟩
 obtain⟨iv,hi,hz,i1,i2⟩:=info_parts de;clear h1;simp only [aF,au]at hld ⊢
 go_enter Tryz.func240,Tryz.ntmps240
 go_upto_region 2 with fail
 go_wp2_with (at_builtin;refine wpList_append_own_none rfl _ _ 24 rfl 0 27 iv 5 Tryz.underlying24 hi _ 1 _ rfl (HOwn.out _) rfl ?_)
 clear hld HOwn;revert H0;generalize World.alloc (World.alloc w _) _=w2;intro H0;have c15:=H0.out.2.2
 go_loopw [3,4] (fun vx vi wr=>vx=.slice (some ⟨w.heap.size+1,0,none⟩) 1 1/\vi=J 0/\w2=wr) (fun _ _ _=>0)
 case atStart=>exact⟨rfl,rfl,rfl⟩
 case round =>
  obtain⟨rfl,rfl,rfl⟩:=hrel
  go_wp2_with fail
  go_ret
  exact⟨rfl,H0.out.1,H0.out.2.1⟩
theorem mj:bX 18 27 17 bp:=fun _ _ _ _ _=>rfl
attribute [local go_sem ↓] mj in
theorem di {w:World} {F:Nat->Prop} {n p q:Nat} (t:Th) (h1:SlAt w F t.vl t.v.l) (hvals:t.vals=.slice none 0 0) (hn:t.names=.slice none 0 0) (hp:p≤512) (hT:aP n p t.v=some q) :
 Calls Tryz.prog 179 #[.agg (aF t)] w fun e w'=>∃ u,e=.returned u/\bF w' w.heap.size u (aN n t.v)/\Bl w w':=by
 have hb0:Bl w (w.alloc (.cells (aF t) 46)):=(Below.refl _ w).alloc aH _;have HV:Hid _:=ip t (h1.on hb0) hvals hn;have HR:Hid (∀ w',Bl w w'->Calls Tryz.prog 241 #[.agg (au t.v t.vl)] w' fun e w''=>∃ u,e=.returned u/\bF w'' w'.heap.size u (aN n t.v)/\Bl w' w''):=fun w' hb=>pY n t.v p q t.vl w' F hp hT (h1.on hb);have hld:=aD (ai w (.cells (aF t) 46)) rfl;have HL:Hid ((aN n t.v).length≤512):=by have:=gu hT;show _≤_;omega
 have HB0:Hid (Bl w (w.alloc (.cells (aF t) 46))/\(w.alloc (.cells (aF t) 46)).heap.size=w.heap.size+1):=⟨hb0,by simp⟩;clear h1 hvals hn hp hT hb0;generalize hrs:aN n t.v=rs at *;clear hrs;obtain⟨tv,htv⟩:∃ tv,tv=au t.v t.vl:=⟨_,rfl⟩;rw [<- htv]at HV HR;have hs5:tv.size=5:=by rw [htv];rfl
 clear htv
 go_enter Tryz.func179,Tryz.ntmps179
 go_wp2_with fail
 refine Calls.mono HV.out ?_;rintro e w1 ⟨rfl,hb1,hg1⟩;obtain⟨G,hG⟩:∃ G,G=(w.alloc (.cells (aF t) 46)).heap.size+1:=⟨_,rfl⟩;have H1:Hid (Bl w w1/\w1.heap[G]? = some (.cells tv 27 (0,0))/\bF w1 w1.heap.size (S_) []):=⟨HB0.out.1.trans (hb1.mono HB0.out.1.size),by rw [hG];exact hg1,World.ownsRow_nil _ _ _ _⟩;have HG1:Hid (w.heap.size≤w1.heap.size/\G<w1.heap.size):=⟨H1.out.1.size,aw H1.out.2.1⟩;rw [<- hG];clear hG hg1 hb1 HV hld HB0
 go_wp2_with fail
 go_loopw [3,5] (fun vo vi wr=>∃ i:Nat,vi=J i/\i≤1/\Hid (Bl w1 wr/\Bl w wr/\bF wr w1.heap.size vo (if i=0 then []else rs)/\wr.heap[G]? = some (.cells tv 27 (0,0)))) (fun _ vi _=>1 - (intOf vi).toNat)
 case atStart=>exact⟨0,rfl,Nat.zero_le _,br,H1.out.1,H1.out.2.2,H1.out.2.1⟩
 case round =>
  clear H1;obtain⟨i,rfl,hi,HI⟩:=hrel
  by_cases h0:i=0
  ·subst h0;have hld:=aI HI.out.2.2.2 hs5
   go_wp2_with fail
   refine Calls.mono (HR.out _ HI.out.2.1) ?_;rintro e w3 ⟨u,rfl,hr3,hb3⟩;have HO:Hid (w3.ownsRow w1.heap.size 25 1 u3 ([]:List Int).length (([]:List Int).map (Value.int .i64))):=dj HI.out.2.2.1 hb3;have HN3:Hid (w3.ownsRow wr.heap.size 25 1 u rs.length (rs.map (Value.int .i64))):=hr3;have HI3:Hid (Bl w1 w3/\Bl w w3/\w3.heap[G]? = some (.cells tv 27 (0,0))):=⟨HI.out.1.trans (hb3.mono HI.out.1.size),HI.out.2.1.trans (hb3.mono HI.out.2.1.size),ae hb3 HI.out.2.2.2⟩;have HZ:Hid (w1.heap.size≤w3.heap.size):=HI3.out.1.size;clear hr3 hb3 HI hld;have Hlen:Hid (([]:List Int).length+rs.length≤1000000):=by show _≤_;have:=HL.out;simp;omega
   go_wp2_with (at_builtin;refine append_refs rfl _ _ rfl w1.heap.size _ _ [] rs rfl rfl HO.out _ HN3.out Hlen.out HZ.out ?_;intro v' w5 hown' hb5
                have HR5:Hid (Bl w1 w5/\Bl w w5/\bF w5 w1.heap.size v' rs/\w5.heap[G]? = some (.cells tv 27 (0,0))):=⟨HI3.out.1.trans hb5,HI3.out.2.1.trans (hb5.mono HG1.out.1),hown',(hb5.block G HG1.out.2).trans HI3.out.2.2⟩
                clear hown' hb5 HO HN3 HI3 HZ)
   go_roundw
   case rel=>exact⟨1,by go_num,by omega,HR5.out⟩
   case measure=>simp [intOf]
  ·obtain rfl:i=1:=by omega
   have HE:Hid (bF wr w1.heap.size u3 rs/\Bl w wr):=⟨HI.out.2.2.1,HI.out.2.1⟩;clear HI
   go_wp2_with fail
   go_ret
   exact⟨_,rfl,dy HE.out.1 HG1.out.1,HE.out.2⟩
end
end Go.Proofs.YthaliljaglldjaaGreat
