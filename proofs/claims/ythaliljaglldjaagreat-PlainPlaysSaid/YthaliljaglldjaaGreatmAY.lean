/- Part of the proof. -/
import Derived.Test.YthaliljaglldjaaGreatmAX
namespace Go.Proofs.YthaliljaglldjaaGreat
set_option maxHeartbeats 16000000
set_option maxRecDepth 20000
open Go.RowKit Go.ChangeMaps Go.MapKept
section
theorem sc {l:List (Int × Th)} {i:Nat} {x y:Int × Th} (hx:l[i]? = some x):bB (l.set i y)=(bB l).take (i * 17) ++ bL y ++ (bB l).drop (i * 17+17):=by
 induction l generalizing i with
 | nil=>simp at hx
 | cons z l ih =>
   cases i with
   | zero =>
     simp at hx;subst hx;show bL y ++ bB l=_
     have:(bB (z :: l)).drop (0 * 17+17)=bB l:=by
      show (bL z ++ bB l).drop 17=_;rw [<- ce z];simp
     rw [this];simp
   | succ i =>
     simp at hx;have:=ih hx;show bL z ++ bB (l.set i y)=_;rw [this]
     have h1:(bB (z :: l)).take ((i+1) * 17)=bL z ++ (bB l).take (i * 17):=by
      show (bL z ++ bB l).take _=_;rw [List.take_append,ce,show (i+1) * 17 - 17=i * 17 by omega,List.take_of_length_le (by rw [ce];omega)]
     have h2:(bB (z :: l)).drop ((i+1) * 17+17)=(bB l).drop (i * 17+17):=by
      show (bL z ++ bB l).drop _=_;rw [List.drop_append,ce,List.drop_of_length_le (by rw [ce];omega),show (i+1) * 17+17 - 17=i * 17+17 by omega];simp
     rw [h1,h2];simp
theorem uw {l:List (Int × Th)} {i:Nat} {r:Int} {y t:Th} (hx:l[i]? = some (r,y)) (hk:l.Pairwise fun a b=>a.1<b.1):(l.map fun z=>if z.1=r then (z.1,t)else z)=l.set i (r,t):=by
 refine List.ext_getElem? fun j=>?_;rw [List.getElem?_map,List.getElem?_set];have hil:=ji hx
 by_cases e:i=j
 ·subst e;rw [if_pos rfl,if_pos hil,hx];simp
 ·rw [if_neg e]
  cases hj:l[j]? with
  | none=>rfl
  | some z =>
    have hjl:=ji hj
    have hne:z.1≠r:=by
     have hi':l[i]=(r,y):=by rw [List.getElem?_eq_getElem hil]at hx;exact Option.some.inj hx
     have hj':l[j]=z:=by rw [List.getElem?_eq_getElem hjl]at hj;exact Option.some.inj hj
     rcases Nat.lt_or_gt_of_ne e with h | h
     ·have:=List.pairwise_iff_getElem.1 hk i j hil hjl h;rw [hi',hj']at this;simp only at this;omega
     ·have:=List.pairwise_iff_getElem.1 hk j i hjl hil h;rw [hi',hj']at this;simp only at this;omega
    show some (if z.1=r then (z.1,t)else z)=some z
    rw [if_neg hne]
theorem gl {e:TypeId}:∀ (cs:List Value) (o:Nat) (w:World) (b:Nat) (cur:Array Value),w.heap[b]? = some (.cells cur e (0,0))->o+cs.length≤cur.size ->
 ∃ cur':Array Value,(w.setCells b o cs).heap[b]? = some (.cells cur' e (0,0))/\cur'.size=cur.size/\cur'.toList=cur.toList.take o ++ cs ++ cur.toList.drop (o+cs.length)
 | [],o,w,b,cur,h,_=>⟨cur,h,rfl,by simp⟩
 | v :: cs,o,w,b,cur,h,hl=>by
   have hl':o+(cs.length+1)≤cur.size:=by simpa using hl
   obtain⟨cur',h1,h2,h3⟩:=gl cs (o+1) (w.setCell ⟨b,o,none⟩ v) b (cur.setIfInBounds o v) (aA h o v) (by simp;omega);refine⟨cur',h1,by rw [h2];simp,?_⟩;rw [h3];have e1:(cur.setIfInBounds o v).toList=cur.toList.set o v:=by simp
   rw [e1,List.take_set,List.drop_set];rw [if_pos (by omega)];have ho:o<cur.toList.length:=by simp;omega
   have e2:(cur.toList.take (o+1)).set o v=cur.toList.take o ++ [v]:=by
    rw [List.take_add_one,List.getElem?_eq_getElem ho];show (cur.toList.take o ++ [_]).set o v=_;rw [List.set_append,if_neg (by rw [List.length_take];omega)]
    congr 1
    rw [List.length_take,Nat.min_eq_left (by omega),Nat.sub_self];rfl
   rw [e2,List.length_cons,show o+1+cs.length=o+(cs.length+1) by omega];simp
theorem eA {F:Nat->Prop} {b:Nat} (hF:F b):∀ (cs:List Value) (o:Nat) (w:World),Keeps F w (w.setCells b o cs)
 | [],_,w=>Keeps.refl F w
 | v :: r,o,w=>(Keeps.setCell (S:=F) w ⟨b,o,none⟩ v hF).trans (eA hF r (o+1) (w.setCell ⟨b,o,none⟩ v)) (fun _ _ h=>h) (fun _ _ h=>h)
theorem RVw.lay {w w':World} {q g n c i B:Nat} {M:WM} {G:Nat->Prop} {sP sC sT sM:Value} (h:RVw w q M G sP sC sT sM) (hs:sT=.slice (some ⟨g,0,none⟩) n c) {r:Int} {y t:Th} (hx:M.things[i]? = some (r,y)) (hkeys:M.things.Pairwise fun a b=>a.1<b.1)
 (hD:DeepR w (fun b=>B≤b) t) (hB:∀ b,G b->b<B) (e:w'=w.setCells g (i * 17+1) (aF t).toList):RVw w' q (M.set r t) (fun b=>G b\/B≤b/\b<w.heap.size) sP sC sT sM/\Keeps (fun b=>b=g) w w':=by
 have hk:Keeps (fun b=>b=g) w w':=by rw [e];exact eA (F:=fun b=>b=g) rfl _ _ _
 have hown:sT.ownBlock=some g:=by rw [hs];rfl
 have hqg:q≠g:=fun e=>h.apq.2.2.1 (by rw [hown,e]);have hGg:G g:=h.own g (.inr (.inr (.inr (.inl hown))));have hms:(M.set r t).things=M.things.set i (r,t):=uw hx hkeys;have hil:=ji hx
 refine⟨{
  blk:=hk.none h.blk hqg
  rp:=ownsRow_keeps h.rp hk fun b hb e=>(h.app b hb).2.1 (by rw [hown,e])
  rc:=ownsRow_keeps h.rc hk fun b hb e=>(h.apc b hb).1 (by rw [hown,e])
  rt:=?_
  rm:=ownsRow_keeps h.rm hk fun b hb e=>h.apt g hown (by rw [<- e];exact hb)
  own:=fun b hb=>.inl (h.own b hb)
  lt:=fun b hb=>Nat.lt_of_lt_of_le (hb.elim (h.lt b) fun h=>h.2) hk.size
  deep:=fun r' t' ht=>?_
  apq:=h.apq
  app:=h.app
  apc:=h.apc
  apt:=h.apt },hk⟩
 ·rw [hms,List.length_set];obtain⟨h1,⟨h2,-⟩ | ⟨g',cap,cur,h2,hg,hb,hc,hm,hcs,ht⟩⟩:=h.rt
  ·rw [hs]at h2
   cases h2
  ·have hgg:g'=g:=by rw [hs]at h2;injection h2 with h2;injection h2 with h2;injection h2 with h2;exact h2.symm
   subst hgg
   have hle:M.things.length * 17≤cur.size:=by
    have:=congrArg List.length ht;rw [List.length_take,eS]at this;simp at this;omega
   have h16:(aF t).toList.length=16:=rfl;obtain⟨cur',b1,b2,b3⟩:=gl (aF t).toList (i * 17+1) w g' cur hb (by rw [h16];omega);rw [<- e]at b1;refine⟨by rw [eS,List.length_set],.inr ⟨g',cap,cur',h2,hg,b1,hc,hm,by rw [b2];exact hcs,?_⟩⟩;rw [sc hx,b3,h16];have hE:∀ k,k≤M.things.length * 17->(bB M.things).take k=cur.toList.take k:=fun k hk=>by rw [<- ht,List.take_take,Nat.min_eq_left hk]
   have hEd:(bB M.things).drop (i * 17+17)=(cur.toList.drop (i * 17+17)).take (M.things.length * 17 - (i * 17+17)):=by rw [<- ht,List.drop_take]
   have h0:(bB M.things)[i * 17]? = some (.int .i64 r):=jn (k:=0) hx rfl
   have h1':cur.toList.take (i * 17+1)=(bB M.things).take (i * 17) ++ [.int .i64 r]:=by
    rw [<- hE _ (by omega),List.take_add_one,h0];rfl
   rw [hEd,h1',show i * 17+1+16=i * 17+17 by omega];have hlt:((bB M.things).take (i * 17)).length=i * 17:=by rw [List.length_take,eS];omega
   have ee:(bB M.things).take (i * 17) ++ [Value.int .i64 r] ++ (aF t).toList ++ cur.toList.drop (i * 17+17)=((bB M.things).take (i * 17) ++ bL (r,t)) ++ cur.toList.drop (i * 17+17):=by
    show _=(bB M.things).take (i * 17) ++ (Value.int .i64 r :: (aF t).toList) ++ _;simp
   rw [ee,List.take_append,List.take_of_length_le (by rw [List.length_append,hlt,ce];omega)]
   congr 1
   rw [List.length_append,hlt,ce]
 ·rw [hms]at ht;obtain⟨j,hj⟩:=List.mem_iff_getElem?.1 ht;rw [List.getElem?_set]at hj;split at hj
  ·cases hj
   refine(hD.keeps hk fun b hb hlt e=>?_).mono fun b hb=>⟨.inr ⟨hb.1,hb.2⟩,fun e=>?_,fun e=>?_,fun e=>?_,fun e=>?_,fun e=>?_⟩
   ·have:=hB g hGg;have e':b=g:=e;omega
   ·have:=hB q (h.own q (.inl rfl));have:=hb.1;omega
   ·have:=hB b (h.own b (.inr (.inl e)));have:=hb.1;omega
   ·have:=hB b (h.own b (.inr (.inr (.inl e))));have:=hb.1;omega
   ·have:=hB b (h.own b (.inr (.inr (.inr (.inl e)))));have:=hb.1;omega
   ·have:=hB b (h.own b (.inr (.inr (.inr (.inr e)))));have:=hb.1;omega
  ·have hd:=h.deep r' t' (List.mem_of_getElem? hj);exact(hd.keeps hk fun b hb _ e=>hb.2.2.2.2.1 (by have e':b=g:=e;rw [hown,e'])).mono fun b hb=>⟨.inl hb.1.1,hb.1.2⟩
end
section
theorem pK {w:World} {b o:Nat} {t:Th} (ht:w.there b o 16) (h1:(aF t).all (·.oneCell')=true):(Ax (R_ b o) (.agg (aF t))).run Tryz.prog w=.ok .skip (w.setCells b o (aF t).toList):=by
 have:=run_storeAt_mid (P:=Tryz.prog) w b o 46 (aF t) ht (by simpa [aF]using dr) h1;simp only [Ax,Sem.run_bind,this,Result.andThen,Sem.run_pure]
theorem RVw.thereW {w:World} {q:Nat} {M:WM} {G:Nat->Prop} {sP sC sT sM:Value} (h:RVw w q M G sP sC sT sM) {g n c i:Nat} (hs:sT=.slice (some ⟨g,0,none⟩) n c) (hi:i<M.things.length):w.there g (i * 17+1) 16:=by
 obtain⟨h1,⟨h2,-⟩ | ⟨g',cap,cur,h2,hg,hb,hc,hm,hcs,ht⟩⟩:=h.rt
 ·rw [hs]at h2
  cases h2
 ·have hgg:g'=g:=by rw [hs]at h2;injection h2 with h2;injection h2 with h2;injection h2 with h2;exact h2.symm
  subst hgg;intro j hj
  have hle:M.things.length * 17≤cur.size:=by
   have:=congrArg List.length ht;rw [List.length_take,eS]at this;simp at this;omega
  refine⟨?_,av hb _⟩;rw [ag hb];simp;omega
theorem set_at {N:WM} {r:Int} {t:Th} {i:Nat} {z:Int × Th} (hz:N.things[i]? = some z):(N.set r t).things[i]? = some (if z.1=r then (z.1,t)else z):=by
 show (N.things.map _)[i]? = _;rw [List.getElem?_map,hz];rfl
def gG (w:World) (q:Nat) (N:WM) (G:Nat->Prop) (r:Int) (x:Th) (e:Ending) (w':World):Prop :=
 e=.returned (J 0)/\∃ vl' vals' G',IsR w' q (N.set r { x with vl:=vl',vals:=vals' }) G'/\Keeps G w w'/\(∀ b,G' b->G b\/w.heap.size≤b)/\(x.v.l = []->vl'=.slice none 0 0)/\(x.vs = []->vals'=.slice none 0 0)
def vJ (w:World) (q:Nat) (N:WM) (G:Nat->Prop) (sP sC sT sM:Value) (r:Int) (x:Th) (i0 i:Nat) (wr:World):Prop :=
 wr.heap[w.heap.size]? = some (.cells (aF x) 46 (0,0)) /\
 ((i≤i0/\Bl w wr) \/
  (i0<i/\∃ vl' vals' G',RVw wr q (N.set r { x with vl:=vl',vals:=vals' }) G' sP sC sT sM/\Keeps G w wr/\(∀ b,G' b->G b\/w.heap.size≤b)/\(x.v.l = []->vl'=.slice none 0 0)/\(x.vs = []->vals'=.slice none 0 0)))
theorem iE:bX 111 46 5 dZ:=fun _ _ _ _ _=>rfl
def LyP (q g n c0 i r0:Nat) (x:Th) (j:Nat) (v:Value) (wx:World):Prop :=
 match j with
 | 0=>v=P_ q
 | 1=>v=P_ q
 | 2=>v=R_ q 2
 | 3=>v=.slice (some ⟨g,0,none⟩) n c0
 | 4=>v=J i
 | 5=>v=.agg (aF x)
 | 6=>(∃ vl' vals',v=.agg (aF { x with vl:=vl',vals:=vals' })/\Own7Q x r0 vl' vals' wx)
 | 7=>v=R_ g (i * 17)
 | 8=>v=R_ g (i * 17+1)
 | _=>True
theorem LyP.stab {q g n c0 i r0:Nat} {x:Th}:∀ (j:Nat) (v:Value) (w w':World),Bl w w'->LyP q g n c0 i r0 x j v w->LyP q g n c0 i r0 x j v w':=by
 intro j v w w' hR h;unfold LyP at h ⊢;split at h
 ·exact h
 ·exact h
 ·exact h
 ·exact h
 ·exact h
 ·exact h
 ·exact h.imp fun _ h=>h.imp fun _ h=>⟨h.1,h.2.on hR⟩
 ·exact h
 ·exact h
 ·trivial
theorem lR {w:World} {q:Nat} {N:WM} {G F:Nat->Prop} (hR:IsR w q N G) (hN:ROk N) (hkeys:N.things.Pairwise fun a b=>a.1<b.1) {r:Int} {y x:Th} (hat:N.at r=some y)
 (hxy:y.kind=x.kind/\y.home=x.home/\y.tgt=x.tgt/\y.bi=x.bi/\y.set=x.set/\(y.full=true->x.full=true))
 (h1:SlAt w F x.vl x.v.l) (h2:SlAt w F x.vals x.vs) (hc:x.code=.slice none 0 0) (hn:x.names=.slice none 0 0) (hd:bY 16 x.v) (hds:∀ v ∈ x.vs,bY 16 v) (hvl:x.vs.length≤1000)
 (hform:∀ w',Bl w w'->Calls Tryz.prog 81 #[.agg (aF x),J N.made.length] w' fun e w''=>e=.returned (.bool true)/\Bl w' w'')
 (rs:List Int) (hrl:rs.length≤100000)
 (hrefs:∀ w',Bl w w'->Calls Tryz.prog 179 #[.agg (aF x)] w' fun e w''=>∃ u,e=.returned u/\bF w'' w'.heap.size u rs/\Bl w' w'')
 (hall:∀ x ∈ rs,(N.at x).isSome=true) :
 Calls Tryz.prog 108 #[P_ q,J r,.agg (aF x)] w (gG w q N G r x):=by
 have hA7:at7 N r=y:=by unfold at7;rw [hat];rfl
 obtain⟨i0,hi0⟩:=List.mem_iff_getElem?.1 (cK hat)
 have hone:(aF x).all (·.oneCell')=true/\(aF y).all (·.oneCell')=true:=by
  refine⟨?_,(hN.cell _ (cK hat)).1⟩;obtain⟨a,b,e⟩:=h1.form;obtain⟨a',b',e'⟩:=h2.form;simp only [aF,hc,hn,e,e'];simp [go_sem]
 have HO:Hid (∀ w',Bl w w'->Calls Tryz.prog 113 #[.agg (aF x)] w' fun e w''=>∃ vl' vals',e=.returned (.agg (aF { x with vl:=vl',vals:=vals' }))/\Bl w' w''/\SlAt w'' (fun b=>w'.heap.size≤b) vl' x.v.l/\SlAt w'' (fun b=>w'.heap.size≤b) vals' x.vs/\(x.v.l = []->vl'=.slice none 0 0)/\(x.vs = []->vals'=.slice none 0 0)):=fun w' hb =>
  lN x (h1.on hb) (h2.on hb) hc hn hd hds hvl
 have HKd:Hid (∀ w',Bl w w'->∀ z ∈ rs,Calls Tryz.prog 147 #[P_ q,J z] w' fun e w''=>∃ k,e=.returned (J k)/\(k==0)=false/\Bl w' w''):=fun w' hb z hz=>by
  refine(mD (hR.below hb) hN.len z hN.kd).mono ?_;rintro e w'' ⟨rfl,hb'⟩;refine⟨_,rfl,?_,hb'⟩;obtain⟨u,hu⟩:=Option.isSome_iff_exists.1 (hall z hz);have h1:=(hN.cell (z,u) (cK hu)).2.1;have:(at7 N z).kind≠0:=by unfold at7;rw [hu];simp only [Option.getD_some]at *;omega
  simpa using this
 have HAt:Hid _:=fH (hR.below ((Below.refl _ w).alloc aH (.cells (aF x) 46))) hN.len r fun z hz=>(hN.cell z hz).1;rw [hA7,hat]at HAt;obtain⟨sP,sC,sT,sM,hV⟩:=hR;have HV:Hid (RVw w q N G sP sC sT sM):=hV;obtain⟨g,c0,hsT,hgl,-⟩:=hV.ent hi0
 obtain⟨pM,cM,hsM⟩:∃ p c,sM=.slice p N.made.length c:=by
  obtain⟨h1,⟨h2,h0⟩ | ⟨g',cap,cur,h2,-⟩⟩:=hV.rm
  ·exact⟨none,0,by rw [h2,h0]⟩
  ·exact⟨_,_,h2⟩
 obtain⟨n,hn'⟩:∃ n,n=N.things.length:=⟨_,rfl⟩;rw [<- hn']at hsT;subst hsM hsT;have HC:Hid (n=N.things.length/\n≤100000/\N.things[i0]? = some (r,y)/\(N.things.Pairwise fun a b=>a.1<b.1)/\(aF x).all (·.oneCell')=true/\x.code=.slice none 0 0/\x.names=.slice none 0 0/\g<w.heap.size):=⟨hn',by rw [hn'];exact hN.len,hi0,hkeys,hone.1,hc,hn,hgl⟩;have HFm:Hid _:=hform;have HRf:Hid _:=hrefs;have HRl:Hid (rs.length≤100000):=hrl;have H1:Hid (Bl w (w.alloc (.cells (aF x) 46))/\(w.alloc (.cells (aF x) 46)).heap[w.heap.size]? = some (.cells (aF x) 46 (0,0))):=⟨(Below.refl _ w).alloc aH _,ai _ _⟩;obtain⟨k1,k2,k3,k4,k5,k6⟩:=hxy;have hone2:=hone.2;clear hV hN hkeys hat h1 h2 hc hn hd hds hvl hform hrefs hall hrl hA7 hi0 hn' hone hgl
 go_enter Tryz.func108,Tryz.ntmps108
 go_upto_region 1 with fail
 revert H1 HAt;generalize w.alloc _=w1;intro HAt H1
 go_wp2_with fail
 refine Calls.mono HAt.out ?_;rintro e w2 ⟨rfl,hb2⟩;obtain⟨w3,hst,hb3,hg3,-⟩:=bh w2 (aF y) rfl hone2;obtain⟨B7,hB7⟩:∃ B7,B7=w2.heap.size:=⟨_,rfl⟩;rw [<- hB7]at hg3;have H3:Hid (Bl w w3/\w3.heap[w.heap.size]? = some (.cells (aF x) 46 (0,0))/\w3.heap[B7]? = some (.cells (aF y) 46 (0,0))):=⟨H1.out.1.trans ((hb2.trans (hb3.mono hb2.size)).mono H1.out.1.size),ae hb3 (ae hb2 H1.out.2),hg3⟩;clear hb2 hb3 hg3 H1 HAt hone2
 go_upto_region 4 with fail
 clear hst;rw [<- hB7];clear hB7;have HB3:Hid (∀ w',Bl w3 w'->Bl w w'):=fun w' hb=>H3.out.1.trans (hb.mono H3.out.1.size)
 have DS:Hid (∀ w',Bl w3 w'->w'.cell? ⟨q,4,none⟩=some (.slice pM N.made.length cM)/\(dZ (P_ w.heap.size)).run Tryz.prog w'=.ok (.value (.agg (aF x))) w' /\
  (w'.cell? ⟨w.heap.size,0,none⟩=some (.int .u8 x.kind)/\w'.cell? ⟨w.heap.size,1,none⟩=some (.int .i64 x.home)/\w'.cell? ⟨w.heap.size,10,none⟩=some (.int .i64 x.tgt)/\w'.cell? ⟨w.heap.size,11,none⟩=some (.int .i64 x.bi)/\w'.cell? ⟨w.heap.size,12,none⟩=some (.int .u8 x.set)/\w'.cell? ⟨w.heap.size,13,none⟩=some (.bool x.full)) /\
  (w'.cell? ⟨B7,0,none⟩=some (.int .u8 x.kind)/\w'.cell? ⟨B7,1,none⟩=some (.int .i64 x.home)/\w'.cell? ⟨B7,10,none⟩=some (.int .i64 x.tgt)/\w'.cell? ⟨B7,11,none⟩=some (.int .i64 x.bi)/\w'.cell? ⟨B7,12,none⟩=some (.int .u8 x.set)/\w'.cell? ⟨B7,13,none⟩=some (.bool y.full))):=fun w' hb=>by
  have b0:=ae hb H3.out.2.1;have b7:=ae hb H3.out.2.2;rw [<- k1,← k2,← k3,← k4,← k5]
  refine⟨by rw [ag (ae (HB3.out w' hb) HV.out.blk)];rfl,aD b0 rfl,⟨by rw [ag b0,k1];rfl,by rw [ag b0,k2];rfl,by rw [ag b0,k3];rfl,by rw [ag b0,k4];rfl,by rw [ag b0,k5];rfl,by rw [ag b0];rfl⟩,
   by rw [ag b7];rfl,by rw [ag b7];rfl,by rw [ag b7];rfl,by rw [ag b7];rfl,by rw [ag b7];rfl,by rw [ag b7];rfl⟩
 have Hf:Hid (∀ w',Bl w3 w'->Calls Tryz.prog 81 #[.agg (aF x),J N.made.length] w' fun e w''=>e=.returned (.bool true)/\Bl w3 w''):=fun w' hC=>(HFm.out w' (HB3.out w' hC)).mono fun e w'' ⟨he,hb⟩=>⟨he,hC.trans (hb.mono hC.size)⟩;clear k1 k2 k3 k4 k5
 go_cut [71] (fun v71 wx=>v71=.bool false/\Hid (Bl w3 wx))
 case first =>
  generalize hfy:y.full=fy at DS k6;generalize hfx:x.full=fx at DS k6
  have hfc:fy=false\/(fy=true/\fx=true):=by
   cases fy with
   | false=>exact .inl rfl
   | true=>exact .inr ⟨rfl,k6 rfl⟩
  clear k6;refine cZ (C:=fun w'=>Bl w3 w') (by kernel_rfl) (by kernel_rfl) below_drew ?_
  rcases hfc with rfl | ⟨rfl,rfl⟩
  all_goals
   repeat (first
    | go_big_quiet_step (fail)
    | quiet_step (fail)
    | (refine wpQuiet_step (fun K hK=>?_);go_simp;first
     | (refine hK _ ?_;clear hK K)
     | (apply Exists.intro
        refine⟨fun w' hC=>?_,hK _ ?_⟩
        ·obtain⟨q4,ql,⟨a0,a1,a2,a3,a4,a5⟩,b0,b1,b2,b3,b4,b5⟩:=DS.out w' hC
         first
          | exact rfl
          | (go_simp;exact rfl)
          | (go_simp;exact⟨rfl,rfl⟩)
          | exact Hf.out w' hC
        clear hK K)))
   refine wpQuiet_nil ?_;intro w5 hC5
   go_wp2_with fail
   go_meet
   case rel=>exact⟨rfl,hC5⟩
 obtain⟨rfl,HC5⟩:=hcut;generalize wc=w5 at *;have H5:Hid (Bl w w5/\w5.heap[w.heap.size]? = some (.cells (aF x) 46 (0,0))):=⟨HB3.out w5 HC5.out,ae HC5.out H3.out.2.1⟩;have l5:=(DS.out w5 HC5.out).2.1;clear DS Hf HFm HC5 HB3 H3 k6;refine ‹∀ (a:Act) (w:World),Code.wp Tryz.prog _ _ a w->_› _ _ ?_
 go_wp2_with fail
 refine Calls.mono (HRf.out w5 H5.out.1) ?_;rintro e w6 ⟨u,rfl,hr6,hb6⟩;have H6:Hid (Bl w w6/\w6.heap[w.heap.size]? = some (.cells (aF x) 46 (0,0))):=⟨H5.out.1.trans (hb6.mono H5.out.1.size),ae hb6 H5.out.2⟩
 obtain⟨qa,c',hu,hcell⟩:∃ q c',u=.slice q rs.length c'/\∀ w2,Bl w6 w2->∀ (j:Nat) (z:Int),rs[j]? = some z->∃ g,q=some ⟨g,0,none⟩/\w2.cell? ⟨g,j,none⟩=some (.int .i64 z):=by
  obtain⟨h1,⟨rfl,h0⟩ | ⟨g,cap,cur,rfl,-,hb,hc,hm,hcs,ht⟩⟩:=hr6
  ·exact⟨none,0,by rw [h0],fun w2 _ j z hj=>by have:=ji hj;omega⟩
  ·refine⟨_,cap,rfl,fun w2 hb2 j z hj=>⟨g,rfl,?_⟩⟩;have hj':=ji hj;have h2:(rs.map (Value.int .i64))[j]? = some (.int .i64 z):=by rw [List.getElem?_map,hj];rfl
   rw [<- ht,List.getElem?_take,if_pos (by omega)]at h2;rw [ag (ae hb2 hb),← Array.getElem?_toList];exact h2
 subst hu;have HCl:Hid (∀ w2,Bl w6 w2->∀ (j:Nat) (z:Int),rs[j]? = some z->∃ g,qa=some ⟨g,0,none⟩/\w2.cell? ⟨g,j,none⟩=some (.int .i64 z)):=hcell;clear hr6 hb6 hcell HRf H5 l5
 go_wp2_with fail
 go_loopw [10] (fun vi wr=>∃ k:Nat,vi=J k/\k≤rs.length/\Hid (Bl w6 wr)) (fun vi _=>rs.length - (intOf vi).toNat)
 case atStart=>exact⟨0,rfl,Nat.zero_le _,br⟩
 case round =>
  obtain⟨k,rfl,hk,HB⟩:=hrel
  by_cases hkl:k<rs.length
  ·have hkz:(k:Int)<(rs.length:Int):=by omega
   have hk0:(0:Int)≤(k:Int):=by omega
   obtain⟨z,hz⟩:∃ z,rs[k]? = some z:=⟨_,List.getElem?_eq_getElem hkl⟩;obtain⟨gz,rfl,hcz⟩:=HCl.out wr HB.out k z hz;have hwk:wrap64 ((k:Int)+1)=(k:Int)+1:=by have:=HRl.out;unfold wrap64;omega
   have HKx:Hid _:=HKd.out wr (H6.out.1.trans (HB.out.mono H6.out.1.size)) z (List.mem_of_getElem? hz);clear hz
   go_wp2_with fail
   refine Calls.mono HKx.out ?_;rintro e w7 ⟨kk,rfl,hkk,hb7⟩;have HB7:Hid (Bl w6 w7):=HB.out.trans (hb7.mono HB.out.size);clear hb7 HB HKx hcz
   go_wp2_with fail
   go_roundw
   case rel=>exact⟨k+1,by go_num,by omega,HB7.out⟩
   case measure=>(rw [hwk];clear hwk;simp [intOf];omega)
  ·have hkz:¬ (k:Int)<(rs.length:Int):=by omega
   obtain rfl:k=rs.length:=by omega
   have hkk:¬ (rs.length:Int)<(rs.length:Int):=by omega
   have HI0:Hid (vJ w q N G sP sC (.slice (some ⟨g,0,none⟩) n c0) (.slice pM N.made.length cM) r x i0 0 wr):=⟨ae HB.out H6.out.2,.inl ⟨Nat.zero_le _,H6.out.1.trans (HB.out.mono H6.out.1.size)⟩⟩;clear HB H6 HCl HKd
   go_wp2_with fail
   go_loopw [11] (fun vi wr=>∃ i:Nat,vi=J i/\i≤n/\Hid (vJ w q N G sP sC (.slice (some ⟨g,0,none⟩) n c0) (.slice pM N.made.length cM) r x i0 i wr)) (fun vi _=>n - (intOf vi).toNat)
   case atStart=>exact⟨0,rfl,Nat.zero_le _,HI0.out⟩
   case round =>
    clear HI0;obtain⟨i,rfl,hi,HI⟩:=hrel
    have HBq:Hid (∃ M' G',RVw wr q M' G' sP sC (.slice (some ⟨g,0,none⟩) n c0) (.slice pM N.made.length cM)/\∀ z,N.things[i]? = some z->∃ t',M'.things[i]? = some (z.1,t')):=by
     rcases HI.out.2 with ⟨-,hb⟩ | ⟨-,vl',vals',G',hv,-⟩
     ·exact⟨N,G,HV.out.below hb,fun z hz=>⟨z.2,hz⟩⟩
     ·refine⟨_,G',hv,fun z hz=>?_⟩;rw [set_at hz]
      by_cases e:z.1=r
      ·rw [if_pos e];exact⟨_,rfl⟩
      ·rw [if_neg e];exact⟨z.2,rfl⟩
    obtain⟨M',G',hv',hent'⟩:=HBq.out;have d2:wr.cell? ⟨q,2,none⟩=some (.slice (some ⟨g,0,none⟩) n c0):=by rw [ag hv'.blk];rfl
    by_cases hin:i<n
    ·have hiz:(i:Int)<(n:Int):=by omega
     have hi00:(0:Int)≤(i:Int):=by omega
     obtain⟨z,hz⟩:∃ z,N.things[i]? = some z:=⟨_,List.getElem?_eq_getElem (by have:=HC.out.1;omega)⟩;obtain⟨t',ht'⟩:=hent' z hz;obtain⟨g',c',e',hg',hcc⟩:=hv'.ent ht';have hgg:g'=g:=by injection e' with e';injection e' with e';injection e' with e';exact e'.symm
     have kz:wr.cell? ⟨g,i * 17,none⟩=some (.int .i64 z.1):=by rw [<- hgg];exact hcc 0 _ rfl
     have hwi:wrap64 ((i:Int)+1)=(i:Int)+1:=by have:=HC.out.2.1;unfold wrap64;omega
     clear hcc hv' ht' e' hg' hgg hent'
     by_cases hii:i=i0
     ·subst hii;obtain rfl:z=(r,y):=by have:=HC.out.2.2.1;rw [hz]at this;exact Option.some.inj this
      have HBl:Hid (Bl w wr):=by
       rcases HI.out.2 with ⟨-,h⟩ | ⟨h,-⟩
       ·exact h
       ·omega
      have HBx:Hid (wr.heap[w.heap.size]? = some (.cells (aF x) 46 (0,0))):=HI.out.1;have HQx:Hid (wr.heap[q]? = some (.cells #[sP,sC,.slice (some ⟨g,0,none⟩) n c0,J N.last,.slice pM N.made.length cM] 94 (0,0))):=(HV.out.below HBl.out).blk;clear hz HI HBq
      go_upto_region 16 with fail
      clear d2 kz;obtain⟨B0,hB0⟩:∃ B0,B0=w.heap.size:=⟨_,rfl⟩;rw [<- hB0]at HBx ⊢;refine aR 9 (by kernel_rfl) rfl (by kernel_rfl) (by kernel_rfl) (fun a b=>Bl a b) (LyP q g n c0 i wr.heap.size x) (fun w'=>Bl wr w') (fun j v w w'=>LyP.stab j v w w') below_drew (fun a b h hR=>h.trans (hR.mono h.size)) ?_ ?_ ?_
      ·exact fun _ _ _ _ h1 h2=>bC (by kernel_rfl) h1 h2
      ·intro j q a w7 hq hC hG;have hj:j<9:=ji hq
       match j,hj with
       | 0,_=>cases hq;have h0':a.tmps[0]?.getD undef=P_ q:=gq (hG.fr 0 (by simp));unfold Oper.wp;simp [go_sem,Act.eval,h0'];exact⟨_,rfl,br,rfl⟩
       | 1,_=>cases hq;have h106':=gq (i:=106) (gd hG 0 rfl);unfold Oper.wp;simp [go_sem,Act.eval,h106'];exact⟨_,rfl,br,rfl⟩
       | 2,_=>cases hq;have h107':=gq (i:=107) (gd hG 1 rfl);unfold Oper.wp;simp [go_sem,Act.eval,h107'];exact⟨_,rfl,br,rfl⟩
       | 3,_ =>
         cases hq;have h108':=gq (i:=108) (gd hG 2 rfl);have c3:w7.cell? ⟨q,2,none⟩=some (.slice (some ⟨g,0,none⟩) n c0):=by rw [ag (ae hC HQx.out)];rfl
         unfold Oper.wp;simp [go_sem,Act.eval,h108',c3];exact⟨_,rfl,br,rfl⟩
       | 4,_=>cases hq;have h11':a.tmps[11]?.getD undef=J i:=gq (hG.fr 11 (by simp));unfold Oper.wp;simp [go_sem,Act.eval,h11'];exact⟨_,rfl,br,rfl⟩
       | 5,_ =>
         cases hq;have h5:a.tmps.getD 5 undef=P_ B0:=hG.fr 5 (by simp);refine aT (.agg (aF x)) ?_ br rfl;rw [iE];show (dZ (a.tmps.getD 5 undef)).run _ _=_;rw [h5];exact aD (ae hC HBx.out) rfl
       | 6,_ =>
         cases hq;have h111':=gq (i:=111) (gd hG 5 rfl);unfold Oper.wp;simp [go_sem,callFunc,Act.eval,Tryz.func113,h111'];refine Calls.mono (HO.out _ (HBl.out.trans (hC.mono HBl.out.size))) ?_;rintro e w8 ⟨vl',vals',rfl,hb8,o1,o2,o3,o4⟩;exact⟨_,rfl,hb8,vl',vals',rfl,o1.mono fun b hb=>Nat.le_trans hC.size hb,o2.mono fun b hb=>Nat.le_trans hC.size hb,o3,o4⟩
       | 7,_=>cases hq;have h109':=gq (i:=109) (gd hG 3 rfl);have h110':=gq (i:=110) (gd hG 4 rfl);unfold Oper.wp;simp [go_sem,Act.eval,h109',h110',hiz,hi00];exact⟨_,rfl,br,rfl⟩
       | 8,_=>cases hq;have h113':=gq (i:=113) (gd hG 7 rfl);unfold Oper.wp;simp [go_sem,Act.eval,h113'];exact⟨_,rfl,br,rfl⟩
      ·intro a w7 hC hdf hsz hfr hphi;have e0:a.tmps.getD 106 undef=_:=hphi 0 _ rfl;have e1:a.tmps.getD 107 undef=_:=hphi 1 _ rfl;have e2:a.tmps.getD 108 undef=_:=hphi 2 _ rfl;have e3:a.tmps.getD 109 undef=_:=hphi 3 _ rfl;have e4:a.tmps.getD 110 undef=J i:=hphi 4 _ rfl;have e5:a.tmps.getD 111 undef=_:=hphi 5 _ rfl;have p6:(∃ vl' vals',(a.tmps.getD 112 undef)=.agg (aF { x with vl:=vl',vals:=vals' })/\Own7Q x wr.heap.size vl' vals' w7):=hphi 6 _ rfl
       obtain⟨u6,e6⟩:∃ u,a.tmps.getD 112 undef=u:=⟨_,rfl⟩;rw [e6]at p6;have e7:a.tmps.getD 113 undef=_:=hphi 7 _ rfl;have e8:a.tmps.getD 114 undef=_:=hphi 8 _ rfl;have ha:=bq hdf hsz hfr;simp only [List.take_succ_cons,List.take_zero,List.filterMap_cons,List.filterMap_nil,List.foldl_cons,List.foldl_nil,List.setIfInBounds_toArray,List.set_cons_zero,List.set_cons_succ,e0,e1,e2,e3,e4,e5,e6,e7,e8]at ha;clear hdf hsz hfr hphi e0 e1 e2 e3 e4 e5 e6 e7 e8;subst ha;obtain⟨vl',vals',rfl,ho1,ho2,ho3,ho4⟩:=p6;have hD:DeepR w7 (fun b=>wr.heap.size≤b) { x with vl:=vl',vals:=vals' }:=⟨ho1,ho2,HC.out.2.2.2.2.2.1,HC.out.2.2.2.2.2.2.1⟩
       have hone':(aF { x with vl:=vl',vals:=vals' }).all (·.oneCell')=true:=by
        obtain⟨a,b,e⟩:=ho1.form;obtain⟨a',b',e'⟩:=ho2.form;simp only [aF,HC.out.2.2.2.2.2.1,HC.out.2.2.2.2.2.2.1,e,e'];simp [go_sem]
       have hv7:=HV.out.below (HBl.out.trans (hC.mono HBl.out.size));have hst:=pK (hv7.thereW rfl (by have:=HC.out.1;omega) (i:=i)) hone';obtain⟨hv8,hk8⟩:=hv7.lay rfl HC.out.2.2.1 HC.out.2.2.2.1 hD (fun b hb=>Nat.lt_of_lt_of_le (HV.out.lt b hb) HBl.out.size) rfl
       have HI2:Hid (vJ w q N G sP sC (.slice (some ⟨g,0,none⟩) n c0) (.slice pM N.made.length cM) r x i (i+1) (w7.setCells g (i * 17+1) (aF { x with vl:=vl',vals:=vals' }).toList)):=by
        refine⟨hk8.none (by have:=ae hC HBx.out;rw [hB0]at this;exact this) (fun e=>by have:=HC.out.2.2.2.2.2.2.2;have e':w.heap.size=g:=e;omega),.inr ⟨Nat.lt_succ_self _,vl',vals',_,hv8,?_,fun b hb=>hb.imp id fun h=>Nat.le_trans HBl.out.size h.1,ho3,ho4⟩⟩;exact(Keeps.of_below (S:=G) (HBl.out.trans (hC.mono HBl.out.size))).trans hk8 (fun _ _ h=>h) (fun b _ e=>by have e':b=g:=e;rw [e'];exact HV.out.own g (.inr (.inr (.inr (.inl rfl)))))
       clear hD hone' hv7 hv8 hk8 ho1 ho2 ho3 ho4 hC HQx HBx HBl;subst hB0;refine⟨rfl,?_⟩;unfold Oper.wp;rw [execOp_stW];simp [Act.eval,go_sem,hst,aV];refine ‹∀ (a:Act) (w:World),Code.wp Tryz.prog _ _ a w->_› _ _ ?_;clear hst;revert HI2;generalize World.setCells _ _ _ _=w8;intro HI2
       go_wp2_with fail
       go_roundw
       case rel=>exact⟨i+1,by go_num,by omega,HI2.out⟩
       case measure=>(rw [hwi];clear hwi;simp [intOf];omega)
     ·have hne:z.1≠r:=by
       have hp:=HC.out.2.2.2.1;have h0:=HC.out.2.2.1;obtain⟨a1,a2⟩:=List.getElem?_eq_some_iff.1 hz;obtain⟨b1,b2⟩:=List.getElem?_eq_some_iff.1 h0
       rcases Nat.lt_or_gt_of_ne hii with h | h
       ·have:=List.pairwise_iff_getElem.1 hp i i0 a1 b1 h;rw [a2,b2]at this;simp only at this;omega
       ·have:=List.pairwise_iff_getElem.1 hp i0 i b1 a1 h;rw [a2,b2]at this;simp only at this;omega
      have hnb:(z.1==r)=false:=by simpa using hne
      have HI2:Hid (vJ w q N G sP sC (.slice (some ⟨g,0,none⟩) n c0) (.slice pM N.made.length cM) r x i0 (i+1) wr):=by
       refine⟨HI.out.1,HI.out.2.imp (fun h=>⟨by omega,h.2⟩) (fun h=>⟨by omega,h.2⟩)⟩
      clear hz HI HBq
      go_wp2_with fail
      go_roundw
      case rel=>exact⟨i+1,by go_num,by omega,HI2.out⟩
      case measure=>(rw [hwi];clear hwi;simp [intOf];omega)
    ·have hiz:¬ (i:Int)<(n:Int):=by omega
     obtain rfl:i=n:=by omega
     have hkk2:¬ (i:Int)<(i:Int):=by omega
     have HF:Hid (gG w q N G r x (.returned (J 0)) wr):=by
      rcases HI.out.2 with ⟨h0,-⟩ | ⟨-,vl',vals',G',h1,h2,h3,h4,h5⟩
      ·have:=(List.getElem?_eq_some_iff.1 HC.out.2.2.1).1;have:=HC.out.1;omega
      ·exact⟨rfl,vl',vals',G',⟨_,_,_,_,h1⟩,h2,h3,h4,h5⟩
     clear HI HBq hv' hent'
     go_wp2_with fail
     go_ret
     exact HF.out
end
section
theorem vD {s:ByteArray} (h:(s == ⟨#[]⟩)=true):s=⟨#[]⟩:=by
 rcases s with ⟨⟨l⟩⟩
 cases l with
 | nil=>rfl
 | cons x l=>exact absurd h (by intro h;cases h)
theorem eR {n r:Int} {s:ByteArray} {len:Nat} (h:dC n s r len=true):n=0/\s=⟨#[]⟩/\r=0/\len=0:=by
 simp only [dC,Bool.and_eq_true,beq_iff_eq]at h;exact⟨h.1,vD h.2.1,h.2.2.1,h.2.2.2⟩
theorem oS {n p q:Nat} {v:Val} (h:aP n p v=some q):∃ p',p=p'+1 /\
 ((v.l = []/\q=p'/\(v.kind=0/\v.n=0/\v.s=⟨#[]⟩/\v.r=0\/v.kind=1/\v.s=⟨#[]⟩/\v.r=0\/v.kind=2/\v.n=0/\v.r=0/\¬ v.s.size > 256\/v.kind=4/\v.n=0/\v.s=⟨#[]⟩/\¬ v.r<1)) \/
   (∃ m,n=m+1/\v.kind=3/\v.n=0/\v.s=⟨#[]⟩/\v.r=0/\¬ v.l.length > p'/\bc m p' v.l=some q)):=by
 cases p with
 | zero=>cases n <;> cases h
 | succ p =>
   refine⟨p,rfl,?_⟩
   by_cases h0:v.kind=0
   ·rw [sq h0]at h;split at h
    ·obtain⟨a,b,c,d⟩:=eR (by assumption)
     cases h
     exact .inl ⟨List.length_eq_zero_iff.1 d,rfl,.inl ⟨h0,a,b,c⟩⟩
    ·cases h
   by_cases h1:v.kind=1
   ·rw [sw h1]at h;split at h
    ·obtain⟨a,b,c,d⟩:=eR (by assumption)
     cases h
     exact .inl ⟨List.length_eq_zero_iff.1 d,rfl,.inr (.inl ⟨h1,b,c⟩)⟩
    ·cases h
   by_cases h2:v.kind=2
   ·rw [so h2]at h;split at h
    ·cases h
    ·rename_i hs
     split at h
     ·obtain⟨a,b,c,d⟩:=eR (by assumption)
      cases h
      exact .inl ⟨List.length_eq_zero_iff.1 d,rfl,.inr (.inr (.inl ⟨h2,a,c,hs⟩))⟩
     ·cases h
   by_cases h4:v.kind=4
   ·rw [sr h4]at h;split at h
    ·cases h
    ·rename_i hs
     split at h
     ·obtain⟨a,b,c,d⟩:=eR (by assumption)
      cases h
      exact .inl ⟨List.length_eq_zero_iff.1 d,rfl,.inr (.inr (.inr ⟨h4,a,b,hs⟩))⟩
     ·cases h
   by_cases h3:v.kind=3
   ·cases n with
    | zero=>rw [uG h3]at h;cases h
    | succ m =>
      by_cases hl:v.l.length > p
      ·rw [nh h3 hl]at h;cases h
      ·rw [uI h3 hl]at h;split at h
       ·cases h
       ·rename_i q' hq
        split at h
        ·obtain⟨a,b,c,d⟩:=eR (by assumption)
         cases h
         exact .inr ⟨m,rfl,h3,a,b,c,hl,hq⟩
        ·cases h
   rw [wS h0 h1 h2 h3 h4]at h
   cases h
theorem oa {n p i q:Nat} {l:List Val} (h:bc n p l=some q):∃ q',bc n p (l.take i)=some q':=by
 cases e:bc n p (l.take i)with
 | some q'=>exact⟨q',rfl⟩
 | none=>rw [fv e]at h;cases h
theorem uE {k n:Nat} (h:k<n):n - (intOf (J ((k:Int)+1))).toNat<n - (intOf (J (k:Int))).toNat:=by
 simp [intOf];omega
def qE (n:Nat):Prop:=∀ (p q:Nat) (v:Val) (raw:Value) (w:World) (F:Nat->Prop),n≤16->p≤512->SlAt w F raw v.l->aP n p v=some q ->
 Calls Tryz.prog 270 #[.agg (au v raw),J p,J n] w fun e w'=>e=.returned (J ((p:Int) - (q:Int)))/\Bl w w'
theorem fG:bX 93 27 92 bp:=fun _ _ _ _ _=>rfl
attribute [local go_sem ↓] fG in
theorem kO (n:Nat) (ih:∀ m,n=m+1->qE m):qE n:=by
 intro p q v raw w F hn hp hS hT;obtain⟨p',rfl,hF⟩:=oS hT;have hq:=bJ hT;clear hT;have hp1:¬ (((p'+1:Nat):Int)<1):=by omega
 rcases hF with ⟨hl,rfl,hk⟩ | ⟨m,rfl,h3,hn0,hs0,hr0,hlen,hL⟩
 ·obtain⟨kind,nn,s,l,r⟩:=v;simp only at hl hk;subst hl;obtain⟨pa,c,rfl⟩:=hS.form;clear hS ih;have HP:Hid (((q+1:Nat):Int) - (q:Int)=1):=by show _=_;omega
  have HB:Hid (Bl w (w.alloc (.cells (V_ kind nn s (.slice pa 0 c) r) 27))):=(Below.refl _ w).alloc aH _;simp only [au,List.length_nil];rw [HP.out];clear hq
  rcases hk with ⟨rfl,rfl,rfl,rfl⟩ | ⟨rfl,rfl,rfl⟩ | ⟨rfl,rfl,rfl,hs⟩ | ⟨rfl,rfl,rfl,hs⟩
  ·go_enter Tryz.func270,Tryz.ntmps270
   go_wp2_with fail
   go_ret
   exact⟨rfl,HB.out⟩
  ·go_enter Tryz.func270,Tryz.ntmps270
   go_wp2_with fail
   go_ret
   exact⟨rfl,HB.out⟩
  ·have hs2:¬ (s.size:Int) > 256:=by omega
   go_enter Tryz.func270,Tryz.ntmps270
   go_wp2_with fail
   go_ret
   exact⟨rfl,HB.out⟩
  ·go_enter Tryz.func270,Tryz.ntmps270
   go_wp2_with fail
   go_ret
   exact⟨rfl,HB.out⟩
 ·obtain⟨kind,nn,s,l,r⟩:=v;simp only at h3 hn0 hs0 hr0 hlen hL hS;subst h3 hn0 hs0 hr0;obtain⟨pa,c,rfl⟩:=hS.form;have HS:Hid (SlAt w F (.slice pa l.length c) l):=hS;have HL:Hid (bc m p' l=some q):=hL;have IH:Hid (qE m):=ih m rfl;obtain⟨P,hP⟩:∃ P,P=p'+1:=⟨_,rfl⟩;obtain⟨D,hD⟩:∃ D,D=m+1:=⟨_,rfl⟩;rw [<- hP]at hp1 hp hq ⊢;rw [<- hD]at hn ⊢;have h2:¬ ((D:Int)<1):=by omega
  have h4:¬ ((l.length:Int) ≥ (P:Int)):=by omega
  have HA:Hid (P≤512/\D≤16/\q<P/\P=p'+1/\D=m+1):=⟨hp,hn,hq,hP,hD⟩;clear hS hL ih hq hn hlen hP hD hp;simp only [au]
  go_enter Tryz.func270,Tryz.ntmps270
  go_wp2_with fail
  have HB0:Hid (Bl w (w.alloc (.cells (V_ 3 0 ⟨#[]⟩ (.slice pa l.length c) 0) 27))/\(w.alloc (.cells (V_ 3 0 ⟨#[]⟩ (.slice pa l.length c) 0) 27)).heap[w.heap.size]? = some (.cells (V_ 3 0 ⟨#[]⟩ (.slice pa l.length c) 0) 27 (0,0))):=⟨(Below.refl _ w).alloc aH _,ai _ _⟩
  go_loopw [7,8] (fun va vi wr=>∃ (k qk:Nat) (a:Int),va=J a/\vi=J k/\k≤l.length/\Hid (a=(P:Int) - qk/\bc m p' (l.take k)=some qk/\Bl w wr/\wr.heap[w.heap.size]? = some (.cells (V_ 3 0 ⟨#[]⟩ (.slice pa l.length c) 0) 27 (0,0)))) (fun _ vi _=>l.length - (intOf vi).toNat)
  case atStart=>exact⟨0,p',1,rfl,rfl,Nat.zero_le _,by have:=HA.out;omega,rfl,HB0.out⟩
  case round =>
   obtain⟨k,qk,a,rfl,rfl,hk,HI⟩:=hrel;have c3:wr.cell? ⟨w.heap.size,3,none⟩=some (.slice pa l.length c):=by rw [ag HI.out.2.2.2];rfl
   by_cases hkl:k<l.length
   ·have hkz:(k:Int)<(l.length:Int):=by omega
    have hkz2:¬ (k:Int) ≥ (l.length:Int):=by omega
    obtain⟨x,hx⟩:∃ x,l[k]? = some x:=⟨_,List.getElem?_eq_getElem hkl⟩;obtain⟨b,o,c',raw,hpe,hrg,-,-,hSx⟩:=(HS.out.on HI.out.2.2.1).range hx
    cases hpe
    obtain⟨q',hq'⟩:∃ q',aP m qk x=some q':=by
     have h1:=ea hx HI.out.2.1;obtain⟨q',h2⟩:=oa (i:=k+1) HL.out;exact⟨q',h1 ▸ h2⟩
    have hlq:=bJ hq';have hqk:qk≤p':=dU (fun p v q h=>Nat.le_of_lt (bJ h)) _ _ _ HI.out.2.1;obtain⟨xk,xn,xs,xl,xr⟩:=x;obtain⟨qa,qc,rfl⟩:=hSx.form;have hld0:=aY hrg rfl;have hld:(bp (R_ b (o+k * 5))).run Tryz.prog wr=.ok (.value (.agg (V_ xk xn xs (.slice qa xl.length qc) xr))) wr:=hld0;have Hx:Hid (SlAt wr F (.slice qa xl.length qc) xl/\aP m qk ⟨xk,xn,xs,xl,xr⟩=some q'/\qk≤512/\bc m p' (l.take (k+1))=some q'):=⟨hSx,hq',by have:=HA.out;omega,by rw [ea hx HI.out.2.1];exact hq'⟩;have hwk:wrap64 ((k:Int)+1)=(k:Int)+1:=by have:=HA.out;unfold wrap64;omega
    have hw1:wrap64 ((P:Int) - a)=(qk:Int):=by rw [HI.out.1];have:=HA.out;unfold wrap64;omega
    have hw2:wrap64 ((D:Int) - 1)=(m:Int):=by have:=HA.out;unfold wrap64;omega
    have hn0:¬ ((qk:Int) - (q':Int)<0):=by omega
    have hw3:Hid (wrap64 (a+((qk:Int) - (q':Int)))=(P:Int) - q'):=by show _=_;rw [HI.out.1];have:=HA.out;unfold wrap64;omega
    clear hld0 hx hrg hSx hq' hlq hqk
    go_wp2_with fail
    refine(IH.out qk q' ⟨xk,xn,xs,xl,xr⟩ _ _ _ (by have:=HA.out;omega) Hx.out.2.2.1 Hx.out.1 Hx.out.2.1).mono ?_;rintro e w5 ⟨rfl,hb5⟩;have HI5:Hid (Bl w w5/\_):=⟨HI.out.2.2.1.trans (hb5.mono HI.out.2.2.1.size),ae hb5 HI.out.2.2.2⟩;clear hb5 HI hld c3
    go_wp2_with fail
    go_roundw
    case rel=>exact⟨k+1,q',_,rfl,by go_num,by omega,hw3.out,Hx.out.2.2.2,HI5.out⟩
    case measure=>rw [hwk];exact uE hkl
   ·have hkz:¬ (k:Int)<(l.length:Int):=by omega
    obtain rfl:k=l.length:=by omega
    have hkk:¬ (l.length:Int)<(l.length:Int):=by omega
    have hqq:qk=q:=by
     have h1:=HI.out.2.1;rw [List.take_length,HL.out]at h1
     cases h1
     rfl
    subst hqq;have HB:Hid (Bl w wr):=HI.out.2.2.1;obtain⟨rfl,-⟩:=HI.out;clear HI
    go_wp2_with fail
    go_ret
    exact⟨rfl,HB.out⟩
theorem sO (n:Nat):qE n:=by
 induction n with
 | zero=>exact kO 0 (fun m h=>by cases h)
 | succ n ih=>exact kO (n+1) (fun m h=>by cases h;exact ih)
theorem tN {w:World} {F:Nat->Prop} {v:Val} {raw:Value} (hS:SlAt w F raw v.l) (hm:ay v=true):Calls Tryz.prog 242 #[.agg (au v raw)] w fun e w'=>∃ a:Int,e=.returned (J a)/\0<a/\Bl w w':=by
 obtain⟨q,hq⟩:=Option.isSome_iff_exists.1 hm;have hlt:=bJ hq;obtain⟨pa,c,rfl⟩:=hS.form;have HK:Hid (∀ w',Bl w w'->Calls Tryz.prog 270 #[.agg (au v (.slice pa v.l.length c)),J 512,J 16] w' fun e w''=>e=.returned (J ((512:Int) - (q:Int)))/\Bl w' w''):=fun w' hb=>sO 16 512 q v _ w' _ (by omega) (by omega) (hS.on hb) hq;have h1:¬ ((512:Int) - (q:Int)<0):=by omega
 have H2:Hid (0<(512:Int) - (q:Int)):=by show _<_;omega
 clear hS hm hq hlt;obtain⟨k,n,s,l,r⟩:=v;simp only [au]at HK ⊢;generalize l.length=m at *;have HB0:Hid (Bl w (w.alloc (.cells (V_ k n s (.slice pa m c) r) 27))):=(Below.refl _ w).alloc aH _
 go_enter Tryz.func242,Tryz.ntmps242
 go_wp2_with fail
 refine Calls.mono (HK.out _ HB0.out) ?_;rintro e w1 ⟨rfl,hb1⟩;have HB1:Hid (Bl w w1):=HB0.out.trans (hb1.mono HB0.out.size);clear hb1 HB0
 go_wp2_with fail
 go_ret
 exact⟨_,rfl,H2.out,HB1.out⟩
theorem py {w:World} {F:Nat->Prop} {v:Val} {raw:Value} (hS:SlAt w F raw v.l) (hm:ay v=true):Calls Tryz.prog 182 #[.agg (au v raw)] w fun e w'=>e=.returned (.bool true)/\Bl w w':=by
 obtain⟨pa,c,rfl⟩:=hS.form;have HK:Hid (∀ w',Bl w w'->Calls Tryz.prog 242 #[.agg (au v (.slice pa v.l.length c))] w' fun e w''=>∃ a:Int,e=.returned (J a)/\0<a/\Bl w' w''):=fun w' hb=>tN (hS.on hb) hm;clear hS hm;obtain⟨k,n,s,l,r⟩:=v;simp only [au]at HK ⊢;generalize l.length=m at *;have HB0:Hid (Bl w (w.alloc (.cells (V_ k n s (.slice pa m c) r) 27))):=(Below.refl _ w).alloc aH _
 go_enter Tryz.func182,Tryz.ntmps182
 go_wp2_with fail
 refine Calls.mono (HK.out _ HB0.out) ?_;rintro e w1 ⟨a,rfl,ha,hb1⟩;have ha2:a > 0:=ha;have HB1:Hid (Bl w w1):=HB0.out.trans (hb1.mono HB0.out.size);clear hb1 HB0 ha
 go_wp2_with fail
 go_ret
 exact⟨rfl,HB1.out⟩
end
end Go.Proofs.YthaliljaglldjaaGreat
