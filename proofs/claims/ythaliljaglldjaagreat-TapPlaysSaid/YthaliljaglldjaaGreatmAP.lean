/- Part of the proof. -/
import Derived.Test.YthaliljaglldjaaGreatmAO
namespace Go.Proofs.YthaliljaglldjaaGreat
set_option maxHeartbeats 16000000
set_option maxRecDepth 20000
open Go.RowKit Go.ChangeMaps Go.MapKept
section
theorem eflat_set {l:List (Int × Th)} {i:Nat} {x y:Int × Th} (hx:l[i]? = some x):eflat (l.set i y)=(eflat l).take (i * 17) ++ entc y ++ (eflat l).drop (i * 17+17):=by
 induction l generalizing i with
 | nil=>simp at hx
 | cons z l ih =>
   cases i with
   | zero =>
     simp at hx;subst hx;show entc y ++ eflat l=_
     have:(eflat (z :: l)).drop (0 * 17+17)=eflat l:=by
      show (entc z ++ eflat l).drop 17=_;rw [<- entc_len z];simp
     rw [this];simp
   | succ i =>
     simp at hx;have:=ih hx;show entc z ++ eflat (l.set i y)=_;rw [this]
     have h1:(eflat (z :: l)).take ((i+1) * 17)=entc z ++ (eflat l).take (i * 17):=by
      show (entc z ++ eflat l).take _=_;rw [List.take_append,entc_len,show (i+1) * 17 - 17=i * 17 by omega,List.take_of_length_le (by rw [entc_len];omega)]
     have h2:(eflat (z :: l)).drop ((i+1) * 17+17)=(eflat l).drop (i * 17+17):=by
      show (entc z ++ eflat l).drop _=_;rw [List.drop_append,entc_len,List.drop_of_length_le (by rw [entc_len];omega),show (i+1) * 17+17 - 17=i * 17+17 by omega];simp
     rw [h1,h2];simp
theorem set_keys {l:List (Int × Th)} {i:Nat} {r:Int} {y t:Th} (hx:l[i]? = some (r,y)) (hk:l.Pairwise fun a b=>a.1<b.1):(l.map fun z=>if z.1=r then (z.1,t)else z)=l.set i (r,t):=by
 refine List.ext_getElem? fun j=>?_;rw [List.getElem?_map,List.getElem?_set];have hil:=(List.getElem?_eq_some_iff.1 hx).1
 by_cases e:i=j
 ·subst e;rw [if_pos rfl,if_pos hil,hx];simp
 ·rw [if_neg e]
  cases hj:l[j]? with
  | none=>rfl
  | some z =>
    have hjl:=(List.getElem?_eq_some_iff.1 hj).1
    have hne:z.1≠r:=by
     have hi':l[i]=(r,y):=by rw [List.getElem?_eq_getElem hil]at hx;exact Option.some.inj hx
     have hj':l[j]=z:=by rw [List.getElem?_eq_getElem hjl]at hj;exact Option.some.inj hj
     rcases Nat.lt_or_gt_of_ne e with h | h
     ·have:=List.pairwise_iff_getElem.1 hk i j hil hjl h;rw [hi',hj']at this;simp only at this;omega
     ·have:=List.pairwise_iff_getElem.1 hk j i hjl hil h;rw [hi',hj']at this;simp only at this;omega
    show some (if z.1=r then (z.1,t)else z)=some z
    rw [if_neg hne]
theorem blk_setCells {e:TypeId}:∀ (cs:List Value) (o:Nat) (w:World) (b:Nat) (cur:Array Value),w.heap[b]? = some (.cells cur e (0,0))->o+cs.length≤cur.size ->
 ∃ cur':Array Value,(w.setCells b o cs).heap[b]? = some (.cells cur' e (0,0))/\cur'.size=cur.size/\cur'.toList=cur.toList.take o ++ cs ++ cur.toList.drop (o+cs.length)
 | [],o,w,b,cur,h,_=>⟨cur,h,rfl,by simp⟩
 | v :: cs,o,w,b,cur,h,hl=>by
   have hl':o+(cs.length+1)≤cur.size:=by simpa using hl
   obtain⟨cur',h1,h2,h3⟩:=blk_setCells cs (o+1) (w.setCell ⟨b,o,none⟩ v) b (cur.setIfInBounds o v) (blk_setCell h o v) (by simp;omega);refine⟨cur',h1,by rw [h2];simp,?_⟩;rw [h3];have e1:(cur.setIfInBounds o v).toList=cur.toList.set o v:=by simp
   rw [e1,List.take_set,List.drop_set];rw [if_pos (by omega)];have ho:o<cur.toList.length:=by simp;omega
   have e2:(cur.toList.take (o+1)).set o v=cur.toList.take o ++ [v]:=by
    rw [List.take_add_one,List.getElem?_eq_getElem ho];show (cur.toList.take o ++ [_]).set o v=_;rw [List.set_append,if_neg (by rw [List.length_take];omega)]
    congr 1
    rw [List.length_take,Nat.min_eq_left (by omega),Nat.sub_self];rfl
   rw [e2,List.length_cons,show o+1+cs.length=o+(cs.length+1) by omega];simp
theorem keeps_setCells {F:Nat->Prop} {b:Nat} (hF:F b):∀ (cs:List Value) (o:Nat) (w:World),Keeps F w (w.setCells b o cs)
 | [],_,w=>Keeps.refl F w
 | v :: r,o,w=>(Keeps.setCell (S:=F) w ⟨b,o,none⟩ v hF).trans (keeps_setCells hF r (o+1) (w.setCell ⟨b,o,none⟩ v)) (fun _ _ h=>h) (fun _ _ h=>h)
theorem RVw.lay {w w':World} {q g n c i B:Nat} {M:WM} {G:Nat->Prop} {sP sC sT sM:Value} (h:RVw w q M G sP sC sT sM) (hs:sT=.slice (some ⟨g,0,none⟩) n c) {r:Int} {y t:Th} (hx:M.things[i]? = some (r,y)) (hkeys:M.things.Pairwise fun a b=>a.1<b.1)
 (hD:DeepR w (fun b=>B≤b) t) (hB:∀ b,G b->b<B) (e:w'=w.setCells g (i * 17+1) (thc t).toList):RVw w' q (M.set r t) (fun b=>G b\/B≤b/\b<w.heap.size) sP sC sT sM/\Keeps (fun b=>b=g) w w':=by
 have hk:Keeps (fun b=>b=g) w w':=by rw [e];exact keeps_setCells (F:=fun b=>b=g) rfl _ _ _
 have hown:sT.ownBlock=some g:=by rw [hs];rfl
 have hqg:q≠g:=fun e=>h.apq.2.2.1 (by rw [hown,e]);have hGg:G g:=h.own g (.inr (.inr (.inr (.inl hown))));have hms:(M.set r t).things=M.things.set i (r,t):=set_keys hx hkeys;have hil:=(List.getElem?_eq_some_iff.1 hx).1
 refine⟨{
  blk:=hk.none h.blk hqg
  rp:=ownsRow_keeps h.rp hk fun b hb e=>(h.app b hb).2.1 (by rw [hown,e])
  rc:=ownsRow_keeps h.rc hk fun b hb e=>(h.apc b hb).1 (by rw [hown,e])
  rt:=?_
  rm:=ownsRow_keeps h.rm hk fun b hb e=>h.apt g hown (by rw [<- e];exact hb)
  own:=fun b hb=>.inl (h.own b hb)
  lt:=fun b hb=>Nat.lt_of_lt_of_le (hb.elim (h.lt b) fun h=>h.2) hk.size
  deep:=fun r' t' ht=>?_
  apq:=h.apq
  app:=h.app
  apc:=h.apc
  apt:=h.apt },hk⟩
 ·rw [hms,List.length_set];obtain⟨h1,⟨h2,-⟩ | ⟨g',cap,cur,h2,hg,hb,hc,hm,hcs,ht⟩⟩:=h.rt
  ·rw [hs]at h2
   cases h2
  ·have hgg:g'=g:=by rw [hs]at h2;injection h2 with h2;injection h2 with h2;injection h2 with h2;exact h2.symm
   subst hgg
   have hle:M.things.length * 17≤cur.size:=by
    have:=congrArg List.length ht;rw [List.length_take,eflat_len]at this;simp at this;omega
   have h16:(thc t).toList.length=16:=rfl;obtain⟨cur',b1,b2,b3⟩:=blk_setCells (thc t).toList (i * 17+1) w g' cur hb (by rw [h16];omega);rw [<- e]at b1;refine⟨by rw [eflat_len,List.length_set],.inr ⟨g',cap,cur',h2,hg,b1,hc,hm,by rw [b2];exact hcs,?_⟩⟩;rw [eflat_set hx,b3,h16];have hE:∀ k,k≤M.things.length * 17->(eflat M.things).take k=cur.toList.take k:=fun k hk=>by rw [<- ht,List.take_take,Nat.min_eq_left hk]
   have hEd:(eflat M.things).drop (i * 17+17)=(cur.toList.drop (i * 17+17)).take (M.things.length * 17 - (i * 17+17)):=by rw [<- ht,List.drop_take]
   have h0:(eflat M.things)[i * 17]? = some (.int .i64 r):=eflat_at (k:=0) hx rfl
   have h1':cur.toList.take (i * 17+1)=(eflat M.things).take (i * 17) ++ [.int .i64 r]:=by
    rw [<- hE _ (by omega),List.take_add_one,h0];rfl
   rw [hEd,h1',show i * 17+1+16=i * 17+17 by omega];have hlt:((eflat M.things).take (i * 17)).length=i * 17:=by rw [List.length_take,eflat_len];omega
   have ee:(eflat M.things).take (i * 17) ++ [Value.int .i64 r] ++ (thc t).toList ++ cur.toList.drop (i * 17+17)=((eflat M.things).take (i * 17) ++ entc (r,t)) ++ cur.toList.drop (i * 17+17):=by
    show _=(eflat M.things).take (i * 17) ++ (Value.int .i64 r :: (thc t).toList) ++ _;simp
   rw [ee,List.take_append,List.take_of_length_le (by rw [List.length_append,hlt,entc_len];omega)]
   congr 1
   rw [List.length_append,hlt,entc_len]
 ·rw [hms]at ht;obtain⟨j,hj⟩:=List.mem_iff_getElem?.1 ht;rw [List.getElem?_set]at hj;split at hj
  ·cases hj
   refine(hD.keeps hk fun b hb hlt e=>?_).mono fun b hb=>⟨.inr ⟨hb.1,hb.2⟩,fun e=>?_,fun e=>?_,fun e=>?_,fun e=>?_,fun e=>?_⟩
   ·have:=hB g hGg;have e':b=g:=e;omega
   ·have:=hB q (h.own q (.inl rfl));have:=hb.1;omega
   ·have:=hB b (h.own b (.inr (.inl e)));have:=hb.1;omega
   ·have:=hB b (h.own b (.inr (.inr (.inl e))));have:=hb.1;omega
   ·have:=hB b (h.own b (.inr (.inr (.inr (.inl e)))));have:=hb.1;omega
   ·have:=hB b (h.own b (.inr (.inr (.inr (.inr e)))));have:=hb.1;omega
  ·have hd:=h.deep r' t' (List.mem_of_getElem? hj);exact(hd.keeps hk fun b hb _ e=>hb.2.2.2.2.1 (by have e':b=g:=e;rw [hown,e'])).mono fun b hb=>⟨.inl hb.1.1,hb.1.2⟩
end
section
theorem storeWhat_mid {w:World} {b o:Nat} {t:Th} (ht:w.there b o 16) (h1:(thc t).all (·.oneCell')=true):(stW (.pointer (some ⟨b,o,none⟩)) (.agg (thc t))).run Tryz.prog w=.ok .skip (w.setCells b o (thc t).toList):=by
 have:=run_storeAt_mid (P:=Tryz.prog) w b o 46 (thc t) ht (by simpa [thc]using sizeWhat) h1;simp only [stW,Sem.run_bind,this,Result.andThen,Sem.run_pure]
theorem RVw.thereW {w:World} {q:Nat} {M:WM} {G:Nat->Prop} {sP sC sT sM:Value} (h:RVw w q M G sP sC sT sM) {g n c i:Nat} (hs:sT=.slice (some ⟨g,0,none⟩) n c) (hi:i<M.things.length):w.there g (i * 17+1) 16:=by
 obtain⟨h1,⟨h2,-⟩ | ⟨g',cap,cur,h2,hg,hb,hc,hm,hcs,ht⟩⟩:=h.rt
 ·rw [hs]at h2
  cases h2
 ·have hgg:g'=g:=by rw [hs]at h2;injection h2 with h2;injection h2 with h2;injection h2 with h2;exact h2.symm
  subst hgg;intro j hj
  have hle:M.things.length * 17≤cur.size:=by
   have:=congrArg List.length ht;rw [List.length_take,eflat_len]at this;simp at this;omega
  refine⟨?_,frozen_blk hb _⟩;rw [cell_blk hb];simp;omega
theorem set_at {N:WM} {r:Int} {t:Th} {i:Nat} {z:Int × Th} (hz:N.things[i]? = some z):(N.set r t).things[i]? = some (if z.1=r then (z.1,t)else z):=by
 show (N.things.map _)[i]? = _;rw [List.getElem?_map,hz];rfl
def LayR (w:World) (q:Nat) (N:WM) (G:Nat->Prop) (r:Int) (x:Th) (e:Ending) (w':World):Prop :=
 e=.returned (.int .i64 0)/\∃ vl' vals' G',IsR w' q (N.set r { x with vl:=vl',vals:=vals' }) G'/\Keeps G w w'/\(∀ b,G' b->G b\/w.heap.size≤b)/\(x.v.l = []->vl'=.slice none 0 0)/\(x.vs = []->vals'=.slice none 0 0)
def LayI (w:World) (q:Nat) (N:WM) (G:Nat->Prop) (sP sC sT sM:Value) (r:Int) (x:Th) (i0 i:Nat) (wr:World):Prop :=
 wr.heap[w.heap.size]? = some (.cells (thc x) 46 (0,0)) /\
 ((i≤i0/\Bl w wr) \/
  (i0<i/\∃ vl' vals' G',RVw wr q (N.set r { x with vl:=vl',vals:=vals' }) G' sP sC sT sM/\Keeps G w wr/\(∀ b,G' b->G b\/w.heap.size≤b)/\(x.v.l = []->vl'=.slice none 0 0)/\(x.vs = []->vals'=.slice none 0 0)))
theorem execOp_ldLyP111 (ρ:Operand->Value) (ty:TypeId) (pos:String) (af:Array Edge) (g:Option (Nat × Bool)) :
 execOp ρ { dst:=some 111,op:=.load 46 (.tmp 5),type:=ty,pos:=pos,after:=af,guard:=g } = ldW (ρ (.tmp 5)):=rfl
def LyP (q g n c0 i r0:Nat) (x:Th) (j:Nat) (v:Value) (wx:World):Prop :=
 match j with
 | 0=>v=.pointer (some ⟨q,0,none⟩)
 | 1=>v=.pointer (some ⟨q,0,none⟩)
 | 2=>v=.pointer (some ⟨q,2,none⟩)
 | 3=>v=.slice (some ⟨g,0,none⟩) n c0
 | 4=>v=.int .i64 i
 | 5=>v=.agg (thc x)
 | 6=>(∃ vl' vals',v=.agg (thc { x with vl:=vl',vals:=vals' })/\Own7Q x r0 vl' vals' wx)
 | 7=>v=.pointer (some ⟨g,i * 17,none⟩)
 | 8=>v=.pointer (some ⟨g,i * 17+1,none⟩)
 | _=>True
theorem LyP.stab {q g n c0 i r0:Nat} {x:Th}:∀ (j:Nat) (v:Value) (w w':World),Bl w w'->LyP q g n c0 i r0 x j v w->LyP q g n c0 i r0 x j v w':=by
 intro j v w w' hR h;unfold LyP at h ⊢;split at h
 ·exact h
 ·exact h
 ·exact h
 ·exact h
 ·exact h
 ·exact h
 ·exact h.imp fun _ h=>h.imp fun _ h=>⟨h.1,h.2.on hR⟩
 ·exact h
 ·exact h
 ·trivial
theorem lay7_W {w:World} {q:Nat} {N:WM} {G F:Nat->Prop} (hR:IsR w q N G) (hN:ROk N) (hkeys:N.things.Pairwise fun a b=>a.1<b.1) {r:Int} {y x:Th} (hat:N.at r=some y)
 (hxy:y.kind=x.kind/\y.home=x.home/\y.tgt=x.tgt/\y.bi=x.bi/\y.set=x.set/\(y.full=true->x.full=true))
 (h1:SlAt w F x.vl x.v.l) (h2:SlAt w F x.vals x.vs) (hc:x.code=.slice none 0 0) (hn:x.names=.slice none 0 0) (hd:depV 16 x.v) (hds:∀ v ∈ x.vs,depV 16 v) (hvl:x.vs.length≤1000)
 (hform:∀ w',Bl w w'->Calls Tryz.prog 81 #[.agg (thc x),.int .i64 N.made.length] w' fun e w''=>e=.returned (.bool true)/\Bl w' w'')
 (rs:List Int) (hrl:rs.length≤100000)
 (hrefs:∀ w',Bl w w'->Calls Tryz.prog 179 #[.agg (thc x)] w' fun e w''=>∃ u,e=.returned u/\RefRow w'' w'.heap.size u rs/\Bl w' w'')
 (hall:∀ x ∈ rs,(N.at x).isSome=true) :
 Calls Tryz.prog 108 #[.pointer (some ⟨q,0,none⟩),.int .i64 r,.agg (thc x)] w (LayR w q N G r x):=by
 have hA7:at7 N r=y:=by unfold at7;rw [hat];rfl
 obtain⟨i0,hi0⟩:=List.mem_iff_getElem?.1 (at_mem hat)
 have hone:(thc x).all (·.oneCell')=true/\(thc y).all (·.oneCell')=true:=by
  refine⟨?_,(hN.cell _ (at_mem hat)).1⟩;obtain⟨a,b,e⟩:=h1.form;obtain⟨a',b',e'⟩:=h2.form;simp only [thc,hc,hn,e,e'];simp [go_sem]
 have HO:Hid (∀ w',Bl w w'->Calls Tryz.prog 113 #[.agg (thc x)] w' fun e w''=>∃ vl' vals',e=.returned (.agg (thc { x with vl:=vl',vals:=vals' }))/\Bl w' w''/\SlAt w'' (fun b=>w'.heap.size≤b) vl' x.v.l/\SlAt w'' (fun b=>w'.heap.size≤b) vals' x.vs/\(x.v.l = []->vl'=.slice none 0 0)/\(x.vs = []->vals'=.slice none 0 0)):=fun w' hb =>
  rown7_W x (h1.on hb) (h2.on hb) hc hn hd hds hvl
 have HKd:Hid (∀ w',Bl w w'->∀ z ∈ rs,Calls Tryz.prog 147 #[.pointer (some ⟨q,0,none⟩),.int .i64 z] w' fun e w''=>∃ k,e=.returned (.int .i64 k)/\(k==0)=false/\Bl w' w''):=fun w' hb z hz=>by
  refine(kind7_W (hR.below hb) hN.len z hN.kd).mono ?_;rintro e w'' ⟨rfl,hb'⟩;refine⟨_,rfl,?_,hb'⟩;obtain⟨u,hu⟩:=Option.isSome_iff_exists.1 (hall z hz);have h1:=(hN.cell (z,u) (at_mem hu)).2.1;have:(at7 N z).kind≠0:=by unfold at7;rw [hu];simp only [Option.getD_some]at *;omega
  simpa using this
 have HAt:=(show Hid _ from at7_W (hR.below ((Below.refl _ w).alloc (Nat.le_refl _) (.cells (thc x) 46))) hN.len r fun z hz=>(hN.cell z hz).1);rw [hA7,hat]at HAt;obtain⟨sP,sC,sT,sM,hV⟩:=hR;have HV:=(show Hid (RVw w q N G sP sC sT sM)from hV);obtain⟨g,c0,hsT,hgl,-⟩:=hV.ent hi0
 obtain⟨pM,cM,hsM⟩:∃ p c,sM=.slice p N.made.length c:=by
  obtain⟨h1,⟨h2,h0⟩ | ⟨g',cap,cur,h2,-⟩⟩:=hV.rm
  ·exact⟨none,0,by rw [h2,h0]⟩
  ·exact⟨_,_,h2⟩
 obtain⟨n,hn'⟩:∃ n,n=N.things.length:=⟨_,rfl⟩;rw [<- hn']at hsT;subst hsM hsT;have HC:Hid (n=N.things.length/\n≤100000/\N.things[i0]? = some (r,y)/\(N.things.Pairwise fun a b=>a.1<b.1)/\(thc x).all (·.oneCell')=true/\x.code=.slice none 0 0/\x.names=.slice none 0 0/\g<w.heap.size):=⟨hn',by rw [hn'];exact hN.len,hi0,hkeys,hone.1,hc,hn,hgl⟩;have HFm:=(show Hid _ from hform);have HRf:=(show Hid _ from hrefs);have HRl:Hid (rs.length≤100000):=hrl;have H1:Hid (Bl w (w.alloc (.cells (thc x) 46))/\(w.alloc (.cells (thc x) 46)).heap[w.heap.size]? = some (.cells (thc x) 46 (0,0))):=⟨(Below.refl _ w).alloc (Nat.le_refl _) _,blk_new _ _⟩;obtain⟨k1,k2,k3,k4,k5,k6⟩:=hxy;have hone2:=hone.2;clear hV hN hkeys hat h1 h2 hc hn hd hds hvl hform hrefs hall hrl hA7 hi0 hn' hone hgl
 go_enter Tryz.func108,Tryz.ntmps108
 go_upto_region 1 with fail
 revert H1 HAt;generalize w.alloc _=w1;intro HAt H1
 go_wp2_with fail
 refine Calls.mono HAt.out ?_;rintro e w2 ⟨rfl,hb2⟩;obtain⟨w3,hst,hb3,hg3,-⟩:=boxed_what' w2 (thc y) rfl hone2;obtain⟨B7,hB7⟩:∃ B7,B7=w2.heap.size:=⟨_,rfl⟩;rw [<- hB7]at hg3;have H3:Hid (Bl w w3/\w3.heap[w.heap.size]? = some (.cells (thc x) 46 (0,0))/\w3.heap[B7]? = some (.cells (thc y) 46 (0,0))):=⟨H1.out.1.trans ((hb2.trans (hb3.mono hb2.size)).mono H1.out.1.size),below_blk hb3 (below_blk hb2 H1.out.2),hg3⟩;clear hb2 hb3 hg3 H1 HAt hone2
 go_upto_region 4 with fail
 clear hst;rw [<- hB7];clear hB7;have HB3:=(show Hid (∀ w',Bl w3 w'->Bl w w')from fun w' hb=>H3.out.1.trans (hb.mono H3.out.1.size))
 have DS:Hid (∀ w',Bl w3 w'->w'.cell? ⟨q,4,none⟩=some (.slice pM N.made.length cM)/\(ldW (.pointer (some ⟨w.heap.size,0,none⟩))).run Tryz.prog w'=.ok (.value (.agg (thc x))) w' /\
  (w'.cell? ⟨w.heap.size,0,none⟩=some (.int .u8 x.kind)/\w'.cell? ⟨w.heap.size,1,none⟩=some (.int .i64 x.home)/\w'.cell? ⟨w.heap.size,10,none⟩=some (.int .i64 x.tgt)/\w'.cell? ⟨w.heap.size,11,none⟩=some (.int .i64 x.bi)/\w'.cell? ⟨w.heap.size,12,none⟩=some (.int .u8 x.set)/\w'.cell? ⟨w.heap.size,13,none⟩=some (.bool x.full)) /\
  (w'.cell? ⟨B7,0,none⟩=some (.int .u8 x.kind)/\w'.cell? ⟨B7,1,none⟩=some (.int .i64 x.home)/\w'.cell? ⟨B7,10,none⟩=some (.int .i64 x.tgt)/\w'.cell? ⟨B7,11,none⟩=some (.int .i64 x.bi)/\w'.cell? ⟨B7,12,none⟩=some (.int .u8 x.set)/\w'.cell? ⟨B7,13,none⟩=some (.bool y.full))):=fun w' hb=>by
  have b0:=below_blk hb H3.out.2.1;have b7:=below_blk hb H3.out.2.2;rw [<- k1,← k2,← k3,← k4,← k5]
  refine⟨by rw [cell_blk (below_blk (HB3.out w' hb) HV.out.blk)];rfl,loadWhat_blk b0 rfl,⟨by rw [cell_blk b0,k1];rfl,by rw [cell_blk b0,k2];rfl,by rw [cell_blk b0,k3];rfl,by rw [cell_blk b0,k4];rfl,by rw [cell_blk b0,k5];rfl,by rw [cell_blk b0];rfl⟩,
   by rw [cell_blk b7];rfl,by rw [cell_blk b7];rfl,by rw [cell_blk b7];rfl,by rw [cell_blk b7];rfl,by rw [cell_blk b7];rfl,by rw [cell_blk b7];rfl⟩
 have Hf:Hid (∀ w',Bl w3 w'->Calls Tryz.prog 81 #[.agg (thc x),.int .i64 N.made.length] w' fun e w''=>e=.returned (.bool true)/\Bl w3 w''):=fun w' hC=>(HFm.out w' (HB3.out w' hC)).mono fun e w'' ⟨he,hb⟩=>⟨he,hC.trans (hb.mono hC.size)⟩;clear k1 k2 k3 k4 k5
 go_cut [71] (fun v71 wx=>v71=.bool false/\Hid (Bl w3 wx))
 case first =>
  generalize hfy:y.full=fy at DS k6;generalize hfx:x.full=fx at DS k6
  have hfc:fy=false\/(fy=true/\fx=true):=by
   cases fy with
   | false=>exact .inl rfl
   | true=>exact .inr ⟨rfl,k6 rfl⟩
  clear k6;refine region_class (C:=fun w'=>Bl w3 w') (by kernel_rfl) (by kernel_rfl) below_drew ?_
  rcases hfc with rfl | ⟨rfl,rfl⟩
  all_goals
   repeat (first
    | go_big_quiet_step (fail)
    | quiet_step (fail)
    | (refine wpQuiet_step (fun K hK=>?_);go_simp;first
     | (refine hK _ ?_;clear hK K)
     | (apply Exists.intro
        refine⟨fun w' hC=>?_,hK _ ?_⟩
        ·obtain⟨q4,ql,⟨a0,a1,a2,a3,a4,a5⟩,b0,b1,b2,b3,b4,b5⟩:=DS.out w' hC
         first
          | exact rfl
          | (go_simp;exact rfl)
          | (go_simp;exact⟨rfl,rfl⟩)
          | exact Hf.out w' hC
        clear hK K)))
   refine wpQuiet_nil ?_;intro w5 hC5
   go_wp2_with fail
   go_meet
   case rel=>exact⟨rfl,hC5⟩
 obtain⟨rfl,HC5⟩:=hcut;generalize wc=w5 at *;have H5:Hid (Bl w w5/\w5.heap[w.heap.size]? = some (.cells (thc x) 46 (0,0))):=⟨HB3.out w5 HC5.out,below_blk HC5.out H3.out.2.1⟩;have l5:=(DS.out w5 HC5.out).2.1;clear DS Hf HFm HC5 HB3 H3 k6;refine ‹∀ (a:Act) (w:World),Code.wp Tryz.prog _ _ a w->_› _ _ ?_
 go_wp2_with fail
 refine Calls.mono (HRf.out w5 H5.out.1) ?_;rintro e w6 ⟨u,rfl,hr6,hb6⟩;have H6:Hid (Bl w w6/\w6.heap[w.heap.size]? = some (.cells (thc x) 46 (0,0))):=⟨H5.out.1.trans (hb6.mono H5.out.1.size),below_blk hb6 H5.out.2⟩
 obtain⟨qa,c',hu,hcell⟩:∃ q c',u=.slice q rs.length c'/\∀ w2,Bl w6 w2->∀ (j:Nat) (z:Int),rs[j]? = some z->∃ g,q=some ⟨g,0,none⟩/\w2.cell? ⟨g,j,none⟩=some (.int .i64 z):=by
  obtain⟨h1,⟨rfl,h0⟩ | ⟨g,cap,cur,rfl,-,hb,hc,hm,hcs,ht⟩⟩:=hr6
  ·exact⟨none,0,by rw [h0],fun w2 _ j z hj=>by have:=(List.getElem?_eq_some_iff.1 hj).1;omega⟩
  ·refine⟨_,cap,rfl,fun w2 hb2 j z hj=>⟨g,rfl,?_⟩⟩;have hj':=(List.getElem?_eq_some_iff.1 hj).1;have h2:(rs.map (Value.int .i64))[j]? = some (.int .i64 z):=by rw [List.getElem?_map,hj];rfl
   rw [<- ht,List.getElem?_take,if_pos (by omega)]at h2;rw [cell_blk (below_blk hb2 hb),← Array.getElem?_toList];exact h2
 subst hu;have HCl:=(show Hid (∀ w2,Bl w6 w2->∀ (j:Nat) (z:Int),rs[j]? = some z->∃ g,qa=some ⟨g,0,none⟩/\w2.cell? ⟨g,j,none⟩=some (.int .i64 z))from hcell);clear hr6 hb6 hcell HRf H5 l5
 go_wp2_with fail
 go_loopw [10] (fun vi wr=>∃ k:Nat,vi=.int .i64 k/\k≤rs.length/\Hid (Bl w6 wr)) (fun vi _=>rs.length - (intOf vi).toNat)
 case atStart=>exact⟨0,rfl,Nat.zero_le _,Below.refl _ _⟩
 case round =>
  obtain⟨k,rfl,hk,HB⟩:=hrel
  by_cases hkl:k<rs.length
  ·have hkz:(k:Int)<(rs.length:Int):=by omega
   have hk0:(0:Int)≤(k:Int):=by omega
   obtain⟨z,hz⟩:∃ z,rs[k]? = some z:=⟨_,List.getElem?_eq_getElem hkl⟩;obtain⟨gz,rfl,hcz⟩:=HCl.out wr HB.out k z hz;have hwk:wrap64 ((k:Int)+1)=(k:Int)+1:=by have:=HRl.out;unfold wrap64;omega
   have HKx:=(show Hid _ from HKd.out wr (H6.out.1.trans (HB.out.mono H6.out.1.size)) z (List.mem_of_getElem? hz));clear hz
   go_wp2_with fail
   refine Calls.mono HKx.out ?_;rintro e w7 ⟨kk,rfl,hkk,hb7⟩;have HB7:Hid (Bl w6 w7):=HB.out.trans (hb7.mono HB.out.size);clear hb7 HB HKx hcz
   go_wp2_with fail
   go_roundw
   case rel=>exact⟨k+1,by go_num,by omega,HB7.out⟩
   case measure=>(rw [hwk];clear hwk;simp [intOf];omega)
  ·have hkz:¬ (k:Int)<(rs.length:Int):=by omega
   obtain rfl:k=rs.length:=by omega
   have hkk:¬ (rs.length:Int)<(rs.length:Int):=by omega
   have HI0:Hid (LayI w q N G sP sC (.slice (some ⟨g,0,none⟩) n c0) (.slice pM N.made.length cM) r x i0 0 wr):=⟨below_blk HB.out H6.out.2,.inl ⟨Nat.zero_le _,H6.out.1.trans (HB.out.mono H6.out.1.size)⟩⟩;clear HB H6 HCl HKd
   go_wp2_with fail
   go_loopw [11] (fun vi wr=>∃ i:Nat,vi=.int .i64 i/\i≤n/\Hid (LayI w q N G sP sC (.slice (some ⟨g,0,none⟩) n c0) (.slice pM N.made.length cM) r x i0 i wr)) (fun vi _=>n - (intOf vi).toNat)
   case atStart=>exact⟨0,rfl,Nat.zero_le _,HI0.out⟩
   case round =>
    clear HI0;obtain⟨i,rfl,hi,HI⟩:=hrel
    have HBq:Hid (∃ M' G',RVw wr q M' G' sP sC (.slice (some ⟨g,0,none⟩) n c0) (.slice pM N.made.length cM)/\∀ z,N.things[i]? = some z->∃ t',M'.things[i]? = some (z.1,t')):=by
     rcases HI.out.2 with ⟨-,hb⟩ | ⟨-,vl',vals',G',hv,-⟩
     ·exact⟨N,G,HV.out.below hb,fun z hz=>⟨z.2,hz⟩⟩
     ·refine⟨_,G',hv,fun z hz=>?_⟩;rw [set_at hz]
      by_cases e:z.1=r
      ·rw [if_pos e];exact⟨_,rfl⟩
      ·rw [if_neg e];exact⟨z.2,rfl⟩
    obtain⟨M',G',hv',hent'⟩:=HBq.out;have d2:wr.cell? ⟨q,2,none⟩=some (.slice (some ⟨g,0,none⟩) n c0):=by rw [cell_blk hv'.blk];rfl
    by_cases hin:i<n
    ·have hiz:(i:Int)<(n:Int):=by omega
     have hi00:(0:Int)≤(i:Int):=by omega
     obtain⟨z,hz⟩:∃ z,N.things[i]? = some z:=⟨_,List.getElem?_eq_getElem (by have:=HC.out.1;omega)⟩;obtain⟨t',ht'⟩:=hent' z hz;obtain⟨g',c',e',hg',hcc⟩:=hv'.ent ht';have hgg:g'=g:=by injection e' with e';injection e' with e';injection e' with e';exact e'.symm
     have kz:wr.cell? ⟨g,i * 17,none⟩=some (.int .i64 z.1):=by rw [<- hgg];exact hcc 0 _ rfl
     have hwi:wrap64 ((i:Int)+1)=(i:Int)+1:=by have:=HC.out.2.1;unfold wrap64;omega
     clear hcc hv' ht' e' hg' hgg hent'
     by_cases hii:i=i0
     ·subst hii;obtain rfl:z=(r,y):=by have:=HC.out.2.2.1;rw [hz]at this;exact Option.some.inj this
      have HBl:Hid (Bl w wr):=by
       rcases HI.out.2 with ⟨-,h⟩ | ⟨h,-⟩
       ·exact h
       ·omega
      have HBx:=(show Hid (wr.heap[w.heap.size]? = some (.cells (thc x) 46 (0,0)))from HI.out.1);have HQx:Hid (wr.heap[q]? = some (.cells #[sP,sC,.slice (some ⟨g,0,none⟩) n c0,.int .i64 N.last,.slice pM N.made.length cM] 94 (0,0))):=(HV.out.below HBl.out).blk;clear hz HI HBq
      go_upto_region 16 with fail
      clear d2 kz;obtain⟨B0,hB0⟩:∃ B0,B0=w.heap.size:=⟨_,rfl⟩;rw [<- hB0]at HBx ⊢;refine wp_region_growK 9 (by kernel_rfl) rfl (by kernel_rfl) (by kernel_rfl) (fun a b=>Bl a b) (LyP q g n c0 i wr.heap.size x) (fun w'=>Bl wr w') (fun j v w w'=>LyP.stab j v w w') below_drew (fun a b h hR=>h.trans (hR.mono h.size)) ?_ ?_ ?_
      ·exact fun _ _ _ _ h1 h2=>noGuard (by kernel_rfl) h1 h2
      ·intro j q a w7 hq hC hG;have hj:j<9:=(List.getElem?_eq_some_iff.1 hq).1
       match j,hj with
       | 0,_=>cases hq;have h0':a.tmps[0]?.getD undef=.pointer (some ⟨q,0,none⟩):=gq (hG.fr 0 (by simp));unfold Oper.wp;simp [go_sem,Act.eval,h0'];exact⟨_,rfl,Below.refl _ _,rfl⟩
       | 1,_=>cases hq;have h106':a.tmps[106]?.getD undef=_:=gq (hG.dep ⟨0,.data⟩ (by simp) rfl _ rfl);unfold Oper.wp;simp [go_sem,Act.eval,h106'];exact⟨_,rfl,Below.refl _ _,rfl⟩
       | 2,_=>cases hq;have h107':a.tmps[107]?.getD undef=_:=gq (hG.dep ⟨1,.data⟩ (by simp) rfl _ rfl);unfold Oper.wp;simp [go_sem,Act.eval,h107'];exact⟨_,rfl,Below.refl _ _,rfl⟩
       | 3,_ =>
         cases hq;have h108':a.tmps[108]?.getD undef=_:=gq (hG.dep ⟨2,.data⟩ (by simp) rfl _ rfl);have c3:w7.cell? ⟨q,2,none⟩=some (.slice (some ⟨g,0,none⟩) n c0):=by rw [cell_blk (below_blk hC HQx.out)];rfl
         unfold Oper.wp;simp [go_sem,Act.eval,h108',c3];exact⟨_,rfl,Below.refl _ _,rfl⟩
       | 4,_=>cases hq;have h11':a.tmps[11]?.getD undef=.int .i64 i:=gq (hG.fr 11 (by simp));unfold Oper.wp;simp [go_sem,Act.eval,h11'];exact⟨_,rfl,Below.refl _ _,rfl⟩
       | 5,_ =>
         cases hq;have h5:a.tmps.getD 5 undef=.pointer (some ⟨B0,0,none⟩):=hG.fr 5 (by simp);refine step_g (.agg (thc x)) ?_ (Below.refl _ _) rfl;rw [execOp_ldLyP111];show (ldW (a.tmps.getD 5 undef)).run _ _=_;rw [h5];exact loadWhat_blk (below_blk hC HBx.out) rfl
       | 6,_ =>
         cases hq;have h111':a.tmps[111]?.getD undef=_:=gq (hG.dep ⟨5,.data⟩ (by simp) rfl _ rfl);unfold Oper.wp;simp [go_sem,callFunc,Act.eval,Tryz.func113,h111'];refine Calls.mono (HO.out _ (HBl.out.trans (hC.mono HBl.out.size))) ?_;rintro e w8 ⟨vl',vals',rfl,hb8,o1,o2,o3,o4⟩;exact⟨_,rfl,hb8,vl',vals',rfl,o1.mono fun b hb=>Nat.le_trans hC.size hb,o2.mono fun b hb=>Nat.le_trans hC.size hb,o3,o4⟩
       | 7,_=>cases hq;have h109':a.tmps[109]?.getD undef=_:=gq (hG.dep ⟨3,.data⟩ (by simp) rfl _ rfl);have h110':a.tmps[110]?.getD undef=_:=gq (hG.dep ⟨4,.data⟩ (by simp) rfl _ rfl);unfold Oper.wp;simp [go_sem,Act.eval,h109',h110',hiz,hi00];exact⟨_,rfl,Below.refl _ _,rfl⟩
       | 8,_=>cases hq;have h113':a.tmps[113]?.getD undef=_:=gq (hG.dep ⟨7,.data⟩ (by simp) rfl _ rfl);unfold Oper.wp;simp [go_sem,Act.eval,h113'];exact⟨_,rfl,Below.refl _ _,rfl⟩
      ·intro a w7 hC hdf hsz hfr hphi;have e0:a.tmps.getD 106 undef=.pointer (some ⟨q,0,none⟩):=hphi 0 _ rfl;have e1:a.tmps.getD 107 undef=.pointer (some ⟨q,0,none⟩):=hphi 1 _ rfl;have e2:a.tmps.getD 108 undef=.pointer (some ⟨q,2,none⟩):=hphi 2 _ rfl;have e3:a.tmps.getD 109 undef=.slice (some ⟨g,0,none⟩) n c0:=hphi 3 _ rfl;have e4:a.tmps.getD 110 undef=.int .i64 i:=hphi 4 _ rfl;have e5:a.tmps.getD 111 undef=.agg (thc x):=hphi 5 _ rfl;have p6:(∃ vl' vals',(a.tmps.getD 112 undef)=.agg (thc { x with vl:=vl',vals:=vals' })/\Own7Q x wr.heap.size vl' vals' w7):=hphi 6 _ rfl
       obtain⟨u6,e6⟩:∃ u,a.tmps.getD 112 undef=u:=⟨_,rfl⟩;rw [e6]at p6;have e7:a.tmps.getD 113 undef=.pointer (some ⟨g,i * 17,none⟩):=hphi 7 _ rfl;have e8:a.tmps.getD 114 undef=.pointer (some ⟨g,i * 17+1,none⟩):=hphi 8 _ rfl;have ha:=act_of hdf hsz hfr;simp only [List.take_succ_cons,List.take_zero,List.filterMap_cons,List.filterMap_nil,List.foldl_cons,List.foldl_nil,List.setIfInBounds_toArray,List.set_cons_zero,List.set_cons_succ,e0,e1,e2,e3,e4,e5,e6,e7,e8]at ha;clear hdf hsz hfr hphi e0 e1 e2 e3 e4 e5 e6 e7 e8;subst ha;obtain⟨vl',vals',rfl,ho1,ho2,ho3,ho4⟩:=p6;have hD:DeepR w7 (fun b=>wr.heap.size≤b) { x with vl:=vl',vals:=vals' }:=⟨ho1,ho2,HC.out.2.2.2.2.2.1,HC.out.2.2.2.2.2.2.1⟩
       have hone':(thc { x with vl:=vl',vals:=vals' }).all (·.oneCell')=true:=by
        obtain⟨a,b,e⟩:=ho1.form;obtain⟨a',b',e'⟩:=ho2.form;simp only [thc,HC.out.2.2.2.2.2.1,HC.out.2.2.2.2.2.2.1,e,e'];simp [go_sem]
       have hv7:=HV.out.below (HBl.out.trans (hC.mono HBl.out.size));have hst:=storeWhat_mid (hv7.thereW rfl (by have:=HC.out.1;omega) (i:=i)) hone';obtain⟨hv8,hk8⟩:=hv7.lay rfl HC.out.2.2.1 HC.out.2.2.2.1 hD (fun b hb=>Nat.lt_of_lt_of_le (HV.out.lt b hb) HBl.out.size) rfl
       have HI2:Hid (LayI w q N G sP sC (.slice (some ⟨g,0,none⟩) n c0) (.slice pM N.made.length cM) r x i (i+1) (w7.setCells g (i * 17+1) (thc { x with vl:=vl',vals:=vals' }).toList)):=by
        refine⟨hk8.none (by have:=below_blk hC HBx.out;rw [hB0]at this;exact this) (fun e=>by have:=HC.out.2.2.2.2.2.2.2;have e':w.heap.size=g:=e;omega),.inr ⟨Nat.lt_succ_self _,vl',vals',_,hv8,?_,fun b hb=>hb.imp id fun h=>Nat.le_trans HBl.out.size h.1,ho3,ho4⟩⟩;exact(Keeps.of_below (S:=G) (HBl.out.trans (hC.mono HBl.out.size))).trans hk8 (fun _ _ h=>h) (fun b _ e=>by have e':b=g:=e;rw [e'];exact HV.out.own g (.inr (.inr (.inr (.inl rfl)))))
       clear hD hone' hv7 hv8 hk8 ho1 ho2 ho3 ho4 hC HQx HBx HBl;subst hB0;refine⟨rfl,?_⟩;unfold Oper.wp;rw [execOp_stW];simp [Act.eval,go_sem,hst,wpTailG];refine ‹∀ (a:Act) (w:World),Code.wp Tryz.prog _ _ a w->_› _ _ ?_;clear hst;revert HI2;generalize World.setCells _ _ _ _=w8;intro HI2
       go_wp2_with fail
       go_roundw
       case rel=>exact⟨i+1,by go_num,by omega,HI2.out⟩
       case measure=>(rw [hwi];clear hwi;simp [intOf];omega)
     ·have hne:z.1≠r:=by
       have hp:=HC.out.2.2.2.1;have h0:=HC.out.2.2.1;obtain⟨a1,a2⟩:=List.getElem?_eq_some_iff.1 hz;obtain⟨b1,b2⟩:=List.getElem?_eq_some_iff.1 h0
       rcases Nat.lt_or_gt_of_ne hii with h | h
       ·have:=List.pairwise_iff_getElem.1 hp i i0 a1 b1 h;rw [a2,b2]at this;simp only at this;omega
       ·have:=List.pairwise_iff_getElem.1 hp i0 i b1 a1 h;rw [a2,b2]at this;simp only at this;omega
      have hnb:(z.1==r)=false:=by simpa using hne
      have HI2:Hid (LayI w q N G sP sC (.slice (some ⟨g,0,none⟩) n c0) (.slice pM N.made.length cM) r x i0 (i+1) wr):=by
       refine⟨HI.out.1,HI.out.2.imp (fun h=>⟨by omega,h.2⟩) (fun h=>⟨by omega,h.2⟩)⟩
      clear hz HI HBq
      go_wp2_with fail
      go_roundw
      case rel=>exact⟨i+1,by go_num,by omega,HI2.out⟩
      case measure=>(rw [hwi];clear hwi;simp [intOf];omega)
    ·have hiz:¬ (i:Int)<(n:Int):=by omega
     obtain rfl:i=n:=by omega
     have hkk2:¬ (i:Int)<(i:Int):=by omega
     have HF:Hid (LayR w q N G r x (.returned (.int .i64 0)) wr):=by
      rcases HI.out.2 with ⟨h0,-⟩ | ⟨-,vl',vals',G',h1,h2,h3,h4,h5⟩
      ·have:=(List.getElem?_eq_some_iff.1 HC.out.2.2.1).1;have:=HC.out.1;omega
      ·exact⟨rfl,vl',vals',G',⟨_,_,_,_,h1⟩,h2,h3,h4,h5⟩
     clear HI HBq hv' hent'
     go_wp2_with fail
     go_ret
     exact HF.out
end
section
theorem lay7_no {w:World} {q:Nat} {N:WM} {G:Nat->Prop} (hR:IsR w q N G) (hN:ROk N) {r:Int} {y x:Th} (hat:N.at r=some y)
 (hform:∀ w',Bl w w'->Calls Tryz.prog 81 #[.agg (thc x),.int .i64 N.made.length] w' fun e w''=>e=.returned (.bool false)/\Bl w' w'') :
 Calls Tryz.prog 108 #[.pointer (some ⟨q,0,none⟩),.int .i64 r,.agg (thc x)] w fun e w'=>e=.returned (.int .i64 70)/\Bl w w':=by
 have hA7:at7 N r=y:=by unfold at7;rw [hat];rfl
 have hone2:(thc y).all (·.oneCell')=true:=(hN.cell _ (at_mem hat)).1;have HAt:=(show Hid _ from at7_W (hR.below ((Below.refl _ w).alloc (Nat.le_refl _) (.cells (thc x) 46))) hN.len r fun z hz=>(hN.cell z hz).1);rw [hA7,hat]at HAt;obtain⟨sP,sC,sT,sM,hV⟩:=hR;have HV:=(show Hid (RVw w q N G sP sC sT sM)from hV)
 obtain⟨pM,cM,hsM⟩:∃ p c,sM=.slice p N.made.length c:=by
  obtain⟨h1,⟨h2,h0⟩ | ⟨g',cap,cur,h2,-⟩⟩:=hV.rm
  ·exact⟨none,0,by rw [h2,h0]⟩
  ·exact⟨_,_,h2⟩
 subst hsM;have HFm:=(show Hid _ from hform);have H1:Hid (Bl w (w.alloc (.cells (thc x) 46))/\(w.alloc (.cells (thc x) 46)).heap[w.heap.size]? = some (.cells (thc x) 46 (0,0))):=⟨(Below.refl _ w).alloc (Nat.le_refl _) _,blk_new _ _⟩;clear hV hN hat hform hA7
 go_enter Tryz.func108,Tryz.ntmps108
 go_upto_region 1 with fail
 revert H1 HAt;generalize w.alloc _=w1;intro HAt H1
 go_wp2_with fail
 refine Calls.mono HAt.out ?_;rintro e w2 ⟨rfl,hb2⟩;obtain⟨w3,hst,hb3,-,-⟩:=boxed_what' w2 (thc y) rfl hone2;have H3:Hid (Bl w w3/\w3.heap[w.heap.size]? = some (.cells (thc x) 46 (0,0))):=⟨H1.out.1.trans ((hb2.trans (hb3.mono hb2.size)).mono H1.out.1.size),below_blk hb3 (below_blk hb2 H1.out.2)⟩;clear hb2 hb3 H1 HAt hone2
 go_upto_region 4 with fail
 clear hst;have HB3:=(show Hid (∀ w',Bl w3 w'->Bl w w')from fun w' hb=>H3.out.1.trans (hb.mono H3.out.1.size))
 have DS:Hid (∀ w',Bl w3 w'->w'.cell? ⟨q,4,none⟩=some (.slice pM N.made.length cM)/\(ldW (.pointer (some ⟨w.heap.size,0,none⟩))).run Tryz.prog w'=.ok (.value (.agg (thc x))) w'):=fun w' hb=>by
  have b0:=below_blk hb H3.out.2;exact⟨by rw [cell_blk (below_blk (HB3.out w' hb) HV.out.blk)];rfl,loadWhat_blk b0 rfl⟩
 have Hf:Hid (∀ w',Bl w3 w'->Calls Tryz.prog 81 #[.agg (thc x),.int .i64 N.made.length] w' fun e w''=>e=.returned (.bool false)/\Bl w3 w''):=fun w' hC=>(HFm.out w' (HB3.out w' hC)).mono fun e w'' ⟨he,hb⟩=>⟨he,hC.trans (hb.mono hC.size)⟩;refine region_class (C:=fun w'=>Bl w3 w') (by kernel_rfl) (by kernel_rfl) below_drew ?_
 repeat (first
  | go_big_quiet_step (fail)
  | quiet_step (fail)
  | (refine wpQuiet_step (fun K hK=>?_);go_simp;first
   | (refine hK _ ?_;clear hK K)
   | (apply Exists.intro
      refine⟨fun w' hC=>?_,hK _ ?_⟩
      ·obtain⟨q4,ql⟩:=DS.out w' hC
       first
        | exact rfl
        | (go_simp;exact rfl)
        | (go_simp;exact⟨rfl,rfl⟩)
        | exact Hf.out w' hC
      clear hK K)))
 refine wpQuiet_nil ?_;intro w5 hC5;have H5:Hid (Bl w w5):=HB3.out w5 hC5;clear hC5 DS Hf HFm HB3 H3
 go_wp2_with fail
 go_ret
 exact⟨rfl,H5.out⟩
theorem refs7_lt (w:World) (k h n l tg bi s:Int) (fu:Bool):Calls Tryz.prog 179 #[.agg (thc (lt k h 0 0 n l tg bi s fu))] w fun e w'=>∃ u,e=.returned u/\RefRow w' w.heap.size u []/\Bl w w':=by
 obtain⟨q0,hq0⟩:=Option.isSome_iff_exists.1 (show mayV ⟨0,0,⟨#[]⟩,[],0⟩=true by rfl)
 exact(refs7_one (F:=fun _=>False) (n:=16) (p:=512) (lt k h 0 0 n l tg bi s fu) (SlAt.nil _ _ _ _) rfl rfl (by decide) hq0).mono fun _ _ ⟨u,h1,h2,h3⟩=>⟨u,h1,by
  have e:refsN 16 (⟨0,0,⟨#[]⟩,[],0⟩:Val) = []:=by simp [refsN]
  rw [show (lt k h 0 0 n l tg bi s fu).v=(⟨0,0,⟨#[]⟩,[],0⟩:Val)from rfl,e]at h2
  exact h2,h3⟩
end
section
theorem form7_kind (w:World) (sides k h:Int) (hk:0≤k/\k≤255) (hb:k<1\/k > 16) :
 Calls Tryz.prog 81 #[.agg (wr k h 0 0 0 0 0 0 0 false),.int .i64 sides] w fun e w'=>e=.returned (.bool false)/\Bl w w':=by
 have hwk:IntKind.i64.wrap k=k:=by simp [IntKind.wrap,IntKind.signed,IntKind.bits];omega
 have H5:=(show Hid _ from two_what w (wr k h 0 0 0 0 0 0 0 false) (wr k 0 0 0 0 0 0 0 0 false));clear hk
 rcases hb with hb | hb
 ·go_enter Tryz.func81,Tryz.ntmps81
  go_wp2_with fail
  go_ret
  exact⟨rfl,(H5.out _ (.inl rfl)).1⟩
 ·have h1:¬ k<1:=by omega
  go_enter Tryz.func81,Tryz.ntmps81
  go_wp2_with fail
  go_ret
  exact⟨rfl,(H5.out _ (.inl rfl)).1⟩
theorem form7_home (w:World) (sides k h:Int) (hk:1≤k/\k≤16) (h14:k≠14) (hb:h<0\/h ≥ sides) :
 Calls Tryz.prog 81 #[.agg (wr k h 0 0 0 0 0 0 0 false),.int .i64 sides] w fun e w'=>e=.returned (.bool false)/\Bl w w':=by
 have hwk:IntKind.i64.wrap k=k:=by simp [IntKind.wrap,IntKind.signed,IntKind.bits];omega
 have h1:¬ k<1:=by omega
 have h2:¬ k > 16:=by omega
 have hb14:(k != 14)=true:=by simpa using h14
 have H5:=(show Hid _ from two_what w (wr k h 0 0 0 0 0 0 0 false) (wr k h 0 0 0 0 0 0 0 false));clear hk h14
 rcases hb with hb | hb
 ·go_enter Tryz.func81,Tryz.ntmps81
  go_wp2_with fail
  go_ret
  exact⟨rfl,(H5.out _ (.inl rfl)).1⟩
 ·by_cases hb0:h<0
  ·go_enter Tryz.func81,Tryz.ntmps81
   go_wp2_with fail
   go_ret
   exact⟨rfl,(H5.out _ (.inl rfl)).1⟩
  ·go_enter Tryz.func81,Tryz.ntmps81
   go_wp2_with fail
   go_ret
   exact⟨rfl,(H5.out _ (.inl rfl)).1⟩
end
section
theorem form7_8 (w:World) (sides:Int) (h:Int) (hh:0≤h/\h<sides) (n:Int) (hn:0≤n/\n≤9007199254740992) (lo:Int) (hlo:0≤lo/\lo≤n) :
 Calls Tryz.prog 81 #[.agg (wr 8 h 0 0 n lo 0 0 0 false),.int .i64 sides] w fun e w'=>e=.returned (.bool true)/\Bl w w':=by
 have hh1:¬ h<0:=by omega
 have hh2:¬ h ≥ sides:=by omega
 clear hh;have hn1:¬ n<0:=by omega
 have hn2:¬ n > 9007199254740992:=by omega
 have hl1:¬ lo<0:=by omega
 have hl2:¬ lo > n:=by omega
 clear hlo;clear hn;have H5:=(show Hid _ from two_what w (wr 8 h 0 0 n lo 0 0 0 false) (wr 8 h 0 0 n lo 0 0 0 false))
 go_enter Tryz.func81,Tryz.ntmps81
 go_upto_region 26 with fail
 go_cut [] (fun wx=>Hid (Bl w wx/\wx.heap[w.heap.size]? = some (.cells (wr 8 h 0 0 n lo 0 0 0 false) 46 (0,0))/\wx.heap[w.heap.size+1]? = some (.cells (wr 8 h 0 0 n lo 0 0 0 false) 46 (0,0))))
 case first =>
  go_region
  all_goals
   go_wp2_with fail
   go_meet
   case rel=>first | exact H5.out _ (.inr rfl) | exact H5.out _ (.inl rfl)
 have H5:=hcut;clear hcut;generalize wc=w5 at *;have aa:=cells16 H5.out.2.1;have bb:=cells16 H5.out.2.2
 go_upto_region 51 with fail
 clear aa bb;have aa:=cells16 H5.out.2.1;have bb:=cells16 H5.out.2.2
 go_wp2_with fail
 refine(may4_nil w5).mono ?_;rintro e w6 ⟨rfl,hb6⟩;have H6:=(show Hid (Bl w w6/\_/\_)from⟨H5.out.1.trans (hb6.mono H5.out.1.size),below_blk hb6 H5.out.2.1,below_blk hb6 H5.out.2.2⟩);clear hb6 H5;clear aa bb;have aa:=cells16 H6.out.2.1;have bb:=cells16 H6.out.2.2
 go_wp2_with fail
 refine(same4_nil w6).mono ?_;rintro e w7 ⟨rfl,hb7⟩;have H7:=(show Hid (Bl w w7/\_/\_)from⟨H6.out.1.trans (hb7.mono H6.out.1.size),below_blk hb7 H6.out.2.1,below_blk hb7 H6.out.2.2⟩);clear hb7 H6;clear aa bb;have aa:=cells16 H7.out.2.1;have bb:=cells16 H7.out.2.2
 go_wp2_with fail
 go_ret
 exact⟨rfl,H7.out.1⟩
end
section
theorem form7_9 (w:World) (sides:Int) (h:Int) (hh:0≤h/\h<sides) (n:Int) (hn:0≤n/\n≤9007199254740992) (tg:Int) :
 Calls Tryz.prog 81 #[.agg (wr 9 h 0 0 n 0 tg 0 0 false),.int .i64 sides] w fun e w'=>e=.returned (.bool true)/\Bl w w':=by
 have hh1:¬ h<0:=by omega
 have hh2:¬ h ≥ sides:=by omega
 clear hh;have hn1:¬ n<0:=by omega
 have hn2:¬ n > 9007199254740992:=by omega
 clear hn;have H5:=(show Hid _ from two_what w (wr 9 h 0 0 n 0 tg 0 0 false) (wr 9 h 0 0 n 0 tg 0 0 false))
 go_enter Tryz.func81,Tryz.ntmps81
 go_upto_block 0 with fail
 go_cut [7,8,9] (fun a7 a8 a9 wx=>a7=.bool false/\a8=.bool false/\a9=.bool false/\Hid (Bl w wx/\wx.heap[w.heap.size]? = some (.cells (wr 9 h 0 0 n 0 tg 0 0 false) 46 (0,0))/\wx.heap[w.heap.size+1]? = some (.cells (wr 9 h 0 0 n 0 tg 0 0 false) 46 (0,0))))
 case first =>
  go_upto_region 30 with fail
  go_region
  all_goals
   go_wp2_with fail
   go_meet
   case rel=>first | exact⟨rfl,rfl,rfl,H5.out _ (.inr rfl)⟩ | exact⟨rfl,rfl,rfl,H5.out _ (.inl rfl)⟩
 clear H5;obtain⟨rfl,rfl,rfl,H5⟩:=hcut;generalize wc=w5 at *;have aa:=cells16 H5.out.2.1;have bb:=cells16 H5.out.2.2
 go_wp2_with fail
 refine(may4_nil w5).mono ?_;rintro e w6 ⟨rfl,hb6⟩;have H6:=(show Hid (Bl w w6/\_/\_)from⟨H5.out.1.trans (hb6.mono H5.out.1.size),below_blk hb6 H5.out.2.1,below_blk hb6 H5.out.2.2⟩);clear hb6 H5;clear aa bb;have aa:=cells16 H6.out.2.1;have bb:=cells16 H6.out.2.2
 go_wp2_with fail
 refine(same4_nil w6).mono ?_;rintro e w7 ⟨rfl,hb7⟩;have H7:=(show Hid (Bl w w7/\_/\_)from⟨H6.out.1.trans (hb7.mono H6.out.1.size),below_blk hb7 H6.out.2.1,below_blk hb7 H6.out.2.2⟩);clear hb7 H6;clear aa bb;have aa:=cells16 H7.out.2.1;have bb:=cells16 H7.out.2.2
 go_wp2_with fail
 go_ret
 exact⟨rfl,H7.out.1⟩
end
section
structure RGood (N:WM):Prop where
 ok:ROk N
 last:0≤N.last/\N.last≤1099511627776
 mades:∀ (i:Nat) (x:Int),N.made[i]? = some x->0≤x/\x≤512
end
end Go.Proofs.YthaliljaglldjaaGreat
namespace Go.Proofs.YthaliljaglldjaaGreat
set_option maxHeartbeats 16000000
set_option maxRecDepth 20000
open Go.RowKit Go.ChangeMaps Go.MapKept
open Go.Maps (Keyed)
section
variable {w:World} {p:Nat} {M:WM} {F:Nat->Prop}
end
end Go.Proofs.YthaliljaglldjaaGreat
