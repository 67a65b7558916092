/- Part of the proof. -/
import Derived.Test.YthaliljaglldjaaGreatmAR
namespace Go.Proofs.YthaliljaglldjaaGreat
set_option maxHeartbeats 16000000
set_option maxRecDepth 20000
open Go.RowKit
section
def nO (l:List Oper) (z:Oper) (d n:Nat) (fr:List Nat):Bool :=
 z.guard.isNone && (z.after.all fun e=>decide (e.on<l.length)) && decide (d<n) && (l.all fun o=>o.dst.isSome && decide (o.dst≠some d)) &&
 (List.range l.length).all fun i=>fr.contains i || (z.after.any fun e=>e.on==i && Region.binds .any e) || l.zipIdx.any fun x=>decide (i<x.2) && !fr.contains x.2 && x.1.after.any fun e=>e.on==i && Region.binds .any e
theorem sZ {l:List Oper} {z:Oper} {d n:Nat} {fr:List Nat} (h:nO l z d n fr=true) {A:Array Bool} (hz:∀ e ∈ z.after,Region.binds .any e=true->A.getD e.on false=true)
 (hc:∀ (i:Nat) (o:Oper),l[i]? = some o->A.getD i false=true->∀ e ∈ o.after,Region.binds .any e=true->A.getD e.on false=true):∀ (k i:Nat),l.length - i≤k->i<l.length->fr.contains i=false->A.getD i false=true:=by
 simp only [nO,Bool.and_eq_true]at h;have h5:=List.all_eq_true.1 h.2;intro k
 induction k with
 | zero=>intro i h1 h2;omega
 | succ k ih =>
   intro i h1 h2 h3;have:=h5 i (List.mem_range.2 h2);rw [h3]at this;simp only [Bool.false_or,Bool.or_eq_true]at this
   rcases this with h4 | h4
   ·obtain⟨j,hj,h6⟩:=Array.any_eq_true.1 h4;simp only [Bool.and_eq_true,beq_iff_eq]at h6;have:=hz _ (Array.getElem_mem hj) h6.2
    rwa [h6.1]at this
   ·obtain⟨⟨o,j⟩,hj,h6⟩:=List.any_eq_true.1 h4;simp only [Bool.and_eq_true,decide_eq_true_eq,Bool.not_eq_true']at h6;obtain⟨⟨h7,h8⟩,h9⟩:=h6;have hj':=List.mem_zipIdx_iff_getElem?.1 hj;simp only at hj' h7 h8 h9;have hjl:=(List.getElem?_eq_some_iff.1 hj').1;have hl:=ih j (by omega) hjl h8;obtain⟨q,hq,h6⟩:=Array.any_eq_true.1 h9;simp only [Bool.and_eq_true,beq_iff_eq]at h6;have:=hc j o hj' hl _ (Array.getElem_mem hq) h6.2
    rwa [h6.1]at this
theorem jS {P:Program} {Q:Exit->Act->World->Prop} {id:Nat} {l:List Oper} {z t0:Oper} {t:List Oper} {a0:Act} {w0:World} {d:Nat} (fr:List Nat) (Val:Nat->Value) (Post:Value->World->Prop) (hm:P.follows .mixedOrders=true)
 (hB:kR l a0.tmps.size=true) (hzd:z.dst=some d) (hT:nO l z d a0.tmps.size fr=true) (ht:(chainB (l.length+1) 0 (t0 :: t) && jM (l ++ [z]) t0 && (t0 :: t).all fun o=>o.guard.isNone)=true)
 (read:∀ (i:Nat) (o:Oper) (a:Act) (w:World),l[i]? = some o->(w=w0.drew\/fr.contains i=true)->(∀ e ∈ o.after,Region.binds .any e=true->∀ oj,l[e.on]? = some oj->ba oj a=Val e.on) ->
  (∀ s,(∀ oj ∈ l ++ [z],oj.dst≠some s)->a.tmps.getD s undef=a0.tmps.getD s undef)->(execOp a.eval o).run P w=.ok (.value (Val i)) w)
 (call:∀ (a:Act),(∀ e ∈ z.after,Region.binds .any e=true->∀ oj,l[e.on]? = some oj->ba oj a=Val e.on) ->
  (∀ s,(∀ oj ∈ l ++ [z],oj.dst≠some s)->a.tmps.getD s undef=a0.tmps.getD s undef)->z.wp P a w0.drew (fun a' w'=>∃ v,a'=a.put z.dst v/\Post v w') Q)
 (done:∀ (a:Act) (w:World) (v:Value),Post v w->a.defers=a0.defers->a.tmps.size=a0.tmps.size->(∀ s,(∀ oj ∈ l ++ [z],oj.dst≠some s)->a.tmps.getD s undef=a0.tmps.getD s undef) ->
  (∀ (i:Nat) (o:Oper),l[i]? = some o->ba o a=Val i)->a.tmps.getD d undef=v->bQ P Q (t0 :: t) a w) :
 (Code.region id (l ++ (z :: t0 :: t)).toArray true).wp P Q a0 w0:=by
 obtain⟨at1,at2⟩:=lB hB;simp only [Bool.and_eq_true]at ht;obtain⟨⟨ht,hlast⟩,htg⟩:=ht;have htg:∀ (j:Nat) (o:Oper),(t0 :: t)[j]? = some o->o.guard=none:=fun j o ho=>by simpa using List.all_eq_true.1 htg o (List.mem_of_getElem? ho)
 have hT':=hT;simp only [nO,Bool.and_eq_true,decide_eq_true_eq]at hT';obtain⟨⟨⟨⟨hz1,hz2⟩,hdn⟩,hds⟩,-⟩:=hT';have hz1:z.guard=none:=by simpa using hz1
 have hz2:∀ e ∈ z.after,e.on<l.length:=fun e he=>by
  rw [Array.all_eq_true_iff_forall_mem]at hz2;exact of_decide_eq_true (hz2 e he)
 have hds:∀ o ∈ l,o.dst.isSome=true/\o.dst≠some d:=fun o ho=>by
  have:=List.all_eq_true.1 hds o ho
  simpa using this
 have hat:∀ (i:Nat) (o:Oper),(l ++ (z :: t0 :: t)).toArray[i]? = some o->(l[i]? = some o/\i<l.length)\/(i=l.length/\o=z)\/(∃ j,i=l.length+1+j/\(t0 :: t)[j]? = some o/\j<(t0 :: t).length):=fun i o ho=>by
  rw [List.getElem?_toArray,List.getElem?_append]at ho;split at ho
  ·exact .inl ⟨ho,by assumption⟩
  ·right
   rename_i h
   rcases Nat.eq_or_lt_of_le (Nat.le_of_not_lt h)with h1 | h1
   ·left
    subst h1;simp at ho;exact⟨rfl,ho.symm⟩
   ·right
    obtain⟨j,hj⟩:∃ j,i - l.length=j+1:=⟨i - l.length - 1,by omega⟩;rw [hj]at ho;exact⟨j,by omega,by simpa using ho,by simpa using (ji ho)⟩
 have hlen:(l ++ (z :: t0 :: t)).toArray.size=l.length+1+(t0 :: t).length:=by simp;omega
 have hfrz:∀ {a:Act} {v:Value},(∀ s,(∀ oj ∈ l,oj.dst≠some s)->a.tmps.getD s undef=(a0.put z.dst v).tmps.getD s undef)->∀ s,(∀ oj ∈ l ++ [z],oj.dst≠some s)->a.tmps.getD s undef=a0.tmps.getD s undef:=fun {a v} h s hs=>by
  rw [h s fun oj ho=>hs oj (by simp [ho]),hzd];exact bM _ _ _ _ (fun e=>hs z (by simp) (by rw [hzd,e]))
 refine ck hm (fun A a w=>A.size=l.length+1+(t0 :: t).length /\
  (∀ (i:Nat) (o:Oper),(l ++ [z])[i]? = some o->A.getD i false=true->∀ e ∈ o.after,Region.binds .any e=true->A.getD e.on false=true) /\
  ((∃ j,1≤j/\j≤(t0 :: t).length/\(∀ i,i<l.length+1+j->A.getD i false=true)/\(∀ i,l.length+1+j≤i->A.getD i false=false)/\bQ P Q ((t0 :: t).drop j) a w) \/
   ((∀ i,l.length≤i->A.getD i false=false)/\∃ B:Array Bool,(∀ i,i<l.length->B.getD i false=A.getD i false)/\GInv l (fun w w'=>w'=w) (fun j v _=>v=Val j) (fun _=>false) (fun w=>w=w0.drew) a0 B a w) \/
   (A.getD l.length false=true/\(∀ i,l.length+1≤i->A.getD i false=false)/\(∀ i,i<l.length->fr.contains i=false->A.getD i false=true)/\∃ v w1,Post v w1/\∃ B:Array Bool,(∀ i,i<l.length->B.getD i false=A.getD i false) /\
    GInv l (fun w w'=>w'=w) (fun j v _=>v=Val j) (fun _=>false) (fun w=>w=w1) (a0.put z.dst v) B a w))) ?_ ?_ ?_ ?_
 ·intro i o ho e he
  rcases hat i o ho with ⟨ho,-⟩ | ⟨rfl,rfl⟩ | ⟨j,rfl,ho,-⟩
  ·exact(at1 i o ho).2.1 e he
  ·exact hz2 e he
  ·have:=(bu ht ho).1 e he;omega
 ·refine⟨by simp;omega,fun i o _ h=>(by rw [getD_replicate_false]at h;cases h),.inr (.inl ⟨fun i _=>getD_replicate_false _ _,Array.replicate l.length false,fun i _=>by rw [getD_replicate_false,getD_replicate_false],?_⟩)⟩
  exact {
   lsz:=by simp
   c:=rfl
   sz:=rfl
   df:=rfl
   fr:=fun t _=>rfl
   phi:=fun i o _ h=>by rw [getD_replicate_false]at h;cases h
   blk:=fun i o _ h=>by rw [getD_replicate_false]at h;cases h
   ne:=fun i j oi oj _ _ _ h=>by rw [getD_replicate_false]at h;cases h }
 ·rintro A a w i o ⟨hA,hcl,hI⟩ ho hAi hdep
  have hwant:∀ ops,Region.wanted o (yielded ops a.tmps)=true:=fun ops=>by
   have:o.guard=none:=by
    rcases hat i o ho with ⟨ho,-⟩ | ⟨rfl,rfl⟩ | ⟨j,rfl,ho,-⟩
    ·exact(at1 i o ho).1
    ·exact hz1
    ·exact htg j o ho
   simp [Region.wanted,this]
  rw [if_pos (hwant _)]
  have hiA:i<A.size:=by
   rcases hat i o ho with ⟨-,hi⟩ | ⟨rfl,-⟩ | ⟨j,rfl,-,hj⟩ <;> omega
  have hAf:A.getD i false=false:=by
   simp only [Array.getD,hiA,dif_pos]at hAi ⊢;exact hAi
  have hcl':∀ (k:Nat) (q:Oper),(l ++ [z])[k]? = some q->(A.setIfInBounds i true).getD k false=true->∀ e ∈ q.after,Region.binds .any e=true->(A.setIfInBounds i true).getD e.on false=true:=fun k q hk hl e he hb=>by
   have key:A.getD e.on false=true:=by
    by_cases e1:k=i
    ·subst e1
     have hoq:o=q:=by
      rcases hat k o ho with ⟨ho',hkl⟩ | ⟨rfl,rfl⟩ | ⟨j,rfl,-,-⟩
      ·rw [List.getElem?_append_left hkl,ho']at hk;exact Option.some.inj hk
      ·simpa using hk
      ·have:=ji hk;simp at this;omega
     subst hoq;exact hdep e he hb
    ·rw [getD_set_ne false (Ne.symm e1)]at hl;exact hcl k q hk hl e he hb
   by_cases e2:i=e.on
   ·rw [<- e2];exact aC hiA
   ·rw [getD_set_ne false e2];exact key
  have hcll:∀ (k:Nat) (q:Oper),l[k]? = some q->A.getD k false=true->∀ e ∈ q.after,Region.binds .any e=true->A.getD e.on false=true:=fun k q hk=>hcl k q (by rw [List.getElem?_append_left (ji hk)];exact hk)
  have hfirst:∀ {o':Oper},o'=t0->(∀ e ∈ o'.after,Region.binds .any e=true->A.getD e.on false=true)->∀ i,i<l.length+1->A.getD i false=true:=fun {o'} e hd i hi=>by
   subst e;exact gO hlast hd hcl i (by simpa using hi)
  have tail0:∀ {a w},(∀ i,i<l.length+1->A.getD i false=true)->(∀ i,l.length+1≤i->A.getD i false=false)->i=l.length+1->bQ P Q (t0 :: t) a w->o=t0->o.wp P a w (fun a' w'=>(A.setIfInBounds i true).size=l.length+1+(t0 :: t).length /\
   (∀ (i_1:Nat) (o:Oper),(l ++ [z])[i_1]? = some o->(A.setIfInBounds i true).getD i_1 false=true->∀ e ∈ o.after,Region.binds .any e=true->(A.setIfInBounds i true).getD e.on false=true) /\
   (∃ j,1≤j/\j≤(t0 :: t).length/\(∀ i_1,i_1<l.length+1+j->(A.setIfInBounds i true).getD i_1 false=true)/\(∀ i_1,l.length+1+j≤i_1->(A.setIfInBounds i true).getD i_1 false=false)/\bQ P Q ((t0 :: t).drop j) a' w')) Q:=by
   intro a w hon hoff hi hq ho;subst ho;refine Oper.wp_mono ?_ hq;intro a' w' hq';refine⟨by simpa using hA,hcl',1,aH,by simp,fun x hx=>?_,fun x hx=>?_,hq'⟩
   ·by_cases e:x=i
    ·subst e;exact aC hiA
    ·rw [getD_set_ne false (by omega)];exact hon x (by omega)
   ·rw [getD_set_ne false (by omega)];exact hoff x (by omega)
  rcases hI with ⟨k,hk1,hk2,hon,hoff,hq⟩ | ⟨hoff,B,hBA,hI⟩ | ⟨hzon,hoff,hnf,v,w1,hP,B,hBA,hI⟩
  ·rcases hat i o ho with ⟨-,hi⟩ | ⟨rfl,-⟩ | ⟨j,rfl,hj,hjl⟩
   ·rw [hon i (by omega)]at hAf
    cases hAf
   ·rw [hon _ (by omega)]at hAf
    cases hAf
   ·have hjk:j=k:=by
     rcases Nat.lt_trichotomy j k with h | h | h
     ·rw [hon (l.length+1+j) (by omega)]at hAf
      cases hAf
     ·exact h
     ·exfalso
      obtain⟨e,he,h1,h2⟩:=(bu ht hj).2 (by omega);have h3:=hdep e he h2;rw [h1,hoff _ (by omega)]at h3
      cases h3
    subst hjk
    have hdrop:(t0 :: t).drop j=o :: (t0 :: t).drop (j+1):=by
     rw [List.drop_eq_getElem_cons hjl,(List.getElem?_eq_some_iff.1 hj).2]
    rw [hdrop]at hq;refine Oper.wp_mono ?_ hq;intro a' w' hq';refine⟨by simpa using hA,hcl',.inl ⟨j+1,by omega,by omega,fun i hi=>?_,fun i hi=>?_,hq'⟩⟩
    ·by_cases e:i=l.length+1+j
     ·subst e;exact aC hiA
     ·rw [getD_set_ne false (by omega)];exact hon i (by omega)
    ·rw [getD_set_ne false (by omega)];exact hoff i (by omega)
  ·rcases hat i o ho with ⟨ho',hi⟩ | ⟨rfl,rfl⟩ | ⟨j,rfl,hj,hjl⟩
   ·refine Oper.wp_mono ?_ (gT hB (fun w w'=>w'=w) (fun j v _=>v=Val j) (fun _=>false) (fun w=>w=w0.drew) (fun _ _ _ _ _ h=>h) (fun w w' h=>by rw [h];exact aH) (fun w w' h h'=>h'.trans h) (fun hC hG=>?_) hI ho' fun e he hb=>?_)
    ·rintro a' w' hI';refine⟨by simpa using hA,hcl',.inr (.inl ⟨fun x hx=>?_,_,fun x hx=>?_,hI'⟩)⟩
     ·rw [getD_set_ne false (by omega)];exact hoff x hx
     ·by_cases e:i=x
      ·subst e;rw [aC hiA,aC (by rw [hI.lsz];exact hi)]
      ·rw [getD_set_ne false e,getD_set_ne false e];exact hBA x hx
    ·have hr:=read i o a w ho' (.inl hC) hG.dep (fun s hs=>hG.fr s fun oj hoj=>hs oj (by simp [hoj]));unfold Oper.wp;rw [hr];obtain⟨d',hd'⟩:=Option.isSome_iff_exists.1 (hds o (List.mem_of_getElem? ho')).1;exact⟨Val i,rfl,rfl,by rw [hd'];rfl,fun h=>by cases h⟩
    ·rw [hBA _ (Nat.lt_trans ((at1 i o ho').2.1 e he) hi)];exact hdep e he hb
   ·have hnf:=sZ hT hdep hcll l.length
    have hc:=call a (fun e he hb oj hoj=>by
     have:=hI.phi e.on oj hoj (by rw [hBA _ (hz2 e he)];exact hdep e he hb)
     exact this) (fun s hs=>hI.fr s fun oj hoj=>hs oj (by simp [hoj]))
    rw [hI.c];refine Oper.wp_mono ?_ hc;rintro a' w' ⟨v,rfl,hP⟩;refine⟨by simpa using hA,hcl',.inr (.inr ⟨aC hiA,fun x hx=>?_,fun x hx hf=>?_,v,w',hP,B,fun x hx=>?_,?_⟩)⟩
    ·rw [getD_set_ne false (by omega)];exact hoff x (by omega)
    ·rw [getD_set_ne false (by omega)];exact hnf x (by omega) hx hf
    ·rw [getD_set_ne false (by omega)];exact hBA x hx
    ·have vkeep:∀ (j:Nat) (oj:Oper),l[j]? = some oj->ba oj (a.put o.dst v)=ba oj a:=fun j oj hoj=>by
      rw [hzd];unfold ba
      cases hdj:oj.dst with
      | none=>rfl
      | some s=>exact bM a d v s (fun e=>(hds oj (List.mem_of_getElem? hoj)).2 (by rw [hdj,e]))
     exact {
      lsz:=hI.lsz
      c:=rfl
      sz:=by
       rw [hzd]
       simpa [Act.put]using hI.sz
      df:=by
       rw [hzd];exact hI.df
      fr:=fun s hs=>by
       rw [hzd]
       by_cases e:s=d
       ·subst e;rw [bN a s v (by rw [hI.sz];exact hdn),bN a0 s v hdn]
       ·rw [bM a d v s e,bM a0 d v s e];exact hI.fr s hs
      phi:=fun j oj hoj hl=>by
       rw [vkeep j oj hoj];exact hI.phi j oj hoj hl
      blk:=fun j oj _ _ h=>by cases h
      ne:=fun j k oj ok _ _ _ _ _ h=>by cases h }
   ·exfalso
    by_cases h0:j=0
    ·subst h0;have:=hfirst (by simpa using hj.symm) hdep l.length (Nat.lt_succ_self _);rw [hoff _ aH]at this
     cases this
    ·obtain⟨e,he,h1,h2⟩:=(bu ht hj).2 (by omega);have h3:=hdep e he h2;rw [hoff _ (by omega)]at h3
     cases h3
  ·rcases hat i o ho with ⟨ho',hi⟩ | ⟨rfl,-⟩ | ⟨j,rfl,hj,hjl⟩
   ·have hfi:fr.contains i=true:=by
     cases h:fr.contains i with
     | true=>rfl
     | false =>
       rw [hnf i hi h]at hAf
       cases hAf
    refine Oper.wp_mono ?_ (gT (a0:=a0.put z.dst v) (by rw [hzd];simpa [Act.put]using hB) (fun w w'=>w'=w) (fun j v _=>v=Val j) (fun _=>false) (fun w=>w=w1) (fun _ _ _ _ _ h=>h) (fun w w' h=>by rw [h];exact aH) (fun w w' h h'=>h'.trans h) (fun hC hG=>?_) hI ho' fun e he hb=>?_)
    ·rintro a' w' hI';refine⟨by simpa using hA,hcl',.inr (.inr ⟨?_,fun x hx=>?_,fun x hx hf=>?_,v,w1,hP,_,fun x hx=>?_,hI'⟩)⟩
     ·rw [getD_set_ne false (by omega)];exact hzon
     ·rw [getD_set_ne false (by omega)];exact hoff x hx
     ·by_cases e:i=x
      ·subst e;exact aC hiA
      ·rw [getD_set_ne false e];exact hnf x hx hf
     ·by_cases e:i=x
      ·subst e;rw [aC hiA,aC (by rw [hI.lsz];exact hi)]
      ·rw [getD_set_ne false e,getD_set_ne false e];exact hBA x hx
    ·have hr:=read i o a w ho' (.inr hfi) hG.dep (hfrz hG.fr);unfold Oper.wp;rw [hr];obtain⟨d',hd'⟩:=Option.isSome_iff_exists.1 (hds o (List.mem_of_getElem? ho')).1;exact⟨Val i,rfl,rfl,by rw [hd'];rfl,fun h=>by cases h⟩
    ·rw [hBA _ (Nat.lt_trans ((at1 i o ho').2.1 e he) hi)];exact hdep e he hb
   ·rw [hzon]at hAf
    cases hAf
   ·have hj0:j=0:=by
     rcases Nat.eq_zero_or_pos j with h | h
     ·exact h
     ·exfalso
      obtain⟨e,he,h1,h2⟩:=(bu ht hj).2 (by omega);have h3:=hdep e he h2;rw [h1,hoff _ (by omega)]at h3
      cases h3
    subst hj0;have hz:o=t0:=by simpa using hj.symm
    have hall:∀ i,i<l.length+1->A.getD i false=true:=hfirst hz hdep
    have hdo:=done a w v (by rw [hI.c];exact hP) (hI.df.trans (by rw [hzd];rfl)) (hI.sz.trans (by rw [hzd];simp [Act.put])) (hfrz hI.fr)
     (fun i q hq=>hI.phi i q hq (by rw [hBA i (ji hq)];exact hall i (by have:=ji hq;omega)))
     (by rw [hI.fr d fun oj hoj=>(hds oj hoj).2,hzd];exact bN a0 d v hdn)
    refine Oper.wp_mono ?_ (tail0 hall hoff rfl hdo hz);rintro a' w' ⟨h1,h2,h3⟩;exact⟨h1,h2,.inl h3⟩
 ·rintro A a w ⟨hA,-,hI⟩ hall;rw [hlen]at hall
  have bad:∀ i,i<A.size->A.getD i false=false->False:=fun i hi h=>by
   have h1:=hall i (by omega);simp only [Array.getD,hi,dif_pos]at h1 h;rw [h1]at h
   cases h
  rcases hI with ⟨k,hk1,hk2,hon,hoff,hq⟩ | ⟨hoff,-⟩ | ⟨-,hoff,-⟩
  ·have hk:k=(t0 :: t).length:=by
    rcases Nat.lt_or_ge k (t0 :: t).length with h | h
    ·exact(bad (l.length+1+k) (by omega) (hoff _ aH)).elim
    ·omega
   subst hk
   simpa [bQ]using hq
  ·exact(bad l.length (by simp at hA;omega) (hoff _ aH)).elim
  ·exact(bad (l.length+1) (by simp at hA;omega) (hoff _ aH)).elim
theorem cl {P:Program} {Q:Exit->Act->World->Prop} {id:Nat} {L:List Oper} {z t0:Oper} {t:List Oper} {a0:Act} {w0:World} {d:Nat} (k:Nat) (fr:List Nat) (Val:Nat->Value) (Post:Value->World->Prop) (hm:P.follows .mixedOrders=true)
 (hk:L.drop k=z :: t0 :: t) (hB:kR (L.take k) a0.tmps.size=true) (hzd:z.dst=some d) (hT:nO (L.take k) z d a0.tmps.size fr=true) (ht:(chainB ((L.take k).length+1) 0 (t0 :: t) && jM (L.take k ++ [z]) t0 && (t0 :: t).all fun o=>o.guard.isNone)=true)
 (read:∀ (i:Nat) (o:Oper) (a:Act) (w:World),(L.take k)[i]? = some o->(w=w0.drew\/fr.contains i=true)->(∀ e ∈ o.after,Region.binds .any e=true->∀ oj,(L.take k)[e.on]? = some oj->ba oj a=Val e.on) ->
  (∀ s,(∀ oj ∈ L.take k ++ [z],oj.dst≠some s)->a.tmps.getD s undef=a0.tmps.getD s undef)->(execOp a.eval o).run P w=.ok (.value (Val i)) w)
 (call:∀ (a:Act),(∀ e ∈ z.after,Region.binds .any e=true->∀ oj,(L.take k)[e.on]? = some oj->ba oj a=Val e.on) ->
  (∀ s,(∀ oj ∈ L.take k ++ [z],oj.dst≠some s)->a.tmps.getD s undef=a0.tmps.getD s undef)->z.wp P a w0.drew (fun a' w'=>∃ v,a'=a.put z.dst v/\Post v w') Q)
 (done:∀ (a:Act) (w:World) (v:Value),Post v w->a.defers=a0.defers->a.tmps.size=a0.tmps.size->(∀ s,(∀ oj ∈ L.take k ++ [z],oj.dst≠some s)->a.tmps.getD s undef=a0.tmps.getD s undef) ->
  (∀ (i:Nat) (o:Oper),(L.take k)[i]? = some o->ba o a=Val i)->a.tmps.getD d undef=v->bQ P Q (t0 :: t) a w) :
 (Code.region id L.toArray true).wp P Q a0 w0:=by
 have hL:L.take k ++ (z :: t0 :: t)=L:=by rw [<- hk,List.take_append_drop]
 revert hB hT ht read call done hL;generalize L.take k=l;intro hB hT ht read call done hL;clear hk;subst hL;exact jS fr Val Post hm hB hzd hT ht read call done
end
end Go.Proofs.YthaliljaglldjaaGreat
namespace Go.Proofs.YthaliljaglldjaaGreat
set_option maxHeartbeats 16000000
set_option maxRecDepth 20000
open Go.RowKit Go.ChangeMaps Go.MapKept
section
variable {w:World} {p:Nat} {M:WM} {F:Nat->Prop}
theorem iH {w:World} {b o:Nat} {c:Array Value} {e:TypeId} {fr:Nat × Nat} (hb:w.heap[b]? = some (.cells c e fr)) {cs:List Value} (hc:∀ j x,cs[j]? = some x->c[o+j]? = some x) (hs:cs.length=16):(dZ (R_ b o)).run Tryz.prog w=.ok (.value (.agg cs.toArray)) w:=by
 have:=run_loadAt_mid w b o 46 cs _ (fun j x hj=>by rw [ag hb];exact hc j x hj) Tryz.underlying46 rfl (by rw [hs];exact dr);simp only [dZ,Sem.run_bind,this,Result.andThen,Sem.run_pure]
theorem fS {p:Nat} {r:Int} {t:Th} {j:Nat} {x:Value} (h:(aF t).toList[j]? = some x):(bj p r t)[2+j]? = some x:=by
 have hj:j<16:=ji h
 match j,hj,h with
 | 0,_,h=>exact h
 | 1,_,h=>exact h
 | 2,_,h=>exact h
 | 3,_,h=>exact h
 | 4,_,h=>exact h
 | 5,_,h=>exact h
 | 6,_,h=>exact h
 | 7,_,h=>exact h
 | 8,_,h=>exact h
 | 9,_,h=>exact h
 | 10,_,h=>exact h
 | 11,_,h=>exact h
 | 12,_,h=>exact h
 | 13,_,h=>exact h
 | 14,_,h=>exact h
 | 15,_,h=>exact h
def LaidB (w:World) (p:Nat) (M:WM) (F:Nat->Prop) (r:Int) (x:Th) (b:Nat) (w':World):Prop :=
 ∃ vl' vals' F',(x.v.l = []->vl'=.slice none 0 0)/\IsW w' p (M.set r { x with vl:=vl',vals:=vals' }) F'/\Keeps (fun y=>F y\/y=b) w w'/\∀ y,F' y->F y\/w.heap.size≤y
def kZ (w:World) (p:Nat) (M:WM) (F:Nat->Prop) (r:Int) (x:Th) (b:Nat) (w':World):Prop :=
 ∃ F',IsW w' p (M.set r x) F'/\Keeps (fun y=>F y\/y=b) w w'/\∀ y,F' y->F y\/w.heap.size≤y
theorem sV (hW:IsW w p M F) {r:Int} (hr:(Lit.int .i64 r).wf=true) {h n m:Int} (ht:M.at r=some (lt 3 h 0 0 n 0 0 0 0 false)) {b:Nat} (hb:w.heap[b]? = some (.cells (bj p r (lt 3 h 0 0 n 0 0 0 0 false)) 249 (0,0))) (hbF:¬ F b)
 (hh:be M h=true) (hn:0≤n) (hm:0≤m) (hmn:n+m≤9007199254740992) :
 Calls Tryz.prog 335 #[P_ b,.agg (V_ 1 m ⟨#[]⟩ (S_) 0)] w fun e w'=>e=.returned (.tuple #[.agg zV,J 0])/\kZ w p M F r (lt 3 h 0 0 (n+m) 0 0 0 0 false) b w':=by
 have c10':w.cell? ⟨b,10,none⟩=some (.int .i64 n):=by rw [ag hb];rfl
 have h1:¬ m<0:=by omega
 have h2:¬ m > 9007199254740992 - n:=by omega
 have hw1:wrap64 (9007199254740992 - n)=9007199254740992 - n:=by unfold wrap64;omega
 have hw2:wrap64 (n+m)=n+m:=by unfold wrap64;omega
 have hlt:=aw hb
 go_enter Tryz.func335,Tryz.ntmps335
 go_wp2_with fail
 go_region
 clear c10'
 go_wp2_with fail
 have HX:Hid (Bl w ((w.alloc (.cells (V_ 1 m ⟨#[]⟩ (S_) 0) 27)).alloc (.cells O 27)).drew /\
  ((w.alloc (.cells (V_ 1 m ⟨#[]⟩ (S_) 0) 27)).alloc (.cells O 27)).drew.heap[w.heap.size]? = some (.cells (V_ 1 m ⟨#[]⟩ (S_) 0) 27 (0,0)) /\
  ((w.alloc (.cells (V_ 1 m ⟨#[]⟩ (S_) 0) 27)).alloc (.cells O 27)).drew.heap[w.heap.size+1]? = some (.cells zV 27 (0,0))) :=
  ⟨((br.alloc aH _).alloc (by simp) _).drew,aL _ _ _,aK _ _ _⟩
 revert HX;generalize World.drew _=w2;intro HX;have hb2:=(HX.out.1.block b hlt).trans hb;have c10:w2.cell? ⟨b,10,none⟩=some (.int .i64 n):=by rw [ag hb2];rfl
 have f10:=av hb2 10;have d1:w2.cell? ⟨w.heap.size,1,none⟩=some (.int .i64 m):=by rw [ag HX.out.2.1];rfl
 go_still_tail 13,(by kernel_rfl)
 change wpList _ _ _ _ _ w2.drew
 go_wp2_with fail
 have H3:Hid (Below w.heap.size w2 w2):=br
 have hb3:(w2.setCell ⟨b,10,none⟩ (J (n+m))).drew.heap[b]? = some (.cells (bj p r (lt 3 h 0 0 (n+m) 0 0 0 0 false)) 249 (0,0)):=by
  have:=aA hb2 10 (J (n+m));exact this
 have hk3:Keeps (fun y=>y=b) w (w2.setCell ⟨b,10,none⟩ (J (n+m))).drew:=(Below.keeps HX.out.1 (Keeps.setCell (S:=fun y=>y=b) w2 ⟨b,10,none⟩ _ rfl)).drew;have hr3:(w2.setCell ⟨b,10,none⟩ (J (n+m))).drew.heap[w.heap.size+1]? = some (.cells zV 27 (0,0)):=eK HX.out.2.2 ⟨b,10,none⟩ _ (by simp;omega);revert hb3 hk3 hr3;generalize World.drew _=w3;intro hb3 hk3 hr3;have c0:w3.drew.cell? ⟨b,0,none⟩=some (.pointer (some ⟨p,0,none⟩)):=by rw [ag (aX hb3)];rfl
 have c1:w3.drew.cell? ⟨b,1,none⟩=some (.int .i64 r):=by rw [ag (aX hb3)];rfl
 have ldx:(dZ (R_ b 2)).run Tryz.prog w3.drew=.ok (.value (.agg (wr 3 h 0 0 (n+m) 0 0 0 0 false))) w3.drew:=iH (aX hb3) (cs:=(wr 3 h 0 0 (n+m) 0 0 0 0 false).toList) (by intro j x hj;exact fS hj) rfl;have hW3:IsW w3.drew p M F:=hW.keeps hk3.drew (fun y hy e=>hbF (e ▸ hy))
 have HL:Hid (Calls Tryz.prog 107 #[P_ p,J r,.agg (wr 3 h 0 0 (n+m) 0 0 0 0 false)] w3.drew fun e w'=>e=.returned (J 0)/\IsW w' p (M.set r (lt 3 h 0 0 (n+m) 0 0 0 0 false)) F/\Keeps F w3.drew w') :=
  xA hW3 hr ht (.inl ⟨rfl,rfl⟩) (fun w' hW'=>tW hW' h (n+m) hh ⟨by omega,hmn⟩)
 have HK:Hid _:=And.intro hk3 (And.intro hr3 hlt);have HbF:Hid (∀ y,F y->y<w.heap.size):=hW.lt;refine cl (z:=_) 16 [0] (fun i=>match i with | 0=>.agg zV | 1=>P_ b | 2=>P_ b | 3=>P_ b | 4=>P_ b | 5=>P_ p | 6=>P_ b | 7=>P_ b | 8=>P_ b | 9=>R_ b 1 | 10=>J r | 11=>P_ b | 12=>P_ b | 13=>P_ b | 14=>R_ b 2 | 15=>.agg (wr 3 h 0 0 (n+m) 0 0 0 0 false) | _=>undef) (fun v w'=>v=J 0/\(IsW w' p (M.set r (lt 3 h 0 0 (n+m) 0 0 0 0 false)) F/\Keeps F w3.drew w')) (by kernel_rfl) rfl (by kernel_rfl) rfl (by kernel_rfl) (by kernel_rfl) ?_ ?_ ?_
 ·intro i q a w7 hq hw hdep hfr;have hj:i<16:=ji hq
  match i,hj with
  | 0,_ =>
    cases hq;clear hw hdep hfr;simp [go_sem,zV]
  | 1,_ =>
    cases hq;have hw:w7=w3.drew:=by simpa using hw
    subst hw;have h0':a.tmps[0]?.getD undef=P_ b:=gq (hfr 0 (by simp));clear hdep hfr;simp [go_sem,Act.eval,h0']
  | 2,_ =>
    cases hq;have hw:w7=w3.drew:=by simpa using hw
    subst hw;have h0:a.tmps.getD 42 undef=P_ b:=hdep ⟨1,.data⟩ (by simp) rfl _ rfl;have h0':a.tmps[42]?.getD undef=P_ b:=by rw [<- h0];simp [Array.getD_eq_getD_getElem?]
    clear hdep hfr;simp [go_sem,Act.eval,h0']
  | 3,_ =>
    cases hq;have hw:w7=w3.drew:=by simpa using hw
    subst hw;have h0:a.tmps.getD 43 undef=P_ b:=hdep ⟨2,.data⟩ (by simp) rfl _ rfl;have h0':a.tmps[43]?.getD undef=P_ b:=by rw [<- h0];simp [Array.getD_eq_getD_getElem?]
    clear hdep hfr;simp [go_sem,Act.eval,h0']
  | 4,_ =>
    cases hq;have hw:w7=w3.drew:=by simpa using hw
    subst hw;have h0:a.tmps.getD 44 undef=P_ b:=hdep ⟨3,.data⟩ (by simp) rfl _ rfl;have h0':a.tmps[44]?.getD undef=P_ b:=by rw [<- h0];simp [Array.getD_eq_getD_getElem?]
    clear hdep hfr;simp [go_sem,Act.eval,h0']
  | 5,_ =>
    cases hq;have hw:w7=w3.drew:=by simpa using hw
    subst hw;have h0:a.tmps.getD 45 undef=P_ b:=hdep ⟨4,.data⟩ (by simp) rfl _ rfl;have h0':a.tmps[45]?.getD undef=P_ b:=by rw [<- h0];simp [Array.getD_eq_getD_getElem?]
    clear hdep hfr;simp [go_sem,Act.eval,h0',c0]
  | 6,_ =>
    cases hq;have hw:w7=w3.drew:=by simpa using hw
    subst hw;have h0':a.tmps[0]?.getD undef=P_ b:=gq (hfr 0 (by simp));clear hdep hfr;simp [go_sem,Act.eval,h0']
  | 7,_ =>
    cases hq;have hw:w7=w3.drew:=by simpa using hw
    subst hw;have h0:a.tmps.getD 47 undef=P_ b:=hdep ⟨6,.data⟩ (by simp) rfl _ rfl;have h0':a.tmps[47]?.getD undef=P_ b:=by rw [<- h0];simp [Array.getD_eq_getD_getElem?]
    clear hdep hfr;simp [go_sem,Act.eval,h0']
  | 8,_ =>
    cases hq;have hw:w7=w3.drew:=by simpa using hw
    subst hw;have h0:a.tmps.getD 48 undef=P_ b:=hdep ⟨7,.data⟩ (by simp) rfl _ rfl;have h0':a.tmps[48]?.getD undef=P_ b:=by rw [<- h0];simp [Array.getD_eq_getD_getElem?]
    clear hdep hfr;simp [go_sem,Act.eval,h0']
  | 9,_ =>
    cases hq;have hw:w7=w3.drew:=by simpa using hw
    subst hw;have h0:a.tmps.getD 49 undef=P_ b:=hdep ⟨8,.data⟩ (by simp) rfl _ rfl;have h0':a.tmps[49]?.getD undef=P_ b:=by rw [<- h0];simp [Array.getD_eq_getD_getElem?]
    clear hdep hfr;simp [go_sem,Act.eval,h0']
  | 10,_ =>
    cases hq;have hw:w7=w3.drew:=by simpa using hw
    subst hw;have h0:a.tmps.getD 50 undef=R_ b 1:=hdep ⟨9,.data⟩ (by simp) rfl _ rfl;have h0':a.tmps[50]?.getD undef=R_ b 1:=by rw [<- h0];simp [Array.getD_eq_getD_getElem?]
    clear hdep hfr;simp [go_sem,Act.eval,h0',c1]
  | 11,_ =>
    cases hq;have hw:w7=w3.drew:=by simpa using hw
    subst hw;have h0':a.tmps[0]?.getD undef=P_ b:=gq (hfr 0 (by simp));clear hdep hfr;simp [go_sem,Act.eval,h0']
  | 12,_ =>
    cases hq;have hw:w7=w3.drew:=by simpa using hw
    subst hw;have h0:a.tmps.getD 52 undef=P_ b:=hdep ⟨11,.data⟩ (by simp) rfl _ rfl;have h0':a.tmps[52]?.getD undef=P_ b:=by rw [<- h0];simp [Array.getD_eq_getD_getElem?]
    clear hdep hfr;simp [go_sem,Act.eval,h0']
  | 13,_ =>
    cases hq;have hw:w7=w3.drew:=by simpa using hw
    subst hw;have h0:a.tmps.getD 53 undef=P_ b:=hdep ⟨12,.data⟩ (by simp) rfl _ rfl;have h0':a.tmps[53]?.getD undef=P_ b:=by rw [<- h0];simp [Array.getD_eq_getD_getElem?]
    clear hdep hfr;simp [go_sem,Act.eval,h0']
  | 14,_ =>
    cases hq;have hw:w7=w3.drew:=by simpa using hw
    subst hw;have h0:a.tmps.getD 54 undef=P_ b:=hdep ⟨13,.data⟩ (by simp) rfl _ rfl;have h0':a.tmps[54]?.getD undef=P_ b:=by rw [<- h0];simp [Array.getD_eq_getD_getElem?]
    clear hdep hfr;simp [go_sem,Act.eval,h0']
  | 15,_ =>
    cases hq;have hw:w7=w3.drew:=by simpa using hw
    subst hw;have h0:a.tmps.getD 55 undef=R_ b 2:=hdep ⟨14,.data⟩ (by simp) rfl _ rfl;have h0':a.tmps[55]?.getD undef=R_ b 2:=by rw [<- h0];simp [Array.getD_eq_getD_getElem?]
    clear hdep hfr;rw [execOp_ldW];show (dZ (a.tmps.getD 55 undef)).run _ _=_;rw [h0];exact ldx
 ·intro a hdep hfr;have g0:a.tmps.getD 46 undef=P_ p:=hdep ⟨5,.data⟩ (by simp) rfl _ rfl;have g0':a.tmps[46]?.getD undef=P_ p:=by rw [<- g0];simp [Array.getD_eq_getD_getElem?]
  have g1:a.tmps.getD 51 undef=J r:=hdep ⟨10,.data⟩ (by simp) rfl _ rfl;have g1':a.tmps[51]?.getD undef=J r:=by rw [<- g1];simp [Array.getD_eq_getD_getElem?]
  have g2:a.tmps.getD 56 undef=.agg (wr 3 h 0 0 (n+m) 0 0 0 0 false):=hdep ⟨15,.data⟩ (by simp) rfl _ rfl;have g2':a.tmps[56]?.getD undef=.agg (wr 3 h 0 0 (n+m) 0 0 0 0 false):=by rw [<- g2];simp [Array.getD_eq_getD_getElem?]
  clear hdep hfr;unfold Oper.wp;simp [go_sem,callFunc,Act.eval,Tryz.func107,g0',g1',g2'];refine Calls.mono HL.out ?_;rintro e w5 ⟨rfl,hl⟩;exact⟨_,rfl,rfl,hl⟩
 ·intro a w5 v hP hdf hsz hfr hval hv;obtain⟨rfl,hl⟩:=hP;have e0:a.tmps.getD 41 undef=.agg zV:=hval 0 _ rfl;have e1:a.tmps.getD 42 undef=P_ b:=hval 1 _ rfl;have e2:a.tmps.getD 43 undef=P_ b:=hval 2 _ rfl;have e3:a.tmps.getD 44 undef=P_ b:=hval 3 _ rfl;have e4:a.tmps.getD 45 undef=P_ b:=hval 4 _ rfl;have e5:a.tmps.getD 46 undef=P_ p:=hval 5 _ rfl;have e6:a.tmps.getD 47 undef=P_ b:=hval 6 _ rfl;have e7:a.tmps.getD 48 undef=P_ b:=hval 7 _ rfl;have e8:a.tmps.getD 49 undef=P_ b:=hval 8 _ rfl;have e9:a.tmps.getD 50 undef=R_ b 1:=hval 9 _ rfl;have e10:a.tmps.getD 51 undef=J r:=hval 10 _ rfl;have e11:a.tmps.getD 52 undef=P_ b:=hval 11 _ rfl;have e12:a.tmps.getD 53 undef=P_ b:=hval 12 _ rfl;have e13:a.tmps.getD 54 undef=P_ b:=hval 13 _ rfl;have e14:a.tmps.getD 55 undef=R_ b 2:=hval 14 _ rfl;have e15:a.tmps.getD 56 undef=.agg (wr 3 h 0 0 (n+m) 0 0 0 0 false):=hval 15 _ rfl;have ha:=bq hdf hsz hfr;simp only [List.take_succ_cons,List.take_zero,List.cons_append,List.nil_append,List.filterMap_cons,List.filterMap_nil,List.foldl_cons,List.foldl_nil,List.setIfInBounds_toArray,List.set_cons_zero,List.set_cons_succ,e0,e1,e2,e3,e4,e5,e6,e7,e8,e9,e10,e11,e12,e13,e14,e15,hv]at ha;clear hdf hsz hfr hval hv e0 e1 e2 e3 e4 e5 e6 e7 e8 e9 e10 e11 e12 e13 e14 e15;subst ha;have hr5:w5.heap[w.heap.size+1]? = some (.cells zV 27 (0,0)):=(hl.2.block _ (aw (aX HK.out.2.1)) (fun e=>by have:=HbF.out _ e;omega)).trans (aX HK.out.2.1);have hst:(bZ (P_ (w.heap.size+1)) (.agg zV)).run Tryz.prog w5=.ok .skip w5:=bf hr5 rfl (by simp [zV]) (by simp [zV,go_sem]) (by simp [zV])
  have HE:Hid (kZ w p M F r (lt 3 h 0 0 (n+m) 0 0 0 0 false) b w5) :=
   ⟨F,hl.1,(HK.out.1.drew).trans hl.2 (fun _ _ h=>.inr h) (fun _ _ h=>.inl h),fun _ h=>.inl h⟩
  obtain⟨⟨r0,r1,r2,r3,r4⟩,-⟩:=ax hr5;clear hl hr5 c0 c1 ldx hW3 HL HK hb3 hk3 hr3 hb2 HX;unfold bQ Oper.wp;rw [aW];simp [go_sem,Act.eval,hst];unfold bQ Oper.wp;simp [execOp,go_sem,Act.eval,bQ];refine ‹∀ (a:Act) (w:World),Code.wp Tryz.prog _ _ a w->_› _ _ ?_
  go_wp2_with fail
  refine bodyPost_ret (v:=.tuple #[.agg zV,J 0]) (by simp [results,Tryz.results335,go_sem,r0,r1,r2,r3,r4,zV]) rfl ⟨rfl,HE.out⟩
theorem oI (w:World) (b:Nat) (m:Int) (hm:m<0):Calls Tryz.prog 335 #[P_ b,.agg (V_ 1 m ⟨#[]⟩ (S_) 0)] w fun e w'=>e=.returned (.tuple #[.agg zV,J 2])/\Below w.heap.size w w':=by
 go_enter Tryz.func335,Tryz.ntmps335
 go_wp2
 go_returns
 exact⟨rfl,by go_grown⟩
theorem pQ {b:Nat} {r:Int} {t:Th} (hb:w.heap[b]? = some (.cells (bj p r t) 249 (0,0))) (h0:0≤t.n/\t.n≤9007199254740992) {m:Int} (hm:9007199254740992 - t.n<m):Calls Tryz.prog 335 #[P_ b,.agg (V_ 1 m ⟨#[]⟩ (S_) 0)] w fun e w'=>e=.returned (.tuple #[.agg zV,J 8])/\Below w.heap.size w w':=by
 have c10:w.cell? ⟨b,10,none⟩=some (.int .i64 t.n):=by rw [ag hb];rfl
 have h1:¬ m<0:=by omega
 have h2:m > 9007199254740992 - t.n:=hm;have hw1:wrap64 (9007199254740992 - t.n)=9007199254740992 - t.n:=by unfold wrap64;omega
 have hlt:=aw hb
 go_enter Tryz.func335,Tryz.ntmps335
 go_wp2_with fail
 go_region
 go_wp2_with fail
 go_returns
 exact⟨rfl,by go_grown⟩
end
end Go.Proofs.YthaliljaglldjaaGreat
