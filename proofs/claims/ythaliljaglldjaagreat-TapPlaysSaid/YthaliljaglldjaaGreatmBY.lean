/- Part of the proof. -/
import Derived.Test.YthaliljaglldjaaGreatmBX
namespace Go.Proofs.YthaliljaglldjaaGreat
set_option maxHeartbeats 16000000
set_option maxRecDepth 20000
open Go.RowKit
section
def stg (x y:Bool):Nat:=if y then 2 else if x then 1 else 0
def twoB (l:List Oper) (m1 m2:Nat):Bool:=decide (m1<l.length) && decide (m2<l.length) && decide (m1≠m2) && (l.zipIdx.all fun x=>decide (x.2≠m2) || x.1.after.any fun e=>e.on==m1 && Region.binds .any e)
theorem twoB_at {l:List Oper} {m1 m2:Nat} (h:twoB l m1 m2=true):m1<l.length/\m2<l.length/\m1≠m2/\∀ o,l[m2]? = some o->∃ e ∈ o.after,e.on=m1/\Region.binds .any e=true:=by
 simp only [twoB,Bool.and_eq_true,decide_eq_true_eq]at h;obtain⟨⟨⟨h1,h2⟩,h3⟩,h4⟩:=h;refine⟨h1,h2,h3,fun o ho=>?_⟩;have:=List.all_eq_true.1 h4 (o,m2) (List.mem_zipIdx_iff_getElem?.2 ho);simp only [Bool.or_eq_true,decide_eq_true_eq]at this
 rcases this with h | h
 ·exact absurd rfl h
 ·obtain⟨j,hj,h6⟩:=Array.any_eq_true.1 h;simp only [Bool.and_eq_true,beq_iff_eq]at h6;exact⟨_,Array.getElem_mem hj,h6.1,h6.2⟩
theorem two_step {P:Program} {Q:Exit->Act->World->Prop} {l:List Oper} {a0:Act} (hB:growGB l a0.tmps.size=true) (m1 m2:Nat) (hM:twoB l m1 m2=true)
 (R:World->World->Prop) (Φ:Nat->Nat->Value->World->Prop) (C:Nat->World->Prop)
 (hΦ:∀ s j v w w',R w w'->Φ s j v w->Φ s j v w') (hC:∀ s w w',C s w->R w w'->C s w')
 {i:Nat} {o:Oper} {a:Act} {w:World} {A B:Array Bool}
 (step:∀ s,i≠m1->i≠m2->l[i]? = some o->C s w->Given l (Φ s) (fun _=>false) a0 o a w->o.wp P a w (fun a' w'=>∃ v,a'=a.put o.dst v/\R w w'/\Φ s i (o.dst.elim undef fun _=>v) w') Q)
 (turn1:l[m1]? = some o->C 0 w->Given l (Φ 0) (fun _=>false) a0 o a w->o.wp P a w (fun a' w'=>∃ v,a'=a.put o.dst v/\C 1 w'/\Φ 1 m1 (o.dst.elim undef fun _=>v) w'/\∀ j u,j≠m1->Φ 0 j u w->Φ 1 j u w') Q)
 (turn2:l[m2]? = some o->C 1 w->Given l (Φ 1) (fun _=>false) a0 o a w->o.wp P a w (fun a' w'=>∃ v,a'=a.put o.dst v/\C 2 w'/\Φ 2 m2 (o.dst.elim undef fun _=>v) w'/\∀ j u,j≠m2->Φ 1 j u w->Φ 2 j u w') Q)
 (hI:GInv l R (Φ (stg (A.getD m1 false) (A.getD m2 false))) (fun _=>false) (C (stg (A.getD m1 false) (A.getD m2 false))) a0 B a w) (ho:l[i]? = some o) (hdep:∀ e ∈ o.after,Region.binds .any e=true->B.getD e.on false=true)
 (hA21:A.getD m2 false=true->A.getD m1 false=true) (hAi:A.getD i false=false) (hBA:∀ k,k<l.length->B.getD k false=A.getD k false) (hil:i<l.length) :
 o.wp P a w (GInv l R (Φ (stg ((B.setIfInBounds i true).getD m1 false) ((B.setIfInBounds i true).getD m2 false))) (fun _=>false) (C (stg ((B.setIfInBounds i true).getD m1 false) ((B.setIfInBounds i true).getD m2 false))) a0 (B.setIfInBounds i true)) Q:=by
 obtain⟨hm1,hm2,hne,hd⟩:=twoB_at hM;have hG:Given l (Φ (stg (A.getD m1 false) (A.getD m2 false))) (fun _=>false) a0 o a w:=⟨fun e he hb oj hj=>hI.phi _ _ hj (hdep e he hb),hI.fr,hI.sz,fun e he f hf hbe hbf hne oi oj hi hj hci hcj=>by cases hci⟩;have hiB:i<B.size:=by rw [hI.lsz];exact hil
 by_cases e1:i=m1
 ·subst e1
  have h2:A.getD m2 false=false:=by
   cases h:A.getD m2 false with
   | false=>rfl
   | true=>have:=hA21 h;rw [hAi]at this;cases this
  rw [getD_set_same' hiB,getD_set_ne false hne,hBA m2 hm2,h2];rw [hAi,h2]at hI hG;exact growP_put hB hI ho (turn1 ho hI.c hG)
 ·by_cases e2:i=m2
  ·subst e2;obtain⟨e,he,h3,h4⟩:=hd o ho
   have h1:A.getD m1 false=true:=by
    have:=hdep e he h4;rw [h3,hBA m1 hm1]at this;exact this
   rw [getD_set_same' hiB,getD_set_ne false e1,hBA m1 hm1,h1];rw [hAi,h1]at hI hG;exact growP_put hB hI ho (turn2 ho hI.c hG)
  ·rw [getD_set_ne false e1,getD_set_ne false e2,hBA m1 hm1,hBA m2 hm2];refine growP_put hB hI ho (Oper.wp_mono ?_ (step _ e1 e2 ho hI.c hG));rintro a' w' ⟨v,h1,hR,h2⟩;exact⟨v,h1,hC _ _ _ hI.c hR,h2,fun j u _ h=>hΦ _ _ _ _ _ hR h⟩
theorem wp_region_two {P:Program} {Q:Exit->Act->World->Prop} {id:Nat} {l:List Oper} {z:Oper} {t:List Oper} {a0:Act} {w0:World} (hm:P.follows .mixedOrders=true) (hB:growGB l a0.tmps.size=true)
 (ht:(chainB l.length 0 (z :: t) && lastB l z)=true)
 (m1 m2:Nat) (hM:twoB l m1 m2=true) (R:World->World->Prop) (Φ:Nat->Nat->Value->World->Prop) (C:Nat->World->Prop)
 (hΦ:∀ s j v w w',R w w'->Φ s j v w->Φ s j v w') (hC0:C 0 w0.drew) (hC:∀ s w w',C s w->R w w'->C s w')
 (hg:∀ (p:Nat) (i:Nat) (o:Oper) (g:Nat) (b:Bool),l[i]? = some o->o.guard=some (g,b)->∀ v w,Φ p g v w->v=.bool b)
 (step:∀ (s i:Nat) (o:Oper) (a:Act) (w:World),i≠m1->i≠m2->l[i]? = some o->C s w->Given l (Φ s) (fun _=>false) a0 o a w->o.wp P a w (fun a' w'=>∃ v,a'=a.put o.dst v/\R w w'/\Φ s i (o.dst.elim undef fun _=>v) w') Q)
 (turn1:∀ (o:Oper) (a:Act) (w:World),l[m1]? = some o->C 0 w->Given l (Φ 0) (fun _=>false) a0 o a w->o.wp P a w (fun a' w'=>∃ v,a'=a.put o.dst v/\C 1 w'/\Φ 1 m1 (o.dst.elim undef fun _=>v) w'/\∀ j u,j≠m1->Φ 0 j u w->Φ 1 j u w') Q)
 (turn2:∀ (o:Oper) (a:Act) (w:World),l[m2]? = some o->C 1 w->Given l (Φ 1) (fun _=>false) a0 o a w->o.wp P a w (fun a' w'=>∃ v,a'=a.put o.dst v/\C 2 w'/\Φ 2 m2 (o.dst.elim undef fun _=>v) w'/\∀ j u,j≠m2->Φ 1 j u w->Φ 2 j u w') Q)
 (done:∀ a w,C 2 w->a.defers=a0.defers->a.tmps.size=a0.tmps.size->(∀ s,(∀ oj ∈ l,oj.dst≠some s)->a.tmps.getD s undef=a0.tmps.getD s undef)->(∀ (i:Nat) (o:Oper),l[i]? = some o->Φ 2 i (valOf o a) w)->wpTailG P (l ++ (z :: t)).toArray Q (z :: t) a w) :
 (Code.region id (l ++ (z :: t)).toArray true).wp P Q a0 w0:=by
 obtain⟨at1,at2⟩:=growG_at hB;obtain⟨hm1,hm2,hne,hd2⟩:=twoB_at hM;simp only [Bool.and_eq_true]at ht;obtain⟨ht,hz⟩:=ht
 have hat:∀ (i:Nat) (o:Oper),(l ++ (z :: t)).toArray[i]? = some o->(l[i]? = some o/\i<l.length)\/(∃ j,i=l.length+j/\(z :: t)[j]? = some o/\j<(z :: t).length):=fun i o ho=>by
  rw [List.getElem?_toArray,List.getElem?_append]at ho;split at ho
  ·exact .inl ⟨ho,by assumption⟩
  ·right
   rename_i h
   exact⟨i - l.length,by omega,ho,(List.getElem?_eq_some_iff.1 ho).1⟩
 have hget:∀ (i:Nat) (o:Oper),l[i]? = some o->(l ++ (z :: t)).toArray[i]? = some o:=fun i o ho=>by
  rw [List.getElem?_toArray,List.getElem?_append_left (List.getElem?_eq_some_iff.1 ho).1];exact ho
 refine wp_region_inv hm (fun A a w=>A.size=l.length+(z :: t).length /\
  ((∃ j,1≤j/\j≤(z :: t).length/\(∀ i,i<l.length+j->A.getD i false=true)/\(∀ i,l.length+j≤i->A.getD i false=false)/\wpTailG P (l ++ (z :: t)).toArray Q ((z :: t).drop j) a w) \/
   ((∀ i,l.length≤i->A.getD i false=false)/\(∀ (i:Nat) (o:Oper),l[i]? = some o->A.getD i false=true->∀ e ∈ o.after,Region.binds .any e=true->A.getD e.on false=true) /\
    ∃ B:Array Bool,(∀ i,i<l.length->B.getD i false=A.getD i false)/\GInv l R (Φ (stg (A.getD m1 false) (A.getD m2 false))) (fun _=>false) (C (stg (A.getD m1 false) (A.getD m2 false))) a0 B a w))) ?_ ?_ ?_ ?_
 ·intro i o ho e he
  rcases hat i o ho with ⟨ho,-⟩ | ⟨j,rfl,ho,-⟩
  ·exact(at1 i o ho).2.1 e he
  ·have:=(chainB_at ht ho).1 e he;omega
 ·refine⟨by simp,.inr ⟨fun i _=>getD_replicate_false _ _,(fun i o _ h=>by rw [getD_replicate_false]at h;cases h),Array.replicate l.length false,fun i _=>by rw [getD_replicate_false,getD_replicate_false],?_⟩⟩
  exact {
   lsz:=by simp
   c:=by rw [getD_replicate_false,getD_replicate_false];exact hC0
   sz:=rfl
   df:=rfl
   fr:=fun t _=>rfl
   phi:=fun i o _ h=>by rw [getD_replicate_false]at h;cases h
   blk:=fun i o _ h=>by rw [getD_replicate_false]at h;cases h
   ne:=fun i j oi oj _ _ _ h=>by rw [getD_replicate_false]at h;cases h }
 ·rintro A a w i o ⟨hA,hI⟩ ho hAi hdep
  have hiA:i<A.size:=by
   rcases hat i o ho with ⟨-,hi⟩ | ⟨j,rfl,-,hj⟩ <;> omega
  have hAf:A.getD i false=false:=by
   simp only [Array.getD,hiA,dif_pos]at hAi ⊢;exact hAi
  rcases hI with ⟨k,hk1,hk2,hon,hoff,hq⟩ | ⟨hoff,hdn,B,hBA,hI⟩
  ·rcases hat i o ho with ⟨-,hi⟩ | ⟨j,rfl,hj,hjl⟩
   ·have:=hon i (by omega);rw [this]at hAf
    cases hAf
   ·have hjk:j=k:=by
     rcases Nat.lt_trichotomy j k with h | h | h
     ·have:=hon (l.length+j) (by omega);rw [this]at hAf
      cases hAf
     ·exact h
     ·exfalso
      obtain⟨e,he,h1,h2⟩:=(chainB_at ht hj).2 (by omega);have h3:=hdep e he h2;rw [h1,hoff _ (by omega)]at h3
      cases h3
    subst hjk
    have hdrop:(z :: t).drop j=o :: (z :: t).drop (j+1):=by
     rw [List.drop_eq_getElem_cons hjl,(List.getElem?_eq_some_iff.1 hj).2]
    rw [hdrop]at hq;obtain⟨hw,hq⟩:=hq;rw [if_pos hw];refine Oper.wp_mono ?_ hq;intro a' w' hq';refine⟨by simpa using hA,.inl ⟨j+1,by omega,by omega,fun i hi=>?_,fun i hi=>?_,hq'⟩⟩
    ·by_cases e:i=l.length+j
     ·subst e;exact getD_set_same' hiA
     ·rw [getD_set_ne false (by omega)];exact hon i (by omega)
    ·rw [getD_set_ne false (by omega)];exact hoff i (by omega)
  ·rcases hat i o ho with ⟨ho',hi⟩ | ⟨j,rfl,hj,hjl⟩
   ·have hdB:∀ e ∈ o.after,Region.binds .any e=true->B.getD e.on false=true:=fun e he hb=>by
     rw [hBA _ (Nat.lt_trans ((at1 i o ho').2.1 e he) hi)];exact hdep e he hb
    have hw:Region.wanted o (yielded (l ++ (z :: t)).toArray a.tmps)=true:=by
     unfold Region.wanted
     cases hgd:o.guard with
     | none=>rfl
     | some gb =>
       obtain⟨g,b⟩:=gb;obtain⟨e,he,h1,h2⟩:=(at1 i o ho').1 g b hgd
       have hgi:g<i:=by
        have:=(at1 i o ho').2.1 e he;omega
       obtain⟨og,hog⟩:∃ og,l[g]? = some og:=⟨_,List.getElem?_eq_getElem (by omega)⟩;have hphi:=hI.phi g og hog (by have:=hdB e he h2;rwa [h1]at this);have hv:=hg _ i o g b ho' hgd _ _ hphi
       have hy:yielded (l ++ (z :: t)).toArray a.tmps g=some b:=by
        unfold yielded;rw [hget g og hog];unfold valOf at hv
        cases hdg:og.dst with
        | none=>rw [hdg]at hv;simp [undef]at hv
        | some d =>
          rw [hdg]at hv;have hd:d<a.tmps.size:=by rw [hI.sz];exact(at1 g og hog).2.2 d hdg
          have hv:a.tmps.getD d undef=.bool b:=hv
          have:a.tmps[d]? = some (.bool b):=by
           rw [Array.getElem?_eq_getElem hd,← hv];simp [Array.getD,hd]
          simp [hdg,this]
       simp [hy]
    rw [if_pos hw]
    refine Oper.wp_mono ?_ (two_step hB m1 m2 hM R Φ C hΦ hC (fun s=>step s i o a w) (turn1 o a w) (turn2 o a w) hI ho' hdB (fun h2=>by
     obtain⟨o2,ho2⟩:∃ o2,l[m2]? = some o2:=⟨_,List.getElem?_eq_getElem hm2⟩;obtain⟨e,he,h3,h4⟩:=hd2 o2 ho2;have:=hdn m2 o2 ho2 h2 e he h4
     rwa [h3]at this) hAf (fun k hk=>hBA k hk) hi)
    rintro a' w' hI'
    have hAB:∀ m,m<l.length->(B.setIfInBounds i true).getD m false=(A.setIfInBounds i true).getD m false:=fun m hml=>by
     by_cases e:i=m
     ·subst e;rw [getD_set_same' hiA,getD_set_same' (by rw [hI.lsz];exact hi)]
     ·rw [getD_set_ne false e,getD_set_ne false e];exact hBA m hml
    rw [hAB m1 hm1,hAB m2 hm2]at hI';refine⟨by simpa using hA,.inr ⟨fun x hx=>?_,fun x ox hox hxA e he hb=>?_,_,fun x hx=>?_,hI'⟩⟩
    ·rw [getD_set_ne false (by omega)];exact hoff x hx
    ·by_cases e1:x=i
     ·subst e1;rw [ho']at hox
      cases hox
      have h1:=(at1 x o ho').2.1 e he;rw [getD_set_ne false (by omega)];exact hdep e he hb
     ·rw [getD_set_ne false (Ne.symm e1)]at hxA;have h3:=hdn x ox hox hxA e he hb
      by_cases e2:i=e.on
      ·rw [<- e2];exact getD_set_same' hiA
      ·rw [getD_set_ne false e2];exact h3
    ·by_cases e:i=x
     ·subst e;rw [getD_set_same' hiA,getD_set_same' (by rw [hI.lsz];exact hi)]
     ·rw [getD_set_ne false e,getD_set_ne false e];exact hBA x hx
   ·have hj0:j=0:=by
     rcases Nat.eq_zero_or_pos j with h | h
     ·exact h
     ·exfalso
      obtain⟨e,he,h1,h2⟩:=(chainB_at ht hj).2 (by omega);have h3:=hdep e he h2;rw [h1,hoff _ (by omega)]at h3
      cases h3
    subst hj0;have hz':o=z:=by simpa using hj.symm
    subst hz';have hall:=lastB_all hz hdep hdn;have hBall:∀ i,i<l.length->B.getD i false=true:=fun i hi=>by rw [hBA i hi];exact hall i hi
    rw [hall m1 hm1,hall m2 hm2]at hI;obtain⟨hw,hd⟩:=done a w hI.c hI.df hI.sz hI.fr (fun i o ho=>hI.phi i o ho (hBall i (List.getElem?_eq_some_iff.1 ho).1));rw [if_pos hw];refine Oper.wp_mono ?_ hd;intro a' w' hq';refine⟨by simpa using hA,.inl ⟨1,by omega,by simp,fun i hi=>?_,fun i hi=>?_,hq'⟩⟩
    ·by_cases e:i=l.length
     ·subst e;exact getD_set_same' hiA
     ·rw [getD_set_ne false (by omega)];exact hall i (by omega)
    ·rw [getD_set_ne false (by omega)];exact hoff i (by omega)
 ·rintro A a w ⟨hA,⟨k,hk1,hk2,hon,hoff,hq⟩ | ⟨hoff,-⟩⟩ hall
  ·have hk:k=(z :: t).length:=by
    rcases Nat.lt_or_ge k (z :: t).length with h | h
    ·exfalso
     have h1:=hall (l.length+k) (by simp at h ⊢;omega);have h2:=hoff (l.length+k) (Nat.le_refl _);have h3:l.length+k<A.size:=by omega
     simp only [Array.getD,h3,dif_pos]at h1 h2;rw [h1]at h2
     cases h2
    ·omega
   subst hk
   simpa [wpTailG]using hq
  ·exfalso
   have h1:=hall l.length (by simp);have h2:=hoff l.length (Nat.le_refl _);have h3:l.length<A.size:=by simp at hA;omega
   simp only [Array.getD,h3,dif_pos]at h1 h2;rw [h1]at h2
   cases h2
theorem wp_region_twoK {P:Program} {Q:Exit->Act->World->Prop} {id:Nat} {L:List Oper} {a0:Act} {w0:World} (k m1 m2:Nat) {z:Oper} {t:List Oper} (hm:P.follows .mixedOrders=true) (hk:L.drop k=z :: t) (hB:growGB (L.take k) a0.tmps.size=true)
 (ht:(chainB (L.take k).length 0 (L.drop k) && lastB (L.take k) z)=true) (hM:twoB (L.take k) m1 m2=true)
 (R:World->World->Prop) (Φ:Nat->Nat->Value->World->Prop) (C:Nat->World->Prop)
 (hΦ:∀ s j v w w',R w w'->Φ s j v w->Φ s j v w') (hC0:C 0 w0.drew) (hC:∀ s w w',C s w->R w w'->C s w')
 (hg:∀ (p:Nat) (i:Nat) (o:Oper) (g:Nat) (b:Bool),(L.take k)[i]? = some o->o.guard=some (g,b)->∀ v w,Φ p g v w->v=.bool b)
 (step:∀ (s i:Nat) (o:Oper) (a:Act) (w:World),i≠m1->i≠m2->(L.take k)[i]? = some o->C s w->Given (L.take k) (Φ s) (fun _=>false) a0 o a w->o.wp P a w (fun a' w'=>∃ v,a'=a.put o.dst v/\R w w'/\Φ s i (o.dst.elim undef fun _=>v) w') Q)
 (turn1:∀ (o:Oper) (a:Act) (w:World),(L.take k)[m1]? = some o->C 0 w->Given (L.take k) (Φ 0) (fun _=>false) a0 o a w->o.wp P a w (fun a' w'=>∃ v,a'=a.put o.dst v/\C 1 w'/\Φ 1 m1 (o.dst.elim undef fun _=>v) w'/\∀ j u,j≠m1->Φ 0 j u w->Φ 1 j u w') Q)
 (turn2:∀ (o:Oper) (a:Act) (w:World),(L.take k)[m2]? = some o->C 1 w->Given (L.take k) (Φ 1) (fun _=>false) a0 o a w->o.wp P a w (fun a' w'=>∃ v,a'=a.put o.dst v/\C 2 w'/\Φ 2 m2 (o.dst.elim undef fun _=>v) w'/\∀ j u,j≠m2->Φ 1 j u w->Φ 2 j u w') Q)
 (done:∀ a w,C 2 w->a.defers=a0.defers->a.tmps.size=a0.tmps.size->(∀ s,(∀ oj ∈ L.take k,oj.dst≠some s)->a.tmps.getD s undef=a0.tmps.getD s undef)->(∀ (i:Nat) (o:Oper),(L.take k)[i]? = some o->Φ 2 i (valOf o a) w)->wpTailG P L.toArray Q (L.drop k) a w) :
 (Code.region id L.toArray true).wp P Q a0 w0:=by
 rw [hk]at ht done;have hL:L.take k ++ (z :: t)=L:=by rw [<- hk,List.take_append_drop]
 revert hB ht hM hg step turn1 turn2 done;generalize L.take k=l at hL ⊢;subst hL;intro hB ht hM hg step turn1 turn2 done;exact wp_region_two hm hB ht m1 m2 hM R Φ C hΦ hC0 hC hg step turn1 turn2 done
end
end Go.Proofs.YthaliljaglldjaaGreat
namespace Go.Proofs.YthaliljaglldjaaGreat
set_option maxHeartbeats 16000000
set_option maxRecDepth 20000
open Go.RowKit Go.ChangeMaps Go.MapKept
section
variable {w:World} {p q:Nat} {M:WM} {F G:Nat->Prop}
def TwC (w w1:World) (K D:World->Prop) (s:Nat) (w':World):Prop:=(∀ b,w.heap.size≤b->b<w1.heap.size->w'.heap[b]? = w1.heap[b]?)/\w1.heap.size≤w'.heap.size/\(match s with | 0=>Bl w w' | 1=>K w' | _=>D w')
def KT (x:Int) (w:World) (p q:Nat) (M:WM) (F G:Nat->Prop) (g:FuncId) (b:Array Value) (w':World):Prop :=
 ∀ w'',Bl w' w''->Calls Tryz.prog g b w'' fun e w6=>e=.returned (.int .i64 x)/\TStep w p q M F G w6/\Keeps G w'' w6
theorem TStep.below {w w' w'':World} (h:TStep w p q M F G w') (hb:Bl w' w''):TStep w p q M F G w'':=by
 obtain⟨M',F',G',h1,h2,h3,h4⟩:=h;exact⟨M',F',G',h1.below hb,h2,h3.then_below hb,h4⟩
theorem TwC.start {w w1:World} {K D:World->Prop} (hb:Bl w w1):TwC w w1 K D 0 w1.drew:=⟨fun _ _ _=>rfl,Nat.le_refl _,hb.trans (below_drew.mono hb.size)⟩
theorem TwC.stay {w w1:World} {K D:World->Prop} (hK:∀ a b,Bl a b->K a->K b) (hD:∀ a b,Bl a b->D a->D b):∀ (s:Nat) (a b:World),TwC w w1 K D s a->Bl a b->TwC w w1 K D s b:=fun s a b h hb =>
 ⟨fun x h1 h2=>(hb.block x (Nat.lt_of_lt_of_le h2 h.2.1)).trans (h.1 x h1 h2),Nat.le_trans h.2.1 hb.size,by
  have h3:=h.2.2
  match s,h3 with
  | 0,h3=>have h3:Bl w a:=h3;exact h3.trans (hb.mono h3.size)
  | 1,h3=>exact hK a b hb h3
  | s+2,h3=>exact hD a b hb h3⟩
theorem TwC.stayK {w w1:World} {x:Int} {g:FuncId} {b:Array Value}:∀ (s:Nat) (a c:World),TwC w w1 (KT x w p q M F G g b) (TStep w p q M F G) s a->Bl a c->TwC w w1 (KT x w p q M F G g b) (TStep w p q M F G) s c :=
 TwC.stay (fun _ _ hb hk w'' hb2=>hk w'' (hb.trans (hb2.mono hb.size))) fun _ _ hb h=>h.below hb
theorem TwC.one {w w1 w7 w8:World} {K D K' D':World->Prop} (h:TwC w w1 K D 0 w7) (hk:Keeps (fun b=>F b\/G b) w7 w8) (hFG:∀ b,F b\/G b->b<w.heap.size) (hK:K' w8):TwC w w1 K' D' 1 w8 :=
 ⟨fun b h1 h2=>(hk.block b (Nat.lt_of_lt_of_le h2 h.2.1) (fun e=>by have:=hFG b e;omega)).trans (h.1 b h1 h2),Nat.le_trans h.2.1 hk.size,hK⟩
theorem TwC.two {w w1 w7 w8:World} {K D K' D':World->Prop} (h:TwC w w1 K D 1 w7) (hk:Keeps G w7 w8) (hG:∀ b,G b->b<w.heap.size) (hD:D' w8):TwC w w1 K' D' 2 w8 :=
 ⟨fun b h1 h2=>(hk.block b (Nat.lt_of_lt_of_le h2 h.2.1) (fun e=>by have:=hG b e;omega)).trans (h.1 b h1 h2),Nat.le_trans h.2.1 hk.size,hD⟩
theorem TwC.cell {w w1 w7:World} {K D:World->Prop} {s:Nat} (h:TwC w w1 K D s w7) {b i:Nat} {v:Value} (h1:w.heap.size≤b) (hc:w1.cell? ⟨b,i,none⟩=some v):w7.cell? ⟨b,i,none⟩=some v :=
 (World.cell?_of_block (a:=⟨b,i,none⟩) (h.1 b h1 (World.block_lt_of_cell? _ _ hc))).trans hc
theorem Tw1.stage {x:Int} {w w7:World} {f g:FuncId} {a b:Array Value} (h:Tw1 x w7 p q M F G f a g b) (hb:Bl w w7) :
 Calls Tryz.prog f a w7 fun e w8=>e=.returned (.int .i64 x)/\Keeps (fun b=>F b\/G b) w7 w8/\KT x w p q M F G g b w8 :=
 h.mono fun _ _ ⟨h1,h2,h3⟩=>⟨h1,h2,fun w'' hb2=>(h3 w'' hb2).mono fun _ _ ⟨k1,k2,k3⟩=>⟨k1,k2.of_below hb,k3⟩⟩
def KDT (x:Int) (w:World) (p q:Nat) (M:WM) (F G:Nat->Prop) (r:Int) (w':World):Prop :=
 ∀ w'',Bl w' w''->∀ b c,w''.cell? ⟨b,0,none⟩=some (.int .i64 r)->b<w''.heap.size->Calls Tryz.prog 106 #[.pointer (some ⟨q,0,none⟩),.slice (some ⟨b,0,none⟩) 1 c] w'' fun e w6=>e=.returned (.int .i64 x)/\TStep w p q M F G w6/\Keeps G w'' w6
theorem DropT.stage {x:Int} {w w7:World} {r:Int} (h:DropT x w7 p q M F G r) {b c:Nat} (hc:w7.cell? ⟨b,0,none⟩=some (.int .i64 r)) (hb:b<w7.heap.size) (hbw:Bl w w7) :
 Calls Tryz.prog 105 #[.pointer (some ⟨p,0,none⟩),.slice (some ⟨b,0,none⟩) 1 c] w7 fun e w8=>e=.returned (.int .i64 x)/\Keeps (fun b=>F b\/G b) w7 w8/\KDT x w p q M F G r w8 :=
 (h b c hc hb).mono fun _ _ ⟨h1,h2,h3⟩=>⟨h1,h2,fun w'' hb2 b' c' hc' hbl=>(h3 w'' hb2 b' c' hc' hbl).mono fun _ _ ⟨k1,k2,k3⟩=>⟨k1,k2.of_below hbw,k3⟩⟩
theorem TP.at_lt (h:TP M) (r:Int):(M.at r=none/\at7 M r=lt 0 0 0 0 0 0 0 0 0 false)\/∃ k hh n tg bi s,M.at r=some (lt k hh 0 0 n 0 tg bi s false)/\at7 M r=lt k hh 0 0 n 0 tg bi s false:=by
 cases e:M.at r with
 | none=>exact .inl ⟨rfl,by unfold at7;rw [e];rfl⟩
 | some t =>
   obtain⟨k,hh,n,tg,bi,s,rfl⟩:=(h.at e).lt;exact .inr ⟨k,hh,n,tg,bi,s,rfl,by unfold at7;rw [e];rfl⟩
theorem lays_o (S:TS w p q M F G) (hl:M.last+2≤100000) (sd r qq n:Int) {how:Int} (hh:how≠8/\how≠9/\how≠10/\how≠11):Calls Tryz.prog 129 #[.pointer (some ⟨p,0,none⟩),.pointer (some ⟨q,0,none⟩),.agg #[.int .i64 how,.int .i64 sd,.int .i64 r,.int .i64 qq,.int .i64 n]] w fun e w'=>e=.returned (.bool true)/\TStep w p q M F G w':=by
 have HFl:Hid (∀ b,F b\/G b->b<w.heap.size):=fun b hb=>hb.elim (S.W.lt b) (S.R.lt b);obtain⟨k0,hk⟩:∃ k,k=IntKind.u8.wrap n:=⟨_,rfl⟩;have hk2:0≤k0/\k0≤255:=by rw [hk];simp [IntKind.wrap,IntKind.signed,IntKind.bits];omega
 have hwk:IntKind.u8.wrap n=k0:=hk.symm;have HT:Hid (∀ w',Bl w w'->Tw2 w' p q M F G 14 #[.pointer (some ⟨p,0,none⟩),.agg (wr k0 sd 0 0 0 0 0 0 0 false)] 15 #[.pointer (some ⟨q,0,none⟩),.agg (thc (lt k0 sd 0 0 0 0 0 0 0 false))]):=fun w' hb=>makeT2 (S.below hb) hl sd hk2;have b8:(how==8)=false:=by simpa using hh.1
 have b9:(how==9)=false:=by simpa using hh.2.1
 have b10:(how==10)=false:=by simpa using hh.2.2.1
 have b11:(how==11)=false:=by simpa using hh.2.2.2
 clear S hl hk hk2 hh;have H1:Hid (Bl w (w.alloc (.cells #[.int .i64 how,.int .i64 sd,.int .i64 r,.int .i64 qq,.int .i64 n] 72))/\(w.alloc (.cells #[.int .i64 how,.int .i64 sd,.int .i64 r,.int .i64 qq,.int .i64 n] 72)).heap[w.heap.size]? = some (.cells #[.int .i64 how,.int .i64 sd,.int .i64 r,.int .i64 qq,.int .i64 n] 72 (0,0))):=⟨(Below.refl _ w).alloc (Nat.le_refl _) _,blk_new _ _⟩
 go_enter Tryz.func129,Tryz.ntmps129
 go_upto_region 1 with fail
 revert H1;generalize w.alloc _=w1;intro H1;have c1:w1.cell? ⟨w.heap.size,1,none⟩=some (.int .i64 sd):=by rw [cell_blk H1.out.2];rfl
 have c4:w1.cell? ⟨w.heap.size,4,none⟩=some (.int .i64 n):=by rw [cell_blk H1.out.2];rfl
 obtain⟨w3,hst,hb3,hg3,-⟩:=boxed_what' w1 (thc (lt k0 sd 0 0 0 0 0 0 0 false)) rfl (by rw [thc_lt];simp [go_sem]);have H3:Hid (Bl w w3/\w3.heap[w1.heap.size]? = some (.cells (thc (lt k0 sd 0 0 0 0 0 0 0 false)) 46 (0,0))/\w3.heap[w.heap.size]? = some (.cells #[.int .i64 how,.int .i64 sd,.int .i64 r,.int .i64 qq,.int .i64 n] 72 (0,0))/\w.heap.size<w1.heap.size):=⟨H1.out.1.trans (hb3.mono H1.out.1.size),hg3,below_blk hb3 H1.out.2,blk_lt H1.out.2⟩;rw [thc_lt]at hst;clear hb3 hg3 H1;have c0:w3.cell? ⟨w.heap.size,0,none⟩=some (.int .i64 how):=by rw [cell_blk H3.out.2.2.1];rfl
 have l3:=loadWhat_blk H3.out.2.1 rfl;rw [thc_lt]at l3;have HT1:=(show Hid (Tw2 w3 p q M F G 14 #[.pointer (some ⟨p,0,none⟩),.agg (wr k0 sd 0 0 0 0 0 0 0 false)] 15 #[.pointer (some ⟨q,0,none⟩),.agg (thc (lt k0 sd 0 0 0 0 0 0 0 false))])from HT.out w3 H3.out.1);clear HT
 go_wp2_with fail
 refine Calls.mono HT1.out ?_;rintro e w5 ⟨x,y,rfl,hk5,hn5⟩;have hB5:=(hk5.block _ (blk_lt H3.out.2.1) (fun h=>by have:=HFl.out _ h;have:=H3.out.2.2.2;omega)).trans H3.out.2.1;have HN:=(show Hid (∀ w',Bl w5 w'->Calls Tryz.prog 15 #[.pointer (some ⟨q,0,none⟩),.agg (thc (lt k0 sd 0 0 0 0 0 0 0 false))] w' fun e w6=>e=.returned (.tuple #[.int .i64 x,.int .i64 y])/\TStep w3 p q M F G w6)from hn5);have l5:=loadWhat_blk hB5 rfl;rw [thc_lt]at l5;clear hk5 hn5 HT1 hB5 c0 c1 c4 l3 hst
 go_wp2_with fail
 refine Calls.mono (HN.out w5 (Below.refl _ _)) ?_;rintro e w6 ⟨rfl,hS6⟩;have H6:Hid (TStep w p q M F G w6):=hS6.of_below H3.out.1;clear hS6 HN H3 l5
 go_wp2_with fail
 go_ret
 exact⟨rfl,H6.out⟩
theorem lays_9 (S:TS w p q M F G) (hl:M.last+2≤100000) (sd qq n:Int) {r:Int} (hr:(Lit.int .i64 r).wf=true):Calls Tryz.prog 129 #[.pointer (some ⟨p,0,none⟩),.pointer (some ⟨q,0,none⟩),.agg #[.int .i64 9,.int .i64 sd,.int .i64 r,.int .i64 qq,.int .i64 n]] w fun e w'=>e=.returned (.bool true)/\TStep w p q M F G w':=by
 have HFl:Hid (∀ b,F b\/G b->b<w.heap.size):=fun b hb=>hb.elim (S.W.lt b) (S.R.lt b);obtain⟨k0,hk⟩:∃ k,k=IntKind.u8.wrap n:=⟨_,rfl⟩;have hk2:0≤k0/\k0≤255:=by rw [hk];simp [IntKind.wrap,IntKind.signed,IntKind.bits];omega
 have hwk:IntKind.u8.wrap n=k0:=hk.symm;have HT:Hid (∀ w',Bl w w'->Tw2 w' p q M F G 130 #[.pointer (some ⟨p,0,none⟩),.int .i64 r,.int .u8 1] 136 #[.pointer (some ⟨q,0,none⟩),.int .i64 r,.int .u8 1]):=fun w' hb=>facet2 (S.below hb) hl hr;clear S hl hk hk2 hr;have H1:Hid (Bl w (w.alloc (.cells #[.int .i64 9,.int .i64 sd,.int .i64 r,.int .i64 qq,.int .i64 n] 72))/\(w.alloc (.cells #[.int .i64 9,.int .i64 sd,.int .i64 r,.int .i64 qq,.int .i64 n] 72)).heap[w.heap.size]? = some (.cells #[.int .i64 9,.int .i64 sd,.int .i64 r,.int .i64 qq,.int .i64 n] 72 (0,0))):=⟨(Below.refl _ w).alloc (Nat.le_refl _) _,blk_new _ _⟩
 go_enter Tryz.func129,Tryz.ntmps129
 go_upto_region 1 with fail
 revert H1;generalize w.alloc _=w1;intro H1;have c1:w1.cell? ⟨w.heap.size,1,none⟩=some (.int .i64 sd):=by rw [cell_blk H1.out.2];rfl
 have c4:w1.cell? ⟨w.heap.size,4,none⟩=some (.int .i64 n):=by rw [cell_blk H1.out.2];rfl
 obtain⟨w3,hst,hb3,hg3,-⟩:=boxed_what' w1 (thc (lt k0 sd 0 0 0 0 0 0 0 false)) rfl (by rw [thc_lt];simp [go_sem]);have H3:Hid (Bl w w3/\w3.heap[w1.heap.size]? = some (.cells (thc (lt k0 sd 0 0 0 0 0 0 0 false)) 46 (0,0))/\w3.heap[w.heap.size]? = some (.cells #[.int .i64 9,.int .i64 sd,.int .i64 r,.int .i64 qq,.int .i64 n] 72 (0,0))/\w.heap.size<w1.heap.size):=⟨H1.out.1.trans (hb3.mono H1.out.1.size),hg3,below_blk hb3 H1.out.2,blk_lt H1.out.2⟩;rw [thc_lt]at hst;clear hb3 hg3 H1;have c0:w3.cell? ⟨w.heap.size,0,none⟩=some (.int .i64 9):=by rw [cell_blk H3.out.2.2.1];rfl
 have c2:w3.cell? ⟨w.heap.size,2,none⟩=some (.int .i64 r):=by rw [cell_blk H3.out.2.2.1];rfl
 have HT1:=(show Hid (Tw2 w3 p q M F G 130 #[.pointer (some ⟨p,0,none⟩),.int .i64 r,.int .u8 1] 136 #[.pointer (some ⟨q,0,none⟩),.int .i64 r,.int .u8 1])from HT.out w3 H3.out.1);clear HT
 go_wp2_with fail
 refine Calls.mono HT1.out ?_;rintro e w5 ⟨x,y,rfl,hk5,hn5⟩;have hB5:=(hk5.block _ (blk_lt H3.out.2.2.1) (fun h=>by have:=HFl.out _ h;omega)).trans H3.out.2.2.1;have HN:=(show Hid (∀ w',Bl w5 w'->Calls Tryz.prog 136 #[.pointer (some ⟨q,0,none⟩),.int .i64 r,.int .u8 1] w' fun e w6=>e=.returned (.tuple #[.int .i64 x,.int .i64 y])/\TStep w3 p q M F G w6)from hn5);clear hk5 hn5 HT1 c0 c1 c2 c4 hst;have c2:w5.cell? ⟨w.heap.size,2,none⟩=some (.int .i64 r):=by rw [cell_blk hB5];rfl
 clear hB5
 go_wp2_with fail
 refine Calls.mono (HN.out w5 (Below.refl _ _)) ?_;rintro e w6 ⟨rfl,hS6⟩;have H6:Hid (TStep w p q M F G w6):=hS6.of_below H3.out.1;clear hS6 HN H3 c2
 go_wp2_with fail
 go_ret
 exact⟨rfl,H6.out⟩
theorem lays_8 (S:TS w p q M F G) (hl:M.last+2≤100000) (sd n:Int) {r qq:Int} (hr:(Lit.int .i64 r).wf=true) (hqq:(Lit.int .i64 qq).wf=true):Calls Tryz.prog 129 #[.pointer (some ⟨p,0,none⟩),.pointer (some ⟨q,0,none⟩),.agg #[.int .i64 8,.int .i64 sd,.int .i64 r,.int .i64 qq,.int .i64 n]] w fun e w'=>e=.returned (.bool true)/\TStep w p q M F G w':=by
 have HFl:Hid (∀ b,F b\/G b->b<w.heap.size):=fun b hb=>hb.elim (S.W.lt b) (S.R.lt b);obtain⟨k0,hk⟩:∃ k,k=IntKind.u8.wrap n:=⟨_,rfl⟩;have hk2:0≤k0/\k0≤255:=by rw [hk];simp [IntKind.wrap,IntKind.signed,IntKind.bits];omega
 have hwk:IntKind.u8.wrap n=k0:=hk.symm;have HT:Hid (∀ w',Bl w w'->Tw2 w' p q M F G 14 #[.pointer (some ⟨p,0,none⟩),.agg (thc (gateT sd r qq))] 15 #[.pointer (some ⟨q,0,none⟩),.agg (thc (gateT sd r qq))]):=fun w' hb=>gate2 (S.below hb) hl hr hqq;clear S hl hk hk2 hr hqq;have H1:Hid (Bl w (w.alloc (.cells #[.int .i64 8,.int .i64 sd,.int .i64 r,.int .i64 qq,.int .i64 n] 72))/\(w.alloc (.cells #[.int .i64 8,.int .i64 sd,.int .i64 r,.int .i64 qq,.int .i64 n] 72)).heap[w.heap.size]? = some (.cells #[.int .i64 8,.int .i64 sd,.int .i64 r,.int .i64 qq,.int .i64 n] 72 (0,0))):=⟨(Below.refl _ w).alloc (Nat.le_refl _) _,blk_new _ _⟩
 go_enter Tryz.func129,Tryz.ntmps129
 go_upto_region 1 with fail
 revert H1;generalize w.alloc _=w1;intro H1;have c1:w1.cell? ⟨w.heap.size,1,none⟩=some (.int .i64 sd):=by rw [cell_blk H1.out.2];rfl
 have c4:w1.cell? ⟨w.heap.size,4,none⟩=some (.int .i64 n):=by rw [cell_blk H1.out.2];rfl
 obtain⟨w3,hst,hb3,hg3,-⟩:=boxed_what' w1 (thc (lt k0 sd 0 0 0 0 0 0 0 false)) rfl (by rw [thc_lt];simp [go_sem]);have H3:Hid (Bl w w3/\w3.heap[w1.heap.size]? = some (.cells (thc (lt k0 sd 0 0 0 0 0 0 0 false)) 46 (0,0))/\w3.heap[w.heap.size]? = some (.cells #[.int .i64 8,.int .i64 sd,.int .i64 r,.int .i64 qq,.int .i64 n] 72 (0,0))/\w.heap.size<w1.heap.size):=⟨H1.out.1.trans (hb3.mono H1.out.1.size),hg3,below_blk hb3 H1.out.2,blk_lt H1.out.2⟩;rw [thc_lt]at hst;clear hb3 hg3 H1;have c0:w3.cell? ⟨w.heap.size,0,none⟩=some (.int .i64 8):=by rw [cell_blk H3.out.2.2.1];rfl
 have c1:w3.cell? ⟨w.heap.size,1,none⟩=some (.int .i64 sd):=by rw [cell_blk H3.out.2.2.1];rfl
 have c2:w3.cell? ⟨w.heap.size,2,none⟩=some (.int .i64 r):=by rw [cell_blk H3.out.2.2.1];rfl
 have c3:w3.cell? ⟨w.heap.size,3,none⟩=some (.int .i64 qq):=by rw [cell_blk H3.out.2.2.1];rfl
 have hst2:=storeWhat_blk (c':=(thc (gateT sd r qq))) H3.out.2.1 rfl rfl (by rw [thc_lt];simp [go_sem])
 have H4:Hid (∀ w4,w4=w3.setRow w1.heap.size (thc (gateT sd r qq))->Bl w w4/\w4.heap[w1.heap.size]? = some (.cells (thc (gateT sd r qq)) 46 (0,0))):=fun w4 e=>by
  subst e;exact⟨H3.out.1.trans ((setRow_keeps w3 w1.heap.size (thc (gateT sd r qq))).below H3.out.1.size fun b e=>by rw [e];exact Nat.le_of_lt H3.out.2.2.2),heap_setRow_at H3.out.2.1⟩
 rw [thc_lt]at hst2
 go_upto_region 15 with fail
 revert H4;rw [thc_lt];generalize hw4:w3.setRow _ _=w4;intro H4;have H5:Hid (Bl w w4/\w4.heap[w1.heap.size]? = some (.cells (thc (gateT sd r qq)) 46 (0,0))/\w.heap.size<w1.heap.size):=⟨(H4.out w4 rfl).1,(H4.out w4 rfl).2,H3.out.2.2.2⟩;clear H4 hw4 hst hst2 c0 c1 c2 c3 c4 H3;have l3:=loadWhat_blk H5.out.2.1 rfl;rw [thc_lt]at l3;have HT1:=(show Hid (Tw2 w4 p q M F G 14 #[.pointer (some ⟨p,0,none⟩),.agg (thc (gateT sd r qq))] 15 #[.pointer (some ⟨q,0,none⟩),.agg (thc (gateT sd r qq))])from HT.out w4 H5.out.1);clear HT
 go_wp2_with fail
 refine Calls.mono HT1.out ?_;rintro e w5 ⟨x,y,rfl,hk5,hn5⟩;have hB5:=(hk5.block _ (blk_lt H5.out.2.1) (fun h=>by have:=HFl.out _ h;have:=H5.out.2.2;omega)).trans H5.out.2.1;have HN:=(show Hid (∀ w',Bl w5 w'->Calls Tryz.prog 15 #[.pointer (some ⟨q,0,none⟩),.agg (thc (gateT sd r qq))] w' fun e w6=>e=.returned (.tuple #[.int .i64 x,.int .i64 y])/\TStep w4 p q M F G w6)from hn5);have l5:=loadWhat_blk hB5 rfl;rw [thc_lt]at l5;clear hk5 hn5 HT1 hB5 l3
 go_wp2_with fail
 refine Calls.mono (HN.out w5 (Below.refl _ _)) ?_;rintro e w6 ⟨rfl,hS6⟩;have H6:Hid (TStep w p q M F G w6):=hS6.of_below H5.out.1;clear hS6 HN H5 l5
 go_wp2_with fail
 go_ret
 exact⟨rfl,H6.out⟩
def DtP (B0 B5 p q:Nat) (r x:Int) (s j:Nat) (v:Value) (wx:World):Prop :=
 match j with
 | 0=>v=.pointer (some ⟨p,0,none⟩)
 | 1=>v=.pointer (some ⟨B5,2,none⟩)
 | 2=>v=.int .i64 r
 | 3=>∃ g,v=.slice (some ⟨g,0,none⟩) 1 1/\(s<2->B0≤g/\wx.heap[g]? = some (.cells #[.int .i64 r] 25 (0,0)))
 | 4=>v=.int .i64 x
 | 5=>v=.pointer (some ⟨q,0,none⟩)
 | 6=>v=.pointer (some ⟨B5,2,none⟩)
 | 7=>v=.int .i64 r
 | 8=>∃ g,v=.slice (some ⟨g,0,none⟩) 1 1/\(s<2->B0≤g/\wx.heap[g]? = some (.cells #[.int .i64 r] 25 (0,0)))
 | 9=>v=.int .i64 x
 | _=>True
theorem DtP.stab {B0 B5 p q:Nat} {r x:Int}:∀ (s j:Nat) (v:Value) (w w':World),Bl w w'->DtP B0 B5 p q r x s j v w->DtP B0 B5 p q r x s j v w':=by
 intro s j v w w' hR h;unfold DtP at h ⊢;split at h
 ·exact h
 ·exact h
 ·exact h
 ·obtain⟨g,h1,h2⟩:=h;exact⟨g,h1,fun hs=>⟨(h2 hs).1,below_blk hR (h2 hs).2⟩⟩
 ·exact h
 ·exact h
 ·exact h
 ·exact h
 ·obtain⟨g,h1,h2⟩:=h;exact⟨g,h1,fun hs=>⟨(h2 hs).1,below_blk hR (h2 hs).2⟩⟩
 ·exact h
 ·trivial
theorem DtP.turn1 {B0 B5 p q:Nat} {r x:Int}:∀ (j:Nat) (v:Value) (w w':World),j≠4->(∀ g o,B0≤g->w.heap[g]? = some o->w'.heap[g]? = some o)->DtP B0 B5 p q r x 0 j v w->DtP B0 B5 p q r x 1 j v w':=by
 intro j v w w' hne hk h;unfold DtP at h ⊢;split at h
 ·exact h
 ·exact h
 ·exact h
 ·obtain⟨g,h1,h2⟩:=h;have h2:=h2 (by decide);exact⟨g,h1,fun _=>⟨h2.1,hk g _ h2.1 h2.2⟩⟩
 ·exact absurd rfl hne
 ·exact h
 ·exact h
 ·exact h
 ·obtain⟨g,h1,h2⟩:=h;have h2:=h2 (by decide);exact⟨g,h1,fun _=>⟨h2.1,hk g _ h2.1 h2.2⟩⟩
 ·exact h
 ·trivial
theorem DtP.turn2 {B0 B5 p q:Nat} {r x:Int}:∀ (j:Nat) (v:Value) (w w':World),j≠9->DtP B0 B5 p q r x 1 j v w->DtP B0 B5 p q r x 2 j v w':=by
 intro j v w w' hne h;unfold DtP at h ⊢;split at h
 ·exact h
 ·exact h
 ·exact h
 ·obtain⟨g,h1,-⟩:=h;exact⟨g,h1,fun h=>absurd h (by decide)⟩
 ·exact h
 ·exact h
 ·exact h
 ·exact h
 ·obtain⟨g,h1,-⟩:=h;exact⟨g,h1,fun h=>absurd h (by decide)⟩
 ·exact absurd rfl hne
 ·trivial
theorem lays_11 (S:TS w p q M F G) (hl:M.last+2≤100000) (sd qq n:Int) {r:Int} (hr:(Lit.int .i64 r).wf=true):Calls Tryz.prog 129 #[.pointer (some ⟨p,0,none⟩),.pointer (some ⟨q,0,none⟩),.agg #[.int .i64 11,.int .i64 sd,.int .i64 r,.int .i64 qq,.int .i64 n]] w fun e w'=>e=.returned (.bool true)/\TStep w p q M F G w':=by
 have HFl:Hid (∀ b,F b\/G b->b<w.heap.size):=fun b hb=>hb.elim (S.W.lt b) (S.R.lt b);obtain⟨k0,hk⟩:∃ k,k=IntKind.u8.wrap n:=⟨_,rfl⟩;have hk2:0≤k0/\k0≤255:=by rw [hk];simp [IntKind.wrap,IntKind.signed,IntKind.bits];omega
 have hwk:IntKind.u8.wrap n=k0:=hk.symm;obtain⟨x,hx⟩:=dropT2 (p:=p) (q:=q) (F:=F) (G:=G) S.tp hl hr;have HT:Hid (∀ w',Bl w w'->DropT x w' p q M F G r):=fun w' hb=>hx w' (S.below hb);clear S hl hr hx hk hk2;have H1:Hid (Bl w (w.alloc (.cells #[.int .i64 11,.int .i64 sd,.int .i64 r,.int .i64 qq,.int .i64 n] 72))/\(w.alloc (.cells #[.int .i64 11,.int .i64 sd,.int .i64 r,.int .i64 qq,.int .i64 n] 72)).heap[w.heap.size]? = some (.cells #[.int .i64 11,.int .i64 sd,.int .i64 r,.int .i64 qq,.int .i64 n] 72 (0,0))):=⟨(Below.refl _ w).alloc (Nat.le_refl _) _,blk_new _ _⟩
 go_enter Tryz.func129,Tryz.ntmps129
 go_upto_region 1 with fail
 revert H1;generalize w.alloc _=w1;intro H1;have c1:w1.cell? ⟨w.heap.size,1,none⟩=some (.int .i64 sd):=by rw [cell_blk H1.out.2];rfl
 have c4:w1.cell? ⟨w.heap.size,4,none⟩=some (.int .i64 n):=by rw [cell_blk H1.out.2];rfl
 obtain⟨w3,hst,hb3,hg3,-⟩:=boxed_what' w1 (thc (lt k0 sd 0 0 0 0 0 0 0 false)) rfl (by rw [thc_lt];simp [go_sem]);have H3:Hid (Bl w w3/\w3.heap[w1.heap.size]? = some (.cells (thc (lt k0 sd 0 0 0 0 0 0 0 false)) 46 (0,0))/\w3.heap[w.heap.size]? = some (.cells #[.int .i64 11,.int .i64 sd,.int .i64 r,.int .i64 qq,.int .i64 n] 72 (0,0))/\w.heap.size<w1.heap.size):=⟨H1.out.1.trans (hb3.mono H1.out.1.size),hg3,below_blk hb3 H1.out.2,blk_lt H1.out.2⟩;rw [thc_lt]at hst;clear hb3 hg3 H1;have c0:w3.cell? ⟨w.heap.size,0,none⟩=some (.int .i64 11):=by rw [cell_blk H3.out.2.2.1];rfl
 have c2:w3.cell? ⟨w.heap.size,2,none⟩=some (.int .i64 r):=by rw [cell_blk H3.out.2.2.1];rfl
 have HC:Hid (w3.cell? ⟨w.heap.size,2,none⟩=some (.int .i64 r)):=c2;clear c2;obtain⟨B5,hB5⟩:∃ B,B=w.heap.size:=⟨_,rfl⟩;have HB5:Hid (w.heap.size≤B5/\B5≤w.heap.size):=by show _/\_;omega
 go_upto_region 14 with fail
 rw [<- hB5]at HC ⊢;clear c0 c1 c4 hst hB5;obtain⟨B0,hB0⟩:∃ B,B=B5:=⟨_,rfl⟩;have HB0:Hid (w.heap.size≤B0/\B0≤w3.heap.size):=by have:=HB5.out;have:=H3.out.1.size;show _/\_;omega
 clear hB0;refine wp_region_twoK 10 4 9 (by kernel_rfl) rfl (by kernel_rfl) (by kernel_rfl) (by kernel_rfl) (fun a b=>Bl a b) (DtP B0 B5 p q r x) (TwC w w3 (KDT x w p q M F G r) (TStep w p q M F G)) DtP.stab (TwC.start H3.out.1) (TwC.stay (fun a b hb hk w'' hb2=>hk w'' (hb.trans (hb2.mono hb.size))) fun a b hb h=>h.below hb) ?_ ?_ ?_ ?_ ?_
 ·exact fun _ _ _ _ _ h1 h2=>noGuard (by kernel_rfl) h1 h2
 ·intro s j q a w7 hne1 hne2 hq hC hG;have hj:j<10:=(List.getElem?_eq_some_iff.1 hq).1
  match j,hj with
  | 0,_=>cases hq;have h0':a.tmps[0]?.getD undef=.pointer (some ⟨p,0,none⟩):=gq (hG.fr 0 (by simp));unfold Oper.wp;simp [go_sem,Act.eval,h0'];exact⟨_,rfl,Below.refl _ _,rfl⟩
  | 1,_=>cases hq;have h5':a.tmps[5]?.getD undef=.pointer (some ⟨B5,0,none⟩):=gq (hG.fr 5 (by simp));unfold Oper.wp;simp [go_sem,Act.eval,h5'];exact⟨_,rfl,Below.refl _ _,rfl⟩
  | 2,_ =>
    cases hq;have h89':a.tmps[89]?.getD undef=_:=gq (hG.dep ⟨1,.data⟩ (by simp) rfl _ rfl);have c3:w7.cell? ⟨B5,2,none⟩=some (.int .i64 r):=hC.cell HB5.out.1 HC.out;unfold Oper.wp;simp [go_sem,Act.eval,h89',c3];exact⟨_,rfl,Below.refl _ _,rfl⟩
  | 3,_ =>
    cases hq;have h90':a.tmps[90]?.getD undef=_:=gq (hG.dep ⟨2,.data⟩ (by simp) rfl _ rfl);have hB:B0≤w7.heap.size:=Nat.le_trans HB0.out.2 hC.2.1;unfold Oper.wp;simp [go_sem,Act.eval,h90'];exact⟨_,rfl,(Below.refl _ _).alloc (Nat.le_refl _) _,w7.heap.size,rfl,fun _=>⟨hB,blk_new _ _⟩⟩
  | 4,_=>exact absurd rfl hne1
  | 5,_=>cases hq;have h1':a.tmps[1]?.getD undef=.pointer (some ⟨q,0,none⟩):=gq (hG.fr 1 (by simp));unfold Oper.wp;simp [go_sem,Act.eval,h1'];exact⟨_,rfl,Below.refl _ _,rfl⟩
  | 6,_=>cases hq;have h5':a.tmps[5]?.getD undef=.pointer (some ⟨B5,0,none⟩):=gq (hG.fr 5 (by simp));unfold Oper.wp;simp [go_sem,Act.eval,h5'];exact⟨_,rfl,Below.refl _ _,rfl⟩
  | 7,_ =>
    cases hq;have h94':a.tmps[94]?.getD undef=_:=gq (hG.dep ⟨6,.data⟩ (by simp) rfl _ rfl);have c3:w7.cell? ⟨B5,2,none⟩=some (.int .i64 r):=hC.cell HB5.out.1 HC.out;unfold Oper.wp;simp [go_sem,Act.eval,h94',c3];exact⟨_,rfl,Below.refl _ _,rfl⟩
  | 8,_ =>
    cases hq;have h95':a.tmps[95]?.getD undef=_:=gq (hG.dep ⟨7,.data⟩ (by simp) rfl _ rfl);have hB:B0≤w7.heap.size:=Nat.le_trans HB0.out.2 hC.2.1;unfold Oper.wp;simp [go_sem,Act.eval,h95'];exact⟨_,rfl,(Below.refl _ _).alloc (Nat.le_refl _) _,w7.heap.size,rfl,fun _=>⟨hB,blk_new _ _⟩⟩
  | 9,_=>exact absurd rfl hne2
 ·intro q a w7 hq hC hG;cases hq;have h88':a.tmps[88]?.getD undef=_:=gq (hG.dep ⟨0,.data⟩ (by simp) rfl _ rfl);obtain⟨g91,h91,b91⟩:=hG.dep ⟨3,.data⟩ (by simp) rfl _ rfl;have h91':a.tmps[91]?.getD undef=.slice (some ⟨g91,0,none⟩) 1 1:=gq (h91);unfold Oper.wp;simp [go_sem,callFunc,Act.eval,Tryz.func105,h88',h91'];refine Calls.mono ((HT.out w7 hC.2.2).stage (by rw [cell_blk (b91 (by decide)).2];rfl) (blk_lt (b91 (by decide)).2) hC.2.2) ?_;rintro e w8 ⟨rfl,hk8,hn8⟩;exact⟨_,rfl,hC.one hk8 HFl.out hn8,rfl,fun j u hne h=>DtP.turn1 j u _ _ hne (fun g o hg ho=>(hk8.block g (Array.getElem?_eq_some_iff.1 ho).1 (fun e=>by have:=HFl.out g e;have:=HB0.out.1;omega)).trans ho) h⟩
 ·intro q a w7 hq hC hG;cases hq;have h93':a.tmps[93]?.getD undef=_:=gq (hG.dep ⟨5,.data⟩ (by simp) rfl _ rfl);obtain⟨g96,h96,b96⟩:=hG.dep ⟨8,.data⟩ (by simp) rfl _ rfl;have h96':a.tmps[96]?.getD undef=.slice (some ⟨g96,0,none⟩) 1 1:=gq (h96);unfold Oper.wp;simp [go_sem,callFunc,Act.eval,Tryz.func106,h93',h96'];refine Calls.mono (hC.2.2 w7 (Below.refl _ _) _ _ (by rw [cell_blk (b96 (by decide)).2];rfl) (blk_lt (b96 (by decide)).2)) ?_;rintro e w8 ⟨rfl,hS8,hk8⟩;exact⟨_,rfl,hC.two hk8 (fun b h=>HFl.out b (.inr h)) hS8,rfl,fun j u hne h=>DtP.turn2 j u _ _ hne h⟩
 ·intro a w7 hC hdf hsz hfr hphi;have e0:a.tmps.getD 88 undef=.pointer (some ⟨p,0,none⟩):=hphi 0 _ rfl;have e1:a.tmps.getD 89 undef=.pointer (some ⟨B5,2,none⟩):=hphi 1 _ rfl;have e2:a.tmps.getD 90 undef=.int .i64 r:=hphi 2 _ rfl;obtain⟨g91,e3,-⟩:=hphi 3 _ rfl;have e3:a.tmps.getD 91 undef=.slice (some ⟨g91,0,none⟩) 1 1:=e3;have e4:a.tmps.getD 92 undef=.int .i64 x:=hphi 4 _ rfl;have e5:a.tmps.getD 93 undef=.pointer (some ⟨q,0,none⟩):=hphi 5 _ rfl;have e6:a.tmps.getD 94 undef=.pointer (some ⟨B5,2,none⟩):=hphi 6 _ rfl;have e7:a.tmps.getD 95 undef=.int .i64 r:=hphi 7 _ rfl;obtain⟨g96,e8,-⟩:=hphi 8 _ rfl;have e8:a.tmps.getD 96 undef=.slice (some ⟨g96,0,none⟩) 1 1:=e8;have e9:a.tmps.getD 97 undef=.int .i64 x:=hphi 9 _ rfl;have ha:=act_of hdf hsz hfr;simp only [List.take_succ_cons,List.take_zero,List.filterMap_cons,List.filterMap_nil,List.foldl_cons,List.foldl_nil,List.setIfInBounds_toArray,List.set_cons_zero,List.set_cons_succ,e0,e1,e2,e3,e4,e5,e6,e7,e8,e9]at ha;clear hdf hsz hfr hphi e0 e1 e2 e3 e4 e5 e6 e7 e8 e9;subst ha;have HD:Hid (TStep w p q M F G w7):=hC.2.2;clear hC;refine⟨rfl,?_⟩;unfold Oper.wp;simp [execOp,go_sem,Act.eval,wpTailG];refine ‹∀ (a:Act) (w:World),Code.wp Tryz.prog _ _ a w->_› _ _ ?_
  go_wp2_with fail
  go_ret
  exact⟨rfl,HD.out⟩
theorem execOp_ldLtP77 (ρ:Operand->Value) (ty:TypeId) (pos:String) (af:Array Edge) (g:Option (Nat × Bool)) :
 execOp ρ { dst:=some 77,op:=.load 46 (.tmp 12),type:=ty,pos:=pos,after:=af,guard:=g } = ldW (ρ (.tmp 12)):=rfl
theorem execOp_ldLtP82 (ρ:Operand->Value) (ty:TypeId) (pos:String) (af:Array Edge) (g:Option (Nat × Bool)) :
 execOp ρ { dst:=some 82,op:=.load 46 (.tmp 12),type:=ty,pos:=pos,after:=af,guard:=g } = ldW (ρ (.tmp 12)):=rfl
def LtP (B5 p q:Nat) (r x k h n tg bi se:Int) (_ j:Nat) (v:Value) (_:World):Prop :=
 match j with
 | 0=>v=.bool true
 | 1=>v=.bool false
 | 2=>v=.bool false
 | 3=>v=.pointer (some ⟨p,0,none⟩)
 | 4=>v=.pointer (some ⟨B5,2,none⟩)
 | 5=>v=.int .i64 r
 | 6=>v=.agg (thc (lt k h 0 0 n 0 tg bi se false))
 | 7=>v=.int .i64 x
 | 8=>v=.pointer (some ⟨q,0,none⟩)
 | 9=>v=.pointer (some ⟨B5,2,none⟩)
 | 10=>v=.int .i64 r
 | 11=>v=.agg (thc (lt k h 0 0 n 0 tg bi se false))
 | 12=>v=.int .i64 x
 | _=>True
theorem LtP.stab {B5 p q:Nat} {r x k h n tg bi se:Int}:∀ (s j:Nat) (v:Value) (w w':World),Bl w w'->LtP B5 p q r x k h n tg bi se s j v w->LtP B5 p q r x k h n tg bi se s j v w':=by
 intro s j v w w' _ h;unfold LtP at h ⊢;split at h
 ·exact h
 ·exact h
 ·exact h
 ·exact h
 ·exact h
 ·exact h
 ·exact h
 ·exact h
 ·exact h
 ·exact h
 ·exact h
 ·exact h
 ·exact h
 ·trivial
theorem LtP.turn1 {B5 p q:Nat} {r x k h n tg bi se:Int}:∀ (j:Nat) (v:Value) (w w':World),j≠7->LtP B5 p q r x k h n tg bi se 0 j v w->LtP B5 p q r x k h n tg bi se 1 j v w':=by
 intro j v w w' hne h;unfold LtP at h ⊢;split at h
 ·exact h
 ·exact h
 ·exact h
 ·exact h
 ·exact h
 ·exact h
 ·exact h
 ·exact absurd rfl hne
 ·exact h
 ·exact h
 ·exact h
 ·exact h
 ·exact h
 ·trivial
theorem LtP.turn2 {B5 p q:Nat} {r x k h n tg bi se:Int}:∀ (j:Nat) (v:Value) (w w':World),j≠12->LtP B5 p q r x k h n tg bi se 1 j v w->LtP B5 p q r x k h n tg bi se 2 j v w':=by
 intro j v w w' hne h;unfold LtP at h ⊢;split at h
 ·exact h
 ·exact h
 ·exact h
 ·exact h
 ·exact h
 ·exact h
 ·exact h
 ·exact h
 ·exact h
 ·exact h
 ·exact h
 ·exact h
 ·exact absurd rfl hne
 ·trivial
theorem lays_10 (S:TS w p q M F G) (hl:M.last+2≤100000) (sd qq n:Int) {r:Int} (hr:(Lit.int .i64 r).wf=true):Calls Tryz.prog 129 #[.pointer (some ⟨p,0,none⟩),.pointer (some ⟨q,0,none⟩),.agg #[.int .i64 10,.int .i64 sd,.int .i64 r,.int .i64 qq,.int .i64 n]] w fun e w'=>e=.returned (.bool true)/\TStep w p q M F G w':=by
 have HFl:Hid (∀ b,F b\/G b->b<w.heap.size):=fun b hb=>hb.elim (S.W.lt b) (S.R.lt b);obtain⟨k0,hk⟩:∃ k,k=IntKind.u8.wrap n:=⟨_,rfl⟩;have hk2:0≤k0/\k0≤255:=by rw [hk];simp [IntKind.wrap,IntKind.signed,IntKind.bits];omega
 have hwk:IntKind.u8.wrap n=k0:=hk.symm;have hQ:=S.tp.q (by omega);have HAt:Hid (∀ w',Bl w w'->Calls Tryz.prog 47 #[.pointer (some ⟨q,0,none⟩),.int .i64 r] w' fun e w''=>e=.returned (.tuple #[.agg (thc (at7 M r)),.bool (M.at r).isSome])/\Bl w' w''):=fun w' hb=>at7_W (S.R.below hb) hQ.good.ok.len r fun y hy=>(hQ.good.ok.cell y hy).1;obtain⟨B,hB⟩:∃ B,B=(M.at r).isSome:=⟨_,rfl⟩
 obtain⟨k,h,n0,tg,bi,se,h7,hat⟩:∃ k h n tg bi se,at7 M r=lt k h 0 0 n 0 tg bi se false/\(B=true->M.at r=some (lt k h 0 0 n 0 tg bi se false)):=by
  rcases S.tp.at_lt r with ⟨e1,e2⟩ | ⟨k,h,n,tg,bi,se,e1,e2⟩
  ·exact⟨0,0,0,0,0,0,e2,fun e=>by rw [hB,e1]at e;cases e⟩
  ·exact⟨k,h,n,tg,bi,se,e2,fun _=>e1⟩
 have HT:Hid (B=true->∀ w',Bl w w'->Tw1 (layT k n) w' p q M F G 107 #[.pointer (some ⟨p,0,none⟩),.int .i64 r,.agg (wr k h 0 0 n 0 tg bi se false)] 108 #[.pointer (some ⟨q,0,none⟩),.int .i64 r,.agg (thc (lt k h 0 0 n 0 tg bi se false))]):=fun e w' hb=>layT2 (S.below hb) hl n hr (hat e);have HSb:Hid (∀ w',Bl w w'->TStep w p q M F G w'):=fun w' hb=>S.same hb;rw [<- hB,h7]at HAt;clear S hl hr hQ hB h7 hat hk hk2;have H1:Hid (Bl w (w.alloc (.cells #[.int .i64 10,.int .i64 sd,.int .i64 r,.int .i64 qq,.int .i64 n] 72))/\(w.alloc (.cells #[.int .i64 10,.int .i64 sd,.int .i64 r,.int .i64 qq,.int .i64 n] 72)).heap[w.heap.size]? = some (.cells #[.int .i64 10,.int .i64 sd,.int .i64 r,.int .i64 qq,.int .i64 n] 72 (0,0))):=⟨(Below.refl _ w).alloc (Nat.le_refl _) _,blk_new _ _⟩
 go_enter Tryz.func129,Tryz.ntmps129
 go_upto_region 1 with fail
 revert H1;generalize w.alloc _=w1;intro H1;have c1:w1.cell? ⟨w.heap.size,1,none⟩=some (.int .i64 sd):=by rw [cell_blk H1.out.2];rfl
 have c4:w1.cell? ⟨w.heap.size,4,none⟩=some (.int .i64 n):=by rw [cell_blk H1.out.2];rfl
 obtain⟨w2,hst,hb3,hg3,-⟩:=boxed_what' w1 (thc (lt k0 sd 0 0 0 0 0 0 0 false)) rfl (by rw [thc_lt];simp [go_sem]);have H2:Hid (Bl w w2/\w2.heap[w1.heap.size]? = some (.cells (thc (lt k0 sd 0 0 0 0 0 0 0 false)) 46 (0,0))/\w2.heap[w.heap.size]? = some (.cells #[.int .i64 10,.int .i64 sd,.int .i64 r,.int .i64 qq,.int .i64 n] 72 (0,0))/\w.heap.size<w1.heap.size):=⟨H1.out.1.trans (hb3.mono H1.out.1.size),hg3,below_blk hb3 H1.out.2,blk_lt H1.out.2⟩;rw [thc_lt]at hst;clear hb3 hg3 H1;have c0:w2.cell? ⟨w.heap.size,0,none⟩=some (.int .i64 10):=by rw [cell_blk H2.out.2.2.1];rfl
 have c2:w2.cell? ⟨w.heap.size,2,none⟩=some (.int .i64 r):=by rw [cell_blk H2.out.2.2.1];rfl
 go_wp2_with fail
 refine Calls.mono (HAt.out w2 H2.out.1) ?_;rintro e w4 ⟨rfl,hb4⟩;clear hst;obtain⟨w3,hst,hb3,hg3,-⟩:=boxed_what' w4 (thc (lt k h 0 0 n0 0 tg bi se false)) rfl (by rw [thc_lt];simp [go_sem]);have hb13:=hb4.trans (hb3.mono hb4.size);have H3:Hid (Bl w w3/\w3.heap[w4.heap.size]? = some (.cells (thc (lt k h 0 0 n0 0 tg bi se false)) 46 (0,0))/\w3.heap[w.heap.size]? = some (.cells #[.int .i64 10,.int .i64 sd,.int .i64 r,.int .i64 qq,.int .i64 n] 72 (0,0))/\w.heap.size≤w4.heap.size/\w.heap.size≠w4.heap.size):=⟨H2.out.1.trans (hb13.mono H2.out.1.size),hg3,below_blk hb13 H2.out.2.2.1,by have:=hb4.size;have:=H2.out.1.size;omega,by have:=hb4.size;have:=blk_lt H2.out.2.2.1;omega⟩;clear hb4 hb3 hg3 hb13 HAt H2 c0 c1 c2 c4;have c2:w3.cell? ⟨w.heap.size,2,none⟩=some (.int .i64 r):=by rw [cell_blk H3.out.2.2.1];rfl
 have c4:w3.cell? ⟨w.heap.size,4,none⟩=some (.int .i64 n):=by rw [cell_blk H3.out.2.2.1];rfl
 have f8:=frozen_blk H3.out.2.1 8;have k8:w3.cell? ⟨w4.heap.size,8,none⟩=some (.int .i64 n0):=by rw [cell_blk H3.out.2.1];rfl
 have hk4:=Keeps.setCell (S:=fun b=>b=w4.heap.size) w3 ⟨w4.heap.size,8,none⟩ (.int .i64 n) rfl
 have H4:Hid (∀ w5,w5=w3.setCell ⟨w4.heap.size,8,none⟩ (.int .i64 n)->Bl w w5/\w5.heap[w4.heap.size]? = some (.cells (thc (lt k h 0 0 n 0 tg bi se false)) 46 (0,0))/\w5.cell? ⟨w.heap.size,2,none⟩=some (.int .i64 r)):=fun w5 e=>by
  subst e;exact⟨H3.out.1.trans (hk4.below H3.out.1.size fun b e=>by rw [e];exact H3.out.2.2.2.1),blk_setCell H3.out.2.1 8 (.int .i64 n),by rw [cell_blk (blk_other H3.out.2.2.1 _ _ H3.out.2.2.2.2)];rfl⟩
 clear hk4
 go_upto_region 12 with fail
 clear f8 k8 c2 c4 hst;revert H4;generalize hw5:w3.setCell _ _=w5;intro H4;have H4:=(show Hid (Bl w w5/\w5.heap[w4.heap.size]? = some (.cells (thc (lt k h 0 0 n 0 tg bi se false)) 46 (0,0))/\w5.cell? ⟨w.heap.size,2,none⟩=some (.int .i64 r))from H4.out w5 rfl);clear hw5
 cases B with
 | false =>
   clear HT H3
   go_wp2_with fail
   go_quiet (fail)
   have H6:Hid (TStep w p q M F G (w5.drewN nq)):=HSb.out _ (H4.out.1.trans ⟨rfl,rfl,rfl,Nat.le_refl _,fun _ _=>rfl⟩);clear H4 HSb
   go_wp2_with fail
   go_ret
   exact⟨rfl,H6.out⟩
 | true =>
   have HT2:=(show Hid (∀ w',Bl w w'->Tw1 (layT k n) w' p q M F G 107 #[.pointer (some ⟨p,0,none⟩),.int .i64 r,.agg (wr k h 0 0 n 0 tg bi se false)] 108 #[.pointer (some ⟨q,0,none⟩),.int .i64 r,.agg (thc (lt k h 0 0 n 0 tg bi se false))])from HT.out rfl);clear HSb HT;obtain⟨x,hx⟩:∃ x,x=layT k n:=⟨_,rfl⟩;rw [<- hx]at HT2;clear hx;obtain⟨B5,hB5⟩:∃ B,B=w.heap.size:=⟨_,rfl⟩;obtain⟨B6,hB6⟩:∃ B,B=w4.heap.size:=⟨_,rfl⟩;have HC:Hid (w5.cell? ⟨B5,2,none⟩=some (.int .i64 r)/\w.heap.size≤B5):=⟨by rw [hB5];exact H4.out.2.2,by omega⟩;have HW:Hid (w5.heap[B6]? = some (.cells (thc (lt k h 0 0 n 0 tg bi se false)) 46 (0,0))/\w.heap.size≤B6):=⟨by rw [hB6];exact H4.out.2.1,by rw [hB6];exact H3.out.2.2.2.1⟩;have HB4:Hid (Bl w w5):=H4.out.1;clear H4 H3;rw [<- hB5,← hB6];clear hB5 hB6;refine wp_region_twoK 13 7 12 (by kernel_rfl) rfl (by kernel_rfl) (by kernel_rfl) (by kernel_rfl) (fun a b=>Bl a b) (LtP B5 p q r x k h n tg bi se) (TwC w w5 (KT x w p q M F G 108 #[.pointer (some ⟨q,0,none⟩),.int .i64 r,.agg (thc (lt k h 0 0 n 0 tg bi se false))]) (TStep w p q M F G)) LtP.stab (TwC.start HB4.out) TwC.stayK ?_ ?_ ?_ ?_ ?_
   ·intro p j q g b hq hgd;have hj:j<13:=(List.getElem?_eq_some_iff.1 hq).1
    match j,hj with
    | 0,_=>cases hq;cases hgd
    | 1,_=>cases hq;cases hgd
    | 2,_=>cases hq;cases hgd
    | 3,_=>cases hq;cases hgd;exact fun v w h=>h
    | 4,_=>cases hq;cases hgd;exact fun v w h=>h
    | 5,_=>cases hq;cases hgd;exact fun v w h=>h
    | 6,_=>cases hq;cases hgd;exact fun v w h=>h
    | 7,_=>cases hq;cases hgd;exact fun v w h=>h
    | 8,_=>cases hq;cases hgd;exact fun v w h=>h
    | 9,_=>cases hq;cases hgd;exact fun v w h=>h
    | 10,_=>cases hq;cases hgd;exact fun v w h=>h
    | 11,_=>cases hq;cases hgd;exact fun v w h=>h
    | 12,_=>cases hq;cases hgd;exact fun v w h=>h
   ·intro s j q a w7 hne1 hne2 hq hC hG;have hj:j<13:=(List.getElem?_eq_some_iff.1 hq).1
    match j,hj with
    | 0,_=>cases hq;have h13':a.tmps[13]?.getD undef=.bool true:=gq (hG.fr 13 (by simp));unfold Oper.wp;simp [go_sem,Act.eval,h13'];exact⟨_,rfl,Below.refl _ _,rfl⟩
    | 1,_=>cases hq;have h71':a.tmps[71]?.getD undef=_:=gq (hG.dep ⟨0,.data⟩ (by simp) rfl _ rfl);unfold Oper.wp;simp [go_sem,Act.eval,h71'];exact⟨_,rfl,Below.refl _ _,rfl⟩
    | 2,_=>cases hq;have h72':a.tmps[72]?.getD undef=_:=gq (hG.dep ⟨1,.data⟩ (by simp) rfl _ rfl);unfold Oper.wp;simp [go_sem,Act.eval,h72'];exact⟨_,rfl,Below.refl _ _,rfl⟩
    | 3,_=>cases hq;have h0':a.tmps[0]?.getD undef=.pointer (some ⟨p,0,none⟩):=gq (hG.fr 0 (by simp));unfold Oper.wp;simp [go_sem,Act.eval,h0'];exact⟨_,rfl,Below.refl _ _,rfl⟩
    | 4,_=>cases hq;have h5':a.tmps[5]?.getD undef=.pointer (some ⟨B5,0,none⟩):=gq (hG.fr 5 (by simp));unfold Oper.wp;simp [go_sem,Act.eval,h5'];exact⟨_,rfl,Below.refl _ _,rfl⟩
    | 5,_ =>
      cases hq;have h75':a.tmps[75]?.getD undef=_:=gq (hG.dep ⟨4,.data⟩ (by simp) rfl _ rfl);have c3:w7.cell? ⟨B5,2,none⟩=some (.int .i64 r):=hC.cell HC.out.2 HC.out.1;unfold Oper.wp;simp [go_sem,Act.eval,h75',c3];exact⟨_,rfl,Below.refl _ _,rfl⟩
    | 6,_ =>
      cases hq;have h12:a.tmps.getD 12 undef=.pointer (some ⟨B6,0,none⟩):=hG.fr 12 (by simp);refine step_g (.agg (thc (lt k h 0 0 n 0 tg bi se false))) ?_ (Below.refl _ _) rfl;rw [execOp_ldLtP77];show (ldW (a.tmps.getD 12 undef)).run _ _=_;rw [h12];exact loadWhat_blk ((hC.1 B6 HW.out.2 (blk_lt HW.out.1)).trans HW.out.1) rfl
    | 7,_=>exact absurd rfl hne1
    | 8,_=>cases hq;have h1':a.tmps[1]?.getD undef=.pointer (some ⟨q,0,none⟩):=gq (hG.fr 1 (by simp));unfold Oper.wp;simp [go_sem,Act.eval,h1'];exact⟨_,rfl,Below.refl _ _,rfl⟩
    | 9,_=>cases hq;have h5':a.tmps[5]?.getD undef=.pointer (some ⟨B5,0,none⟩):=gq (hG.fr 5 (by simp));unfold Oper.wp;simp [go_sem,Act.eval,h5'];exact⟨_,rfl,Below.refl _ _,rfl⟩
    | 10,_ =>
      cases hq;have h80':a.tmps[80]?.getD undef=_:=gq (hG.dep ⟨9,.data⟩ (by simp) rfl _ rfl);have c3:w7.cell? ⟨B5,2,none⟩=some (.int .i64 r):=hC.cell HC.out.2 HC.out.1;unfold Oper.wp;simp [go_sem,Act.eval,h80',c3];exact⟨_,rfl,Below.refl _ _,rfl⟩
    | 11,_ =>
      cases hq;have h12:a.tmps.getD 12 undef=.pointer (some ⟨B6,0,none⟩):=hG.fr 12 (by simp);refine step_g (.agg (thc (lt k h 0 0 n 0 tg bi se false))) ?_ (Below.refl _ _) rfl;rw [execOp_ldLtP82];show (ldW (a.tmps.getD 12 undef)).run _ _=_;rw [h12];exact loadWhat_blk ((hC.1 B6 HW.out.2 (blk_lt HW.out.1)).trans HW.out.1) rfl
    | 12,_=>exact absurd rfl hne2
   ·intro q a w7 hq hC hG;cases hq;have h74':a.tmps[74]?.getD undef=_:=gq (hG.dep ⟨3,.data⟩ (by simp) rfl _ rfl);have h76':a.tmps[76]?.getD undef=_:=gq (hG.dep ⟨5,.data⟩ (by simp) rfl _ rfl);have h77':a.tmps[77]?.getD undef=_:=gq (hG.dep ⟨6,.data⟩ (by simp) rfl _ rfl);unfold Oper.wp;simp [go_sem,callFunc,Act.eval,Tryz.func107,h74',h76',h77'];refine Calls.mono ((HT2.out w7 hC.2.2).stage hC.2.2) ?_;rintro e w8 ⟨rfl,hk8,hn8⟩;exact⟨_,rfl,hC.one hk8 HFl.out hn8,rfl,fun j u hne h=>LtP.turn1 j u _ _ hne h⟩
   ·intro q a w7 hq hC hG;cases hq;have h79':a.tmps[79]?.getD undef=_:=gq (hG.dep ⟨8,.data⟩ (by simp) rfl _ rfl);have h81':a.tmps[81]?.getD undef=_:=gq (hG.dep ⟨10,.data⟩ (by simp) rfl _ rfl);have h82':a.tmps[82]?.getD undef=_:=gq (hG.dep ⟨11,.data⟩ (by simp) rfl _ rfl);unfold Oper.wp;simp [go_sem,callFunc,Act.eval,Tryz.func108,h79',h81',h82'];refine Calls.mono (hC.2.2 w7 (Below.refl _ _)) ?_;rintro e w8 ⟨rfl,hS8,hk8⟩;exact⟨_,rfl,hC.two hk8 (fun b h=>HFl.out b (.inr h)) hS8,rfl,fun j u hne h=>LtP.turn2 j u _ _ hne h⟩
   ·intro a w7 hC hdf hsz hfr hphi;have e0:a.tmps.getD 71 undef=.bool true:=hphi 0 _ rfl;have e1:a.tmps.getD 72 undef=.bool false:=hphi 1 _ rfl;have e2:a.tmps.getD 73 undef=.bool false:=hphi 2 _ rfl;have e3:a.tmps.getD 74 undef=.pointer (some ⟨p,0,none⟩):=hphi 3 _ rfl;have e4:a.tmps.getD 75 undef=.pointer (some ⟨B5,2,none⟩):=hphi 4 _ rfl;have e5:a.tmps.getD 76 undef=.int .i64 r:=hphi 5 _ rfl;have e6:a.tmps.getD 77 undef=.agg (thc (lt k h 0 0 n 0 tg bi se false)):=hphi 6 _ rfl;have e7:a.tmps.getD 78 undef=.int .i64 x:=hphi 7 _ rfl;have e8:a.tmps.getD 79 undef=.pointer (some ⟨q,0,none⟩):=hphi 8 _ rfl;have e9:a.tmps.getD 80 undef=.pointer (some ⟨B5,2,none⟩):=hphi 9 _ rfl;have e10:a.tmps.getD 81 undef=.int .i64 r:=hphi 10 _ rfl;have e11:a.tmps.getD 82 undef=.agg (thc (lt k h 0 0 n 0 tg bi se false)):=hphi 11 _ rfl;have e12:a.tmps.getD 83 undef=.int .i64 x:=hphi 12 _ rfl;have ha:=act_of hdf hsz hfr;simp only [List.take_succ_cons,List.take_zero,List.filterMap_cons,List.filterMap_nil,List.foldl_cons,List.foldl_nil,List.setIfInBounds_toArray,List.set_cons_zero,List.set_cons_succ,e0,e1,e2,e3,e4,e5,e6,e7,e8,e9,e10,e11,e12]at ha;clear hdf hsz hfr hphi e0 e1 e2 e3 e4 e5 e6 e7 e8 e9 e10 e11 e12;subst ha;have HD:Hid (TStep w p q M F G w7):=hC.2.2;clear hC;refine⟨rfl,?_⟩;unfold Oper.wp;simp [execOp,go_sem,Act.eval,wpTailG];refine ‹∀ (a:Act) (w:World),Code.wp Tryz.prog _ _ a w->_› _ _ ?_
    go_wp2_with fail
    go_ret
    exact⟨rfl,HD.out⟩
theorem lays_any (S:TS w p q M F G) (hl:M.last+2≤100000) (how sd n:Int) {r qq:Int} (hr:(Lit.int .i64 r).wf=true) (hqq:(Lit.int .i64 qq).wf=true):Calls Tryz.prog 129 #[.pointer (some ⟨p,0,none⟩),.pointer (some ⟨q,0,none⟩),.agg #[.int .i64 how,.int .i64 sd,.int .i64 r,.int .i64 qq,.int .i64 n]] w fun e w'=>e=.returned (.bool true)/\TStep w p q M F G w':=by
 by_cases h8:how=8
 ·subst h8;exact lays_8 S hl sd n hr hqq
 by_cases h9:how=9
 ·subst h9;exact lays_9 S hl sd qq n hr
 by_cases h10:how=10
 ·subst h10;exact lays_10 S hl sd qq n hr
 by_cases h11:how=11
 ·subst h11;exact lays_11 S hl sd qq n hr
 exact lays_o S hl sd r qq n ⟨h8,h9,h10,h11⟩
end
section
variable {w:World} {p:Nat} {M:WM} {F:Nat->Prop}
theorem tMake_no (hW:IsW w p M F) {h r:Int} (hr:(Lit.int .i64 r).wf=true) (he:mayT M h r≠0) :
 Calls Tryz.prog 114 #[.pointer (some ⟨p,0,none⟩),.int .i64 h,.int .i64 r] w fun e w'=>e=.returned (.tuple #[.int .i64 0,.int .i64 0,.int .i64 (mayT M h r)])/\Bl w w':=by
 have HM:Hid (∀ w1,Bl w w1->Calls Tryz.prog 209 #[.pointer (some ⟨p,0,none⟩),.int .i64 h,.int .i64 r] w1 fun e w'=>e=.returned (.int .i64 (mayT M h r))/\w1=w'):=fun w1 hb=>tmayT_W (hW.below hb) hr;generalize mayT M h r=E at *;have heb:(E==0)=false:=by simpa using he
 have hen:(E != 0)=true:=by simpa using he
 clear hW he
 go_enter_defers Tryz.func114,Tryz.ntmps114
 go_wp2_with fail
 obtain⟨hb4,q3,q6,q7,q8,hs4⟩:=four w (.cells #[.pointer (some ⟨p,0,none⟩)] 31) (.cells #[.int .i64 0] 25) (.cells #[.int .i64 0] 25) (.cells #[.int .i64 0] 32);revert hb4 q3 q6 q7 q8 hs4;generalize (((w.alloc _).alloc _).alloc _).alloc _=w4;intro hb4 q3 q6 q7 q8 hs4;have c3:w4.cell? ⟨w.heap.size,0,none⟩=some (.pointer (some ⟨p,0,none⟩)):=by rw [cell_blk q3];rfl
 have f8:w4.frozen? ⟨w.heap.size+3,0,none⟩=false:=frozen_blk q8 0;have c8:w4.cell? ⟨w.heap.size+3,0,none⟩=some (.int .i64 0):=by rw [cell_blk q8];rfl
 have c6:w4.cell? ⟨w.heap.size+1,0,none⟩=some (.int .i64 0):=by rw [cell_blk q6];rfl
 have f6:w4.frozen? ⟨w.heap.size+1,0,none⟩=false:=frozen_blk q6 0;have c7:w4.cell? ⟨w.heap.size+2,0,none⟩=some (.int .i64 0):=by rw [cell_blk q7];rfl
 have f7:w4.frozen? ⟨w.heap.size+2,0,none⟩=false:=frozen_blk q7 0;have HB4:=(show Hid (Bl w w4)from hb4);clear hb4 hs4
 go_wp2_with fail
 refine(HM.out w4 HB4.out).mono ?_;rintro e _ ⟨rfl,rfl⟩
 go_wp2_with fail
 have q6':=blk_other q6 ⟨w.heap.size+3,0,none⟩ (.int .i64 E) (by show w.heap.size+1≠w.heap.size+3;omega);have q7':=blk_other q7 ⟨w.heap.size+3,0,none⟩ (.int .i64 E) (by show w.heap.size+2≠w.heap.size+3;omega);have q8':=blk_setCell q8 0 (.int .i64 E);have HB8:Hid (Bl w (w4.setCell ⟨w.heap.size+3,0,none⟩ (.int .i64 E))):=HB4.out.setCell (p:=⟨w.heap.size+3,0,none⟩) (by show w.heap.size≤w.heap.size+3;omega) _;clear c3 f8 c8 c6 f6 c7 f7 q3 q6 q7 q8 HB4 HM;have e3:w.heap.size+1+1+1=w.heap.size+3:=by omega
 have e2:w.heap.size+1+1=w.heap.size+2:=by omega
 rw [e3,e2];revert q6' q7' q8' HB8;generalize w4.setCell _ _=w8;intro q6' q7' q8' HB8;have d8:w8.drew.cell? ⟨w.heap.size+3,0,none⟩=some (.int .i64 E):=(cell_blk q8' 0).trans rfl;have d6:w8.drew.cell? ⟨w.heap.size+1,0,none⟩=some (.int .i64 0):=(cell_blk q6' 0).trans rfl;have d7:w8.drew.cell? ⟨w.heap.size+2,0,none⟩=some (.int .i64 0):=(cell_blk q7' 0).trans rfl;have g8:w8.drew.frozen? ⟨w.heap.size+3,0,none⟩=false:=frozen_blk q8' 0;have g6:w8.drew.frozen? ⟨w.heap.size+1,0,none⟩=false:=frozen_blk q6' 0;have g7:w8.drew.frozen? ⟨w.heap.size+2,0,none⟩=false:=frozen_blk q7' 0;have b8:w8.cell? ⟨w.heap.size+3,0,none⟩=some (.int .i64 E):=d8;have b6:w8.cell? ⟨w.heap.size+1,0,none⟩=some (.int .i64 0):=d6;have b7:w8.cell? ⟨w.heap.size+2,0,none⟩=some (.int .i64 0):=d7;have h8:w8.frozen? ⟨w.heap.size+3,0,none⟩=false:=g8;have h6:w8.frozen? ⟨w.heap.size+1,0,none⟩=false:=g6;have h7:w8.frozen? ⟨w.heap.size+2,0,none⟩=false:=g7
 go_region
 all_goals go_wp2_with fail
 have hz3:(((w8.setCell ⟨w.heap.size+1,0,none⟩ (.int .i64 0)).setCell ⟨w.heap.size+2,0,none⟩ (.int .i64 0)).setCell ⟨w.heap.size+3,0,none⟩ (.int .i64 E))=w8:=by
  rw [setCell_same q6' rfl,setCell_same q7' rfl,setCell_same q8' rfl]
 rw [hz3];refine⟨.tuple #[.int .i64 0,.int .i64 0,.int .i64 E],?_,rfl,HB8.out.drew⟩;simp [results,Tryz.f114,go_sem,d6,d7,d8]
end
end Go.Proofs.YthaliljaglldjaaGreat
