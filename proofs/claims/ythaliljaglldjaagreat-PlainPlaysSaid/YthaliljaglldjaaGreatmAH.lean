/- Part of the proof. -/
import Derived.Test.YthaliljaglldjaaGreatmAG
namespace Go.Proofs.YthaliljaglldjaaGreat
open Go.RowKit
section
def bQ (P:Program) (Q:Exit->Act->World->Prop):List Oper->Act->World->Prop
 | [],a,w=>Q .normal a w
 | o :: rest,a,w=>o.wp P a w (bQ P Q rest) Q
theorem aC {A:Array Bool} {i:Nat} (h:i<A.size):(A.setIfInBounds i true).getD i false=true:=by
 simp [Array.getD_eq_getD_getElem?,h]
theorem qO (f:Nat->Value):∀ (ds:List Nat) (ts:Array Value),(ds.foldl (fun ts d=>ts.setIfInBounds d (f d)) ts).size=ts.size /\
 ∀ t,t<ts.size->(ds.foldl (fun ts d=>ts.setIfInBounds d (f d)) ts).getD t undef=if t ∈ ds then f t else ts.getD t undef
 | [],ts=>⟨rfl,fun t _=>by simp⟩
 | d :: ds,ts=>by
   obtain⟨h1,h2⟩:=qO f ds (ts.setIfInBounds d (f d));refine⟨by simpa using h1,fun t ht=>?_⟩;show (ds.foldl (fun ts d=>ts.setIfInBounds d (f d)) (ts.setIfInBounds d (f d))).getD t undef=_;rw [h2 t (by simpa using ht)]
   by_cases h:t ∈ ds
   ·simp [h]
   ·simp only [h,if_false,List.mem_cons,or_false]
    by_cases e:t=d
    ·subst e;simp [Array.getD_eq_getD_getElem?,ht]
    ·have e':¬ d=t:=fun h=>e h.symm;simp [e,Array.getD_eq_getD_getElem?,e']
theorem gq {a:Act} {i:Nat} {v:Value} (h:a.tmps.getD i undef=v):a.tmps[i]?.getD undef=v:=by rw [<- h];simp [Array.getD_eq_getD_getElem?]
theorem bC {L:List Oper} (h:L.all (·.guard.isNone)=true) {i:Nat} {o:Oper} {g:Nat} {b:Bool} {P:Prop} (h1:L[i]? = some o) (h2:o.guard=some (g,b)):P:=by
 have:=List.all_eq_true.1 h o (List.mem_of_getElem? h1);rw [h2]at this
 cases this
theorem bq {a a0:Act} {l:List Oper} (hdf:a.defers=a0.defers) (hsz:a.tmps.size=a0.tmps.size) (hfr:∀ t,(∀ oj ∈ l,oj.dst≠some t)->a.tmps.getD t undef=a0.tmps.getD t undef) :
 a = { tmps:=(l.filterMap (·.dst)).foldl (fun ts d=>ts.setIfInBounds d (a.tmps.getD d undef)) a0.tmps,defers:=a0.defers }:=by
 obtain⟨ts,ds⟩:=a;obtain⟨ts0,ds0⟩:=a0;simp only at hdf hsz hfr ⊢;subst hdf
 congr 1
 obtain⟨h1,h2⟩:=qO (fun d=>ts.getD d undef) (l.filterMap (·.dst)) ts0;refine Array.ext (by rw [h1,hsz]) fun i hi _=>?_;have key:=h2 i (by omega);have e1:ts.getD i undef=ts[i]:=by simp [Array.getD,hi]
 have e2:∀ (A:Array Value) (h:i<A.size),A.getD i undef=A[i]:=fun A h=>by simp [Array.getD,h]
 rw [e2 _ (by rw [h1];omega)]at key;rw [key,← e1]
 by_cases hm:i ∈ l.filterMap (·.dst)
 ·rw [if_pos hm]
 ·rw [if_neg hm];refine hfr i fun oj hoj e=>hm ?_;rw [List.mem_filterMap];exact⟨oj,hoj,e⟩
end
section
def ef (l:List Oper) (n:Nat):Bool :=
 (l.zipIdx.all fun x=>(match x.1.guard with | none=>true | some (g,_)=>x.1.after.any fun e=>e.on==g && Region.binds .any e) && (x.1.after.all fun e=>decide (e.on<x.2)) && (match x.1.dst with | some d=>decide (d<n) | none=>true)) &&
 (l.zipIdx.all fun x=>l.zipIdx.all fun y=>decide (x.2=y.2) || x.1.dst.isNone || decide (x.1.dst≠y.1.dst))
def aV (P:Program) (ops:Array Oper) (Q:Exit->Act->World->Prop):List Oper->Act->World->Prop
 | [],a,w=>Q .normal a w
 | o :: rest,a,w=>Region.wanted o (yielded ops a.tmps)=true/\o.wp P a w (aV P ops Q rest) Q
def chainB (n:Nat):Nat->List Oper->Bool
 | _,[]=>true
 | k,o :: rest=>(o.after.all fun e=>decide (e.on<n+k)) && (decide (k=0) || o.after.any fun e=>e.on==n+k - 1 && Region.binds .any e) && chainB n (k+1) rest
def jM (l:List Oper) (z:Oper):Bool :=
 (List.range l.length).all fun i=>(z.after.any fun e=>e.on==i && Region.binds .any e) || l.zipIdx.any fun x=>decide (i<x.2) && x.1.after.any fun e=>e.on==i && Region.binds .any e
theorem gw {l:List Oper} {n:Nat} (hB:ef l n=true) :
 (∀ (i:Nat) (o:Oper),l[i]? = some o->(∀ g b,o.guard=some (g,b)->∃ e ∈ o.after,e.on=g/\Region.binds .any e=true)/\(∀ e ∈ o.after,e.on<i)/\∀ d,o.dst=some d->d<n) /\
 (∀ (i j:Nat) (oi oj:Oper),i≠j->l[i]? = some oi->l[j]? = some oj->∀ d,oi.dst=some d->oj.dst≠some d):=by
 simp only [ef,Bool.and_eq_true]at hB;obtain⟨hB1,hB2⟩:=hB;refine⟨fun i o ho=>?_,fun i j oi oj hne hi hj d hd=>?_⟩
 ·have:=List.all_eq_true.1 hB1 (o,i) (List.mem_zipIdx_iff_getElem?.2 ho);simp only [Bool.and_eq_true,Array.all_eq_true_iff_forall_mem,decide_eq_true_eq]at this;obtain⟨⟨h1,h2⟩,h3⟩:=this;refine⟨fun g b hg=>?_,h2,fun d hd=>by rw [hd]at h3;simpa using h3⟩;rw [hg]at h1;obtain⟨j,hj,h⟩:=Array.any_eq_true.1 h1;simp only [Bool.and_eq_true,beq_iff_eq]at h;exact⟨_,Array.getElem_mem hj,h.1,h.2⟩
 ·have h1:=List.all_eq_true.1 hB2 (oi,i) (List.mem_zipIdx_iff_getElem?.2 hi);have h2:=List.all_eq_true.1 h1 (oj,j) (List.mem_zipIdx_iff_getElem?.2 hj);simp only [Bool.or_eq_true,decide_eq_true_eq,Option.isNone_iff_eq_none]at h2
  rcases h2 with (h2 | h2) | h2
  ·exact absurd h2 hne
  ·rw [hd]at h2;cases h2
  ·rw [hd]at h2;exact fun e=>h2 e.symm
theorem bu {n:Nat}:∀ {t:List Oper} {k j:Nat} {o:Oper},chainB n k t=true->t[j]? = some o->(∀ e ∈ o.after,e.on<n+(k+j))/\(k+j≠0->∃ e ∈ o.after,e.on=n+(k+j) - 1/\Region.binds .any e=true)
 | [],_,_,_,_,h=>by simp at h
 | z :: t,k,0,o,hB,h=>by
   cases h
   simp only [chainB,Bool.and_eq_true,Bool.or_eq_true,decide_eq_true_eq]at hB;obtain⟨⟨h2,h3⟩,-⟩:=hB;refine⟨fun e he=>?_,fun h0=>?_⟩
   ·rw [Array.all_eq_true_iff_forall_mem]at h2;have:=of_decide_eq_true (h2 e he);omega
   ·rcases h3 with h3 | h3
    ·omega
    ·obtain⟨j,hj,h⟩:=Array.any_eq_true.1 h3;simp only [Bool.and_eq_true,beq_iff_eq]at h;exact⟨_,Array.getElem_mem hj,h.1,h.2⟩
 | z :: t,k,j+1,o,hB,h=>by
   simp only [chainB,Bool.and_eq_true]at hB;have:=bu (j:=j) hB.2 (by simpa using h);have e:k+1+j=k+(j+1):=by omega
   rwa [e]at this
theorem gO {l:List Oper} {z:Oper} (h:jM l z=true) {A:Array Bool} (hz:∀ e ∈ z.after,Region.binds .any e=true->A.getD e.on false=true)
 (hd:∀ (i:Nat) (o:Oper),l[i]? = some o->A.getD i false=true->∀ e ∈ o.after,Region.binds .any e=true->A.getD e.on false=true):∀ i,i<l.length->A.getD i false=true:=by
 have key:∀ m i,i<l.length->l.length - i≤m->A.getD i false=true:=by
  intro m
  induction m with
  | zero=>intro i hi hm;omega
  | succ m ih =>
    intro i hi hm;have:=List.all_eq_true.1 h i (List.mem_range.2 hi);simp only [Bool.or_eq_true]at this
    rcases this with h1 | h1
    ·obtain⟨j,hj,h2⟩:=Array.any_eq_true.1 h1;simp only [Bool.and_eq_true,beq_iff_eq]at h2;have:=hz _ (Array.getElem_mem hj) h2.2
     rwa [h2.1]at this
    ·obtain⟨⟨o,k⟩,hx,h2⟩:=List.any_eq_true.1 h1;simp only [Bool.and_eq_true,decide_eq_true_eq]at h2;obtain⟨h3,h4⟩:=h2;have hk:=List.mem_zipIdx_iff_getElem?.1 hx;have hkl:=ji hk;obtain⟨j,hj,h5⟩:=Array.any_eq_true.1 h4;simp only [Bool.and_eq_true,beq_iff_eq]at h5;have:=hd k o hk (ih k hkl (by omega)) _ (Array.getElem_mem hj) h5.2
     rwa [h5.1]at this
 exact fun i hi=>key l.length i hi (by omega)
theorem pJ {P:Program} {Q:Exit->Act->World->Prop} {l:List Oper} {a0:Act} (hB:ef l a0.tmps.size=true)
 (R:World->World->Prop) (Φ:Nat->Value->World->Prop) (C:World->Prop)
 (hΦ:∀ j v w w',R w w'->Φ j v w->Φ j v w') (hC:∀ w w',C w->R w w'->C w')
 {i:Nat} {o:Oper} {a:Act} {w:World} {L:Array Bool}
 (step:C w->Given l Φ (fun _=>false) a0 o a w->o.wp P a w (fun a' w'=>∃ v,a'=a.put o.dst v/\R w w'/\Φ i (o.dst.elim undef fun _=>v) w') Q)
 (hI:GInv l R Φ (fun _=>false) C a0 L a w) (ho:l[i]? = some o) (hdep:∀ e ∈ o.after,Region.binds .any e=true->L.getD e.on false=true) :
 o.wp P a w (GInv l R Φ (fun _=>false) C a0 (L.setIfInBounds i true)) Q:=by
 obtain⟨at1,at2⟩:=gw hB;have ho':=ho;obtain⟨-,-,hd⟩:=at1 i o ho';refine Oper.wp_mono ?_ (step hI.c ⟨fun e he hb oj hj=>hI.phi _ _ hj (hdep e he hb),hI.fr,hI.sz,fun e he f hf hbe hbf hne oi oj hi hj hci hcj=>by cases hci⟩);rintro a' w' ⟨v,rfl,hR,hv⟩
 have vother:∀ (j:Nat) (oj:Oper),j≠i->l[j]? = some oj->ba oj (a.put o.dst v)=ba oj a:=fun j oj hj hoj=>by
  cases hdo:o.dst with
  | none=>rfl
  | some d =>
    unfold ba
    cases hdj:oj.dst with
    | none=>rfl
    | some t =>
      have:=at2 i j o oj (Ne.symm hj) ho' hoj d hdo;exact bM a d v t (fun e=>this (by rw [hdj,e]))
 have vself:ba o (a.put o.dst v)=o.dst.elim undef fun _=>v:=by
  unfold ba
  cases hdo:o.dst with
  | none=>rfl
  | some d=>exact bN a d v (by rw [hI.sz];exact hd d hdo)
 have lold:∀ j,j≠i->(L.setIfInBounds i true).getD j false=true->L.getD j false=true:=fun j hj h=>by
  rwa [getD_set_ne false (Ne.symm hj)]at h
 exact {
  lsz:=by simpa using hI.lsz
  c:=hC _ _ hI.c hR
  sz:=by
   rw [<- hI.sz]
   cases o.dst with
   | none=>rfl
   | some d=>simp [Act.put]
  df:=by
   rw [<- hI.df]
   cases o.dst <;> rfl
  fr:=fun t ht=>by
   rw [<- hI.fr t ht]
   cases hdo:o.dst with
   | none=>rfl
   | some d=>exact bM a d v t (fun e=>ht o (List.mem_of_getElem? ho') (by rw [hdo,e]))
  phi:=fun j oj hj hl=>by
   by_cases e:j=i
   ·subst e;rw [ho']at hj
    cases hj
    rw [vself];exact hv
   ·rw [vother j oj e hj];exact hΦ _ _ _ _ hR (hI.phi j oj hj (lold j e hl))
  blk:=fun j oj hj hl hc=>by cases hc
  ne:=fun j k oj ok hne hj hk hlj hlk hcj hck=>by cases hcj }
theorem iw {P:Program} {Q:Exit->Act->World->Prop} {id:Nat} {l:List Oper} {z:Oper} {t:List Oper} {a0:Act} {w0:World} (hm:P.follows .mixedOrders=true) (hB:ef l a0.tmps.size=true)
 (ht:(chainB l.length 0 (z :: t) && jM l z)=true)
 (R:World->World->Prop) (Φ:Nat->Value->World->Prop) (C:World->Prop)
 (hΦ:∀ j v w w',R w w'->Φ j v w->Φ j v w') (hC0:C w0.drew) (hC:∀ w w',C w->R w w'->C w')
 (hg:∀ (i:Nat) (o:Oper) (g:Nat) (b:Bool),l[i]? = some o->o.guard=some (g,b)->∀ v w,Φ g v w->v=.bool b)
 (step:∀ (i:Nat) (o:Oper) (a:Act) (w:World),l[i]? = some o->C w->Given l Φ (fun _=>false) a0 o a w->o.wp P a w (fun a' w'=>∃ v,a'=a.put o.dst v/\R w w'/\Φ i (o.dst.elim undef fun _=>v) w') Q)
 (done:∀ a w,C w->a.defers=a0.defers->a.tmps.size=a0.tmps.size->(∀ s,(∀ oj ∈ l,oj.dst≠some s)->a.tmps.getD s undef=a0.tmps.getD s undef)->(∀ (i:Nat) (o:Oper),l[i]? = some o->Φ i (ba o a) w)->aV P (l ++ (z :: t)).toArray Q (z :: t) a w) :
 (Code.region id (l ++ (z :: t)).toArray true).wp P Q a0 w0:=by
 obtain⟨at1,at2⟩:=gw hB;simp only [Bool.and_eq_true]at ht;obtain⟨ht,hz⟩:=ht
 have hat:∀ (i:Nat) (o:Oper),(l ++ (z :: t)).toArray[i]? = some o->(l[i]? = some o/\i<l.length)\/(∃ j,i=l.length+j/\(z :: t)[j]? = some o/\j<(z :: t).length):=fun i o ho=>by
  rw [List.getElem?_toArray,List.getElem?_append]at ho;split at ho
  ·exact .inl ⟨ho,by assumption⟩
  ·right
   rename_i h
   exact⟨i - l.length,by omega,ho,(ji ho)⟩
 have hget:∀ (i:Nat) (o:Oper),l[i]? = some o->(l ++ (z :: t)).toArray[i]? = some o:=fun i o ho=>by
  rw [List.getElem?_toArray,List.getElem?_append_left (ji ho)];exact ho
 refine ck hm (fun A a w=>A.size=l.length+(z :: t).length /\
  ((∃ j,1≤j/\j≤(z :: t).length/\(∀ i,i<l.length+j->A.getD i false=true)/\(∀ i,l.length+j≤i->A.getD i false=false)/\aV P (l ++ (z :: t)).toArray Q ((z :: t).drop j) a w) \/
   ((∀ i,l.length≤i->A.getD i false=false)/\(∀ (i:Nat) (o:Oper),l[i]? = some o->A.getD i false=true->∀ e ∈ o.after,Region.binds .any e=true->A.getD e.on false=true) /\
    ∃ B:Array Bool,(∀ i,i<l.length->B.getD i false=A.getD i false)/\GInv l R Φ (fun _=>false) C a0 B a w))) ?_ ?_ ?_ ?_
 ·intro i o ho e he
  rcases hat i o ho with ⟨ho,-⟩ | ⟨j,rfl,ho,-⟩
  ·exact(at1 i o ho).2.1 e he
  ·have:=(bu ht ho).1 e he;omega
 ·refine⟨by simp,.inr ⟨fun i _=>getD_replicate_false _ _,(fun i o _ h=>by rw [getD_replicate_false]at h;cases h),Array.replicate l.length false,fun i _=>by rw [getD_replicate_false,getD_replicate_false],?_⟩⟩
  exact {
   lsz:=by simp
   c:=hC0
   sz:=rfl
   df:=rfl
   fr:=fun t _=>rfl
   phi:=fun i o _ h=>by rw [getD_replicate_false]at h;cases h
   blk:=fun i o _ h=>by rw [getD_replicate_false]at h;cases h
   ne:=fun i j oi oj _ _ _ h=>by rw [getD_replicate_false]at h;cases h }
 ·rintro A a w i o ⟨hA,hI⟩ ho hAi hdep
  have hiA:i<A.size:=by
   rcases hat i o ho with ⟨-,hi⟩ | ⟨j,rfl,-,hj⟩ <;> omega
  have hAf:A.getD i false=false:=by
   simp only [Array.getD,hiA,dif_pos]at hAi ⊢;exact hAi
  rcases hI with ⟨k,hk1,hk2,hon,hoff,hq⟩ | ⟨hoff,hdn,B,hBA,hI⟩
  ·rcases hat i o ho with ⟨-,hi⟩ | ⟨j,rfl,hj,hjl⟩
   ·have:=hon i (by omega);rw [this]at hAf
    cases hAf
   ·have hjk:j=k:=by
     rcases Nat.lt_trichotomy j k with h | h | h
     ·have:=hon (l.length+j) (by omega);rw [this]at hAf
      cases hAf
     ·exact h
     ·exfalso
      obtain⟨e,he,h1,h2⟩:=(bu ht hj).2 (by omega);have h3:=hdep e he h2;rw [h1,hoff _ (by omega)]at h3
      cases h3
    subst hjk
    have hdrop:(z :: t).drop j=o :: (z :: t).drop (j+1):=by
     rw [List.drop_eq_getElem_cons hjl,(List.getElem?_eq_some_iff.1 hj).2]
    rw [hdrop]at hq;obtain⟨hw,hq⟩:=hq;rw [if_pos hw];refine Oper.wp_mono ?_ hq;intro a' w' hq';refine⟨by simpa using hA,.inl ⟨j+1,by omega,by omega,fun i hi=>?_,fun i hi=>?_,hq'⟩⟩
    ·by_cases e:i=l.length+j
     ·subst e;exact aC hiA
     ·rw [getD_set_ne false (by omega)];exact hon i (by omega)
    ·rw [getD_set_ne false (by omega)];exact hoff i (by omega)
  ·rcases hat i o ho with ⟨ho',hi⟩ | ⟨j,rfl,hj,hjl⟩
   ·have hdB:∀ e ∈ o.after,Region.binds .any e=true->B.getD e.on false=true:=fun e he hb=>by
     rw [hBA _ (Nat.lt_trans ((at1 i o ho').2.1 e he) hi)];exact hdep e he hb
    have hw:Region.wanted o (yielded (l ++ (z :: t)).toArray a.tmps)=true:=by
     unfold Region.wanted
     cases hgd:o.guard with
     | none=>rfl
     | some gb =>
       obtain⟨g,b⟩:=gb;obtain⟨e,he,h1,h2⟩:=(at1 i o ho').1 g b hgd
       have hgi:g<i:=by
        have:=(at1 i o ho').2.1 e he;omega
       obtain⟨og,hog⟩:∃ og,l[g]? = some og:=⟨_,List.getElem?_eq_getElem (by omega)⟩;have hphi:=hI.phi g og hog (by have:=hdB e he h2;rwa [h1]at this);have hv:=hg i o g b ho' hgd _ _ hphi
       have hy:yielded (l ++ (z :: t)).toArray a.tmps g=some b:=by
        unfold yielded;rw [hget g og hog];unfold ba at hv
        cases hdg:og.dst with
        | none=>rw [hdg]at hv;simp [undef]at hv
        | some d =>
          rw [hdg]at hv;have hd:d<a.tmps.size:=by rw [hI.sz];exact(at1 g og hog).2.2 d hdg
          have hv:a.tmps.getD d undef=.bool b:=hv
          have:a.tmps[d]? = some (.bool b):=by
           rw [Array.getElem?_eq_getElem hd,← hv];simp [Array.getD,hd]
          simp [hdg,this]
       simp [hy]
    rw [if_pos hw];refine Oper.wp_mono ?_ (pJ hB R Φ C hΦ hC (step i o a w ho') hI ho' hdB);rintro a' w' hI';refine⟨by simpa using hA,.inr ⟨fun x hx=>?_,fun x ox hox hxA e he hb=>?_,_,fun x hx=>?_,hI'⟩⟩
    ·rw [getD_set_ne false (by omega)];exact hoff x hx
    ·by_cases e1:x=i
     ·subst e1;rw [ho']at hox
      cases hox
      have h1:=(at1 x o ho').2.1 e he;rw [getD_set_ne false (by omega)];exact hdep e he hb
     ·rw [getD_set_ne false (Ne.symm e1)]at hxA;have h3:=hdn x ox hox hxA e he hb
      by_cases e2:i=e.on
      ·rw [<- e2];exact aC hiA
      ·rw [getD_set_ne false e2];exact h3
    ·by_cases e:i=x
     ·subst e;rw [aC hiA,aC (by rw [hI.lsz];exact hi)]
     ·rw [getD_set_ne false e,getD_set_ne false e];exact hBA x hx
   ·have hj0:j=0:=by
     rcases Nat.eq_zero_or_pos j with h | h
     ·exact h
     ·exfalso
      obtain⟨e,he,h1,h2⟩:=(bu ht hj).2 (by omega);have h3:=hdep e he h2;rw [h1,hoff _ (by omega)]at h3
      cases h3
    subst hj0;have hz':o=z:=by simpa using hj.symm
    subst hz';have hall:=gO hz hdep hdn;have hBall:∀ i,i<l.length->B.getD i false=true:=fun i hi=>by rw [hBA i hi];exact hall i hi
    obtain⟨hw,hd⟩:=done a w hI.c hI.df hI.sz hI.fr (fun i o ho=>hI.phi i o ho (hBall i (ji ho)));rw [if_pos hw];refine Oper.wp_mono ?_ hd;intro a' w' hq';refine⟨by simpa using hA,.inl ⟨1,by omega,by simp,fun i hi=>?_,fun i hi=>?_,hq'⟩⟩
    ·by_cases e:i=l.length
     ·subst e;exact aC hiA
     ·rw [getD_set_ne false (by omega)];exact hall i (by omega)
    ·rw [getD_set_ne false (by omega)];exact hoff i (by omega)
 ·rintro A a w ⟨hA,⟨k,hk1,hk2,hon,hoff,hq⟩ | ⟨hoff,-⟩⟩ hall
  ·have hk:k=(z :: t).length:=by
    rcases Nat.lt_or_ge k (z :: t).length with h | h
    ·exfalso
     have h1:=hall (l.length+k) (by simp at h ⊢;omega);have h2:=hoff (l.length+k) aH;have h3:l.length+k<A.size:=by omega
     simp only [Array.getD,h3,dif_pos]at h1 h2;rw [h1]at h2
     cases h2
    ·omega
   subst hk
   simpa [aV]using hq
  ·exfalso
   have h1:=hall l.length (by simp);have h2:=hoff l.length aH;have h3:l.length<A.size:=by simp at hA;omega
   simp only [Array.getD,h3,dif_pos]at h1 h2;rw [h1]at h2
   cases h2
theorem aR {P:Program} {Q:Exit->Act->World->Prop} {id:Nat} {L:List Oper} {a0:Act} {w0:World} (k:Nat) {z:Oper} {t:List Oper} (hm:P.follows .mixedOrders=true) (hk:L.drop k=z :: t) (hB:ef (L.take k) a0.tmps.size=true)
 (ht:(chainB (L.take k).length 0 (L.drop k) && jM (L.take k) z)=true)
 (R:World->World->Prop) (Φ:Nat->Value->World->Prop) (C:World->Prop)
 (hΦ:∀ j v w w',R w w'->Φ j v w->Φ j v w') (hC0:C w0.drew) (hC:∀ w w',C w->R w w'->C w')
 (hg:∀ (i:Nat) (o:Oper) (g:Nat) (b:Bool),(L.take k)[i]? = some o->o.guard=some (g,b)->∀ v w,Φ g v w->v=.bool b)
 (step:∀ (i:Nat) (o:Oper) (a:Act) (w:World),(L.take k)[i]? = some o->C w->Given (L.take k) Φ (fun _=>false) a0 o a w->o.wp P a w (fun a' w'=>∃ v,a'=a.put o.dst v/\R w w'/\Φ i (o.dst.elim undef fun _=>v) w') Q)
 (done:∀ a w,C w->a.defers=a0.defers->a.tmps.size=a0.tmps.size->(∀ s,(∀ oj ∈ L.take k,oj.dst≠some s)->a.tmps.getD s undef=a0.tmps.getD s undef)->(∀ (i:Nat) (o:Oper),(L.take k)[i]? = some o->Φ i (ba o a) w)->aV P L.toArray Q (z :: t) a w) :
 (Code.region id L.toArray true).wp P Q a0 w0:=by
 rw [hk]at ht;have hL:L.take k ++ (z :: t)=L:=by rw [<- hk,List.take_append_drop]
 revert hB ht hg step done hL;generalize L.take k=l;intro hB ht hg step done hL;clear hk;subst hL;exact iw hm hB ht R Φ C hΦ hC0 hC hg step done
end
end Go.Proofs.YthaliljaglldjaaGreat
