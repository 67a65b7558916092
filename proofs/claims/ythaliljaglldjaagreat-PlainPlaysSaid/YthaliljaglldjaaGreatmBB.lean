/- Part of the proof. -/
import Derived.StillTactics
import Derived.Test.YthaliljaglldjaaGreatmBA
namespace Go.Proofs.YthaliljaglldjaaGreat
set_option maxHeartbeats 16000000
set_option maxRecDepth 20000
open Go.RowKit
section
section
variable {P:Program} {ops:Array Oper} {Q:Exit->Act->World->Prop} {n:Nat} {w:World}
structure Pivots (ops ops':Array Oper) (n:Nat):Prop where
 lt:n<ops.size
 sz:ops'.size=n
 same:∀ i,i<n->ops'[i]? = ops[i]?
 edge:∀ i o,i<n->ops[i]? = some o->∀ e ∈ o.after,e.on<i
 guard:∀ i o g b,i<n->ops[i]? = some o->o.guard=some (g,b)->g<i
 sink:∀ i,i<n->∃ j,i<j/\j≤n/\Region.waitsFor .any ops j i=true
 tail:∀ t,n<t->t<ops.size->∃ j,n≤j/\j<t/\Region.waitsFor .any ops t j=true
theorem Pivots.far {ops':Array Oper} (p:Pivots ops ops' n) {L:Array Bool} (inv:HeadInv .any ops n L):∀ (d i:Nat),n - i=d->i<n->L.getD i true=false->∀ t,n≤t->t ∉ Region.ready .any ops L:=by
 intro d
 induction d using Nat.strongRecOn with
 | _ d ih =>
   intro i hd hi hun t ht hr;obtain⟨-,ot,hot,hall⟩:=mem_ready.1 hr;have htl:t<ops.size:=(Array.getElem?_eq_some_iff.1 hot).1
   have bad:∀ j,L.getD j true=false->Region.waitsFor .any ops t j=true->False:=fun j hj hw=>by
    obtain⟨o',ho',e,he,hb,hon⟩:=Region.waitsFor_spec hw;rw [hot]at ho'
    cases ho'
    have:=hall e he hb;rw [hon,getD_both hj]at this
    cases this
   rcases Nat.lt_or_ge n t with h | h
   ·obtain⟨j,h1,h2,h3⟩:=p.tail t h htl;exact bad j (inv.tail j h1 (by omega)) h3
   ·obtain⟨j,h1,h2,h3⟩:=p.sink i hi
    rcases Nat.lt_or_ge j n with h4 | h4
    ·cases hl:L.getD j false with
     | true =>
       obtain⟨o',ho',e,he,hb,hon⟩:=Region.waitsFor_spec h3;have:=inv.closed j o' ho' hl e he hb;rw [hon,getD_both hun]at this
       cases this
     | false=>exact ih (n - j) (by omega) j rfl h4 (getD_in (by rw [inv.size];have:=p.lt;omega) hl) t ht hr
    ·have:j=t:=by omega
     subst this;exact bad i hun h3
theorem kS {L:Array Bool} {i:Nat} (h:i<L.size) (c d:Bool):L.getD i c=L.getD i d:=by simp [Array.getD,h]
theorem Pivots.head {ops':Array Oper} (p:Pivots ops ops' n) {G:Act->Prop} {g:Nat}
 (hG:∀ (L:Array Bool) (a:Act),HeadInv .any ops n L->(∀ i,i<n->L.getD i true=true)->G a->wpAny P .any ops Q g L a w) :
 ∀ (f:Nat) (L L':Array Bool) (a:Act),HeadInv .any ops n L->L'.size=n->(∀ i,i<n->L.getD i true=L'.getD i true)->L'.toList.count false=f ->
   wpAnyS P .any ops' w G f L' a->wpAny P .any ops Q (f+g) L a w
 | 0,L,L',a,inv,hs,hL,hc,h=>by
   rw [Nat.zero_add];refine hG L a inv (fun i hi=>?_) h.2;rw [hL i hi]
   exact dG L' (by rw [hs,p.sz]) (fun i o ho e he=>by
    have hi:i<n:=by have:=(Array.getElem?_eq_some_iff.1 ho).1;rw [p.sz]at this;exact this
    exact p.edge i o hi (by rw [<- p.same i hi];exact ho) e he) h.1 i (by rw [p.sz];exact hi)
 | f+1,L,L',a,inv,hs,hL,hc,h=>by
   have hsz:=inv.size;have hlt:=p.lt
   have old:∀ i,i<n->L'.getD i false=L.getD i false:=fun i hi=>by
    rw [kS (L:=L') (by omega) false true,← hL i hi,kS (by omega) true false]
   have up:∀ i,i<n->(i ∈ Region.ready .any ops' L' ↔ i ∈ Region.ready .any ops L):=fun i hi=>by
    rw [mem_ready,mem_ready,p.same i hi,hL i hi];constructor
    ·rintro ⟨h1,o,ho,h2⟩;exact⟨h1,o,ho,fun e he hb=>by rw [<- old _ (by have:=p.edge i o hi ho e he;omega)];exact h2 e he hb⟩
    ·rintro ⟨h1,o,ho,h2⟩;exact⟨h1,o,ho,fun e he hb=>by rw [old _ (by have:=p.edge i o hi ho e he;omega)];exact h2 e he hb⟩
   obtain⟨i0,hi0,hun0⟩:∃ i,i<n/\L'.getD i true=false:=by
    have:false ∈ L'.toList:=List.count_pos_iff.1 (by omega);obtain⟨i,hi,he⟩:=List.getElem_of_mem this;have hi':i<L'.size:=by simpa using hi
    exact⟨i,by omega,by simp [Array.getD,hi'];simpa using he⟩
   have far:=p.far inv _ i0 rfl hi0 (by rw [hL i0 hi0];exact hun0);rw [show f+1+g=(f+g)+1 by omega];refine⟨fun h0=>?_,fun i hi=>?_⟩
   ·exfalso
    have hr:Region.ready .any ops' L' = []:=by
     rw [List.eq_nil_iff_forall_not_mem];intro i hi
     have hin:i<n:=by
      obtain⟨-,o,ho,-⟩:=mem_ready.1 hi;have:=(Array.getElem?_eq_some_iff.1 ho).1;rw [p.sz]at this;exact this
     have:=(up i hin).1 hi;rw [h0]at this
     cases this
    have:=dG L' (by rw [hs,p.sz]) (fun i o ho e he=>by
     have hi:i<n:=by have:=(Array.getElem?_eq_some_iff.1 ho).1;rw [p.sz]at this;exact this
     exact p.edge i o hi (by rw [<- p.same i hi];exact ho) e he) hr i0 (by rw [p.sz];exact hi0)
    rw [this]at hun0
    cases hun0
   ·have hin:i<n:=by
     rcases Nat.lt_or_ge i n with h1 | h1
     ·exact h1
     ·exact absurd hi (far i h1)
    have hi':=(up i hin).2 hi;have hst:=h.2 i hi';have hun:L'.getD i true=false:=(mem_ready.1 hi').1;have hLi:i<L'.size:=by omega
    have hcnt:=dv (l:=L'.toList) (i:=i) (by simpa using hLi) (by simpa [Array.getD,hLi]using hun)
    have hst':stOp P ops w i (wpAnyS P .any ops' w G f (L'.setIfInBounds i true)) a:=by
     unfold stOp at hst ⊢;rw [p.same i hin]at hst
     cases ho:ops[i]? with
     | none=>rw [ho]at hst;exact hst
     | some o =>
       rw [ho]at hst;simp only at hst ⊢
       have hw:Region.wanted o (yielded ops' a.tmps)=Region.wanted o (yielded ops a.tmps):=by
        cases hg:o.guard with
        | none=>simp [Region.wanted,hg]
        | some gb =>
          obtain⟨q,b⟩:=gb;have:=p.guard i o q b hin ho hg;simp [Region.wanted,hg,yielded,p.same q (by omega)]
       rw [<- hw];exact hst
    refine wpOp_of_stOp (fun a' h'=>p.head hG f _ (L'.setIfInBounds i true) a' (inv.set hi hin) (by simpa using hs) (fun j hj=>?_) (by rw [Array.toList_setIfInBounds];omega) h') hst'
    by_cases hji:j=i
    ·subst hji;have h1:j<L.size:=by omega
     have h2:j<L'.size:=by omega
     simp [Array.getD,h1,h2]
    ·rw [getD_set_ne true (Ne.symm hji),getD_set_ne true (Ne.symm hji)];exact hL j hj
theorem gI {ops':Array Oper} {G:Act->Prop}:∀ (l:List Oper) (a:Act),(∀ o ∈ l,∀ (t:Array Value),Region.wanted o (yielded ops' t)=Region.wanted o (yielded ops t))->wpStill P ops w G l a->wpStill P ops' w G l a
 | [],a,_,h=>h
 | o :: l,a,hw,h=>by
   unfold wpStill at h ⊢;rw [hw o (by simp) a.tmps];split
   ·rename_i hx
    rw [if_pos hx]at h;exact Oper.still_mono (fun a' h'=>gI l a' (fun o' ho'=>hw o' (by simp [ho'])) h') h
   ·rename_i hx
    rw [if_neg hx]at h;exact gI l _ (fun o' ho'=>hw o' (by simp [ho'])) h
end
end
section
section
variable {P:Program} {ops:Array Oper} {Q:Exit->Act->World->Prop} {n:Nat} {w:World}
def uF (P:Program) (ops:Array Oper) (Q:Exit->Act->World->Prop) (mid tail:List Oper):Exit->Act->World->Prop
 | .normal,a,w=>wpStill P ops w (fun a'=>wpList P ops Q tail a' w) mid a
 | x,a,w=>Q x a w
theorem kW {mid tail:List Oper} (h:LetsOut (uF P ops Q mid tail)):LetsOut Q:=by
 obtain⟨a,w,h⟩:=h;exact⟨a,w,h⟩
theorem vc {mid tail:List Oper} {o:Oper} {a:Act} {K:Act->World->Prop} (hh:o.wp P a w K (uF P ops Q mid tail)):o.wp P a w K Q:=by
 unfold Oper.wp at *;generalize (execOp a.eval o).run P w=r at *
 cases r with
 | ok m w' =>
   cases m <;> simp only [Oper.upon]at hh ⊢ <;>
    first
     | exact hh
     | exact Calls.mono hh (fun e w'' he=>by cases e <;> first | exact he | exact kW he)
 | halt x w'=>cases x <;> simp only [Oper.upon]at hh ⊢ <;> exact hh
def iP (ops:Array Oper) (n m:Nat):Bool :=
 decide (n<ops.size) && Region.noSelect ops && Region.noSelect (ops.extract 0 n) && Region.sinkB .any ops n &&
 ((List.range (n+1)).all fun i=>(ops[i]?).all fun o=>(o.after.all fun e=>decide (e.on<i)) && o.guard.all fun g=>decide (g.1<i)) &&
 ((List.range ops.size).all fun t=>decide (t≤n) || (List.range t).any fun j=>decide (n≤j) && Region.waitsFor .any ops t j) &&
 Region.lexFrom .any (ops.extract 0 n) n 0 (Array.replicate n false) &&
 decide (Region.ready .any ops (Array.replicate n true ++ Array.replicate (ops.size - n) false) = [n]) &&
 (decide (n+1+m<ops.size) && Region.sinkB .any ops (n+1+m) && Region.chainB .any ops (n+1+m) &&
  Region.lexHead .any ops (ops.size - (n+1+m)) m (n+1) ((Array.replicate n true ++ Array.replicate (ops.size - n) false).setIfInBounds n true))
theorem Ay {m:Nat} (h:iP ops n m=true):Pivots ops (ops.extract 0 n) n:=by
 simp only [iP,Bool.and_eq_true,decide_eq_true_eq]at h;obtain⟨⟨⟨⟨⟨⟨⟨⟨h1,-⟩,-⟩,h2⟩,h3⟩,h4⟩,-⟩,-⟩,-⟩:=h
 have h3':∀ i o,i<n->ops[i]? = some o->(∀ e ∈ o.after,e.on<i)/\∀ g b,o.guard=some (g,b)->g<i:=fun i o hi ho=>by
  have:=List.all_eq_true.1 h3 i (List.mem_range.2 (Nat.lt_succ_of_lt hi));rw [ho]at this;simp only [Option.all_some,Bool.and_eq_true,Array.all_eq_true_iff_forall_mem,decide_eq_true_eq]at this;exact⟨this.1,fun g b hg=>by have:=this.2;rw [hg]at this;simpa using this⟩
 exact {
  lt:=h1
  sz:=by simp;omega
  same:=fun i hi=>by rw [Array.getElem?_extract];simp;omega
  edge:=fun i o hi ho=>(h3' i o hi ho).1
  guard:=fun i o g b hi ho hg=>(h3' i o hi ho).2 g b hg
  sink:=fun i hi=>by
   have:=List.all_eq_true.1 h2 i (List.mem_range.2 hi);obtain⟨j,hj,hj2⟩:=List.any_eq_true.1 this;simp only [Bool.and_eq_true,decide_eq_true_eq]at hj2;exact⟨j,hj2.1,by have:=List.mem_range.1 hj;omega,hj2.2⟩
  tail:=fun t h5 h6=>by
   have:=List.all_eq_true.1 h4 t (List.mem_range.2 h6);simp only [Bool.or_eq_true,decide_eq_true_eq]at this
   rcases this with h | h
   ·omega
   ·obtain⟨j,hj,hj2⟩:=List.any_eq_true.1 h;simp only [Bool.and_eq_true,decide_eq_true_eq]at hj2
    exact⟨j,hj2.1,List.mem_range.1 hj,hj2.2⟩ }
theorem cH {id:Nat} {a:Act} {w:World} {l:List Oper} (n m:Nat) (hm:P.follows .mixedOrders=true) (hB:iP l.toArray n m=true)
 (h:wpStill P l.toArray w.drew (fun a'=>wpList P l.toArray (uF P l.toArray Q ((l.drop (n+1)).take m) (l.drop (n+1+m))) ((l.drop n).take 1) a' w.drew) (l.take n) a):(Code.region id l.toArray true).wp P Q a w:=by
 have p:=Ay hB;simp only [iP,Bool.and_eq_true,decide_eq_true_eq]at hB;obtain⟨⟨⟨⟨⟨⟨⟨⟨h1,hsel⟩,hsel'⟩,-⟩,hedge⟩,-⟩,hlex⟩,hrd⟩,⟨⟨hlt2,hsink2⟩,hchain2⟩,hlex2⟩:=hB;have h1':n<l.length:=by simpa using h1
 have hops:(l.toArray.extract 0 n)=(l.take n).toArray:=by simp
 have hlen:(l.take n).length=n:=by simp;omega
 refine wp_region_any hm ?_;obtain⟨o,ho⟩:∃ o,l[n]? = some o:=⟨_,List.getElem?_eq_getElem h1'⟩
 have hd1:(l.drop n).take 1 = [o]:=by
  rw [List.drop_eq_getElem_cons h1',List.take_succ_cons,List.take_zero];rw [List.getElem?_eq_getElem h1']at ho
  simpa using ho
 have hG:∀ (L:Array Bool) (a:Act),HeadInv .any l.toArray n L->(∀ i,i<n->L.getD i true=true) ->
  wpList P l.toArray (uF P l.toArray Q ((l.drop (n+1)).take m) (l.drop (n+1+m))) ((l.drop n).take 1) a w.drew->wpAny P .any l.toArray Q (l.toArray.size - n) L a w.drew:=by
  intro L a inv hL hh
  have hLe:L=Array.replicate n true ++ Array.replicate (l.toArray.size - n) false:=by
   apply Array.ext
   ·rw [inv.size];simp;omega
   ·intro i hi1 hi2
    by_cases hin:i<n
    ·have:=hL i hin;simp only [Array.getD,hi1,↓reduceDIte,Array.getInternal_eq_getElem]at this;rw [this,Array.getElem_append_left (by simpa using hin)];simp
    ·have:=inv.tail i (by omega) (by rw [<- inv.size];exact hi1);simp only [Array.getD,hi1,↓reduceDIte,Array.getInternal_eq_getElem]at this;rw [this,Array.getElem_append_right (by simp;omega)];simp
  rw [show l.toArray.size - n=(l.toArray.size - n - 1)+1 by omega,hLe];refine⟨fun h0=>(by rw [hrd]at h0;cases h0),fun i hi=>?_⟩;rw [hrd]at hi;have hin:i=n:=by simpa using hi
  subst hin;rw [hd1]at hh
  have tailw:∀ a' w',wpStill P l.toArray w' (fun a''=>wpList P l.toArray Q (l.drop (i+1+m)) a'' w') ((l.drop (i+1)).take m) a'->wpAny P .any l.toArray Q (l.toArray.size - i - 1) ((Array.replicate i true ++ Array.replicate (l.toArray.size - i) false).setIfInBounds i true) a' w':=fun a' w' h'=>by
   have hlt2':i+1+m<l.length:=by simpa using hlt2
   have hml:((l.drop (i+1)).take m).length=m:=by simp;omega
   have hset:∀ j,((Array.replicate i true ++ Array.replicate (l.toArray.size - i) false).setIfInBounds i true).getD j false=decide (j≤i):=fun j=>by
    simp only [Array.getD_eq_getD_getElem?,Array.getElem?_setIfInBounds]
    by_cases h1:i=j
    ·subst h1;rw [if_pos rfl,if_pos (by rw [Array.size_append,Array.size_replicate,Array.size_replicate,List.size_toArray];omega)];simp
    ·rw [if_neg h1]
     by_cases h2:j<i
     ·rw [Array.getElem?_append_left (by simpa using h2)];simp [h2];omega
     ·rw [Array.getElem?_append_right (by simp;omega)];have h3:¬ j≤i:=by omega
      simp only [h3,decide_false];simp [Array.getElem?_replicate];split <;> rfl
   have inv1:HeadInv .any l.toArray (i+1+m) ((Array.replicate i true ++ Array.replicate (l.toArray.size - i) false).setIfInBounds i true):=by
    refine⟨by simp;omega,fun j oj hj hl e he _=>?_,fun t ht ht'=>?_⟩
    ·rw [hset]at hl ⊢;have hji:j≤i:=by simpa using hl
     have h5:=List.all_eq_true.1 hedge j (List.mem_range.2 (by omega));rw [hj]at h5;simp only [Option.all_some,Bool.and_eq_true,Array.all_eq_true_iff_forall_mem,decide_eq_true_eq]at h5;have:=h5.1 e he;simp;omega
    ·refine getD_in (by simp at ht' ⊢;omega) ?_;rw [hset];simp;omega
   have H:=wpAnyL_lex (md:=.any) (g:=l.toArray.size - (i+1+m)) hsel hsink2 hchain2 hlt2 ((l.drop (i+1)).take m) (i+1) _ a' (fun j hj=>by
    have hj':j<m:=by rw [hml]at hj;exact hj
    simp [hj',List.getElem?_drop]) (by rw [hml]) inv1 (by rw [hml];exact hlex2) h'
   have hdl:(l.drop (i+1+m)).length=l.toArray.size - (i+1+m):=by simp
   have:=wpAny_of_head (Q':=Q) (g:=l.toArray.size - (i+1+m)) (fun listed a' hL=>by
    have:=wpAny_of_seq (md:=.any) (Q':=Q) (l.drop (i+1+m)) (i+1+m) listed a' w' (fun j=>by simp [List.getElem?_drop]) (by rw [hdl];exact hL.1) hL.2
    rwa [hdl]at this) _ _ _ H
   rw [hml]at this;have he:m+(l.toArray.size - (i+1+m))=l.toArray.size - i - 1:=by simp;omega
   rw [he]at this;exact this
  unfold wpOp;rw [show l.toArray[i]? = some o by simpa using ho];simp only;unfold wpList at hh;split at hh
  ·rename_i hx
   rw [if_pos hx]
   rcases hh with hh | ⟨h5,h6⟩
   ·exact .inl (Oper.wp_mono (fun a' w' h'=>tailw a' w' h') (vc hh))
   ·exact .inr ⟨h5,kW h6⟩
  ·rename_i hx
   rw [if_neg hx];exact tailw _ _ hh
 have hS:wpAnyS P .any (l.toArray.extract 0 n) w.drew (fun a'=>wpList P l.toArray (uF P l.toArray Q ((l.drop (n+1)).take m) (l.drop (n+1+m))) ((l.drop n).take 1) a' w.drew) n (Array.replicate n false) a:=by
  have hst:=gI (ops:=l.toArray) (ops':=l.toArray.extract 0 n) (l.take n) a (fun o ho t=>by
   obtain⟨i,hi,he⟩:=List.getElem_of_mem ho;have hin:i<n:=by omega
   have hoi:l.toArray[i]? = some o:=by
    rw [List.getElem_take]at he;rw [List.getElem?_toArray,List.getElem?_eq_getElem (by omega),he]
   cases hg:o.guard with
   | none=>simp [Region.wanted,hg]
   | some gb =>
     obtain⟨q,b⟩:=gb;have:=p.guard i o q b hin hoi hg
     simp only [Region.wanted,hg,yielded,p.same q (by omega)]) h
  have:=wpAnyS_lex (md:=.any) (P:=P) (w:=w.drew) hsel' (l.take n) 0 (Array.replicate n false) a (fun j=>by rw [hops];simp) (by rw [hlen];exact hlex) hst
  rwa [hlen]at this
 have inv0:HeadInv .any l.toArray n (Array.replicate l.toArray.size false) :=
  ⟨by simp,fun j oj _ hl=>(by rw [getD_replicate_false]at hl;cases hl),fun t _ ht=>getD_in (by simpa using ht) (getD_replicate_false _ _)⟩
 have:=p.head hG n _ (Array.replicate n false) a inv0 (by simp) (fun i hi=>by
  have h2:i<l.toArray.size:=by omega
  simp [Array.getD,hi]
  simpa using h2) (by simp) hS
 rw [show n+(l.toArray.size - n)=l.toArray.size by omega]at this;exact this
end
end
end Go.Proofs.YthaliljaglldjaaGreat
namespace Go.Proofs.YthaliljaglldjaaGreat
set_option maxHeartbeats 16000000
set_option maxRecDepth 20000
open Go.RowKit Go.ChangeMaps Go.MapKept
section
variable {w:World} {p:Nat} {M:WM} {F:Nat->Prop}
theorem lP:bX 7 27 3 bp:=fun _ _ _ _ _=>rfl
theorem kf:ff 27 11 7 bZ:=fun _ _ _ _ _=>rfl
theorem sg {h:Int} {v:Val} {raw:Value} (h2:∀ r ∈ aM v,(Lit.int .i64 r).wf=true/\(M.at r).isSome=true):∀ r ∈ bk (bn h v raw),(Lit.int .i64 r).wf=true/\(M.at r).isSome=true:=by
 intro r hr;have e:bk (bn h v raw)=aM v:=by simp [bk]
 rw [e]at hr;exact h2 r hr
attribute [local go_sem ↓] lP kf in
theorem xX (hW:IsW w p M F) {r:Int} (hr:(Lit.int .i64 r).wf=true) {h:Int} {x:Val} {raw0 rawC:Value} (ht:M.at r=some (bn h x raw0)) {b:Nat} (hb:w.heap[b]? = some (.cells (bj p r (bn h x rawC)) 247 (0,0))) (hbF:¬ F b)
 (hh:be M h=true) {FB:Nat->Prop} {v:Val} {raw:Value} (hv:SlAt w FB raw v.l) (hFB:∀ y,FB y->y≠b) (hm:ay v=true) (hkn:∀ r ∈ aM v,(Lit.int .i64 r).wf=true/\(M.at r).isSome=true) :
 Calls Tryz.prog 323 #[P_ b,.agg (au v raw)] w fun e w'=>e=.returned (.tuple #[.agg zV,J 0])/\∃ raw',kZ w p M F r (bn h v raw') b w':=by
 obtain⟨pv,cv,rfl⟩:=hv.form;have hlt:=aw hb;have HP:Hid (SlAt w FB (.slice pv v.l.length cv) v.l/\(∀ y,FB y->y≠b)/\ay v=true/\(∀ r ∈ aM v,(Lit.int .i64 r).wf=true/\(M.at r).isSome=true)/\IsW w p M F/\M.at r=some (bn h x raw0)/\be M h=true):=⟨hv,hFB,hm,hkn,hW,ht,hh⟩;have HbF:Hid (∀ y,F y->y<w.heap.size):=hW.lt;clear hv hFB hm hkn hW ht hh;obtain⟨vk,vn,vstr,vl,vr⟩:=v;simp only [au]at HP ⊢;generalize hnv:vl.length=nv at *
 have HX:Hid (Bl w ((w.alloc (.cells (V_ vk vn vstr (.slice pv nv cv) vr) 27)).alloc (.cells O 27)) /\
  ((w.alloc (.cells (V_ vk vn vstr (.slice pv nv cv) vr) 27)).alloc (.cells O 27)).heap[w.heap.size]? = some (.cells (V_ vk vn vstr (.slice pv nv cv) vr) 27 (0,0)) /\
  ((w.alloc (.cells (V_ vk vn vstr (.slice pv nv cv) vr) 27)).alloc (.cells O 27)).heap[w.heap.size+1]? = some (.cells zV 27 (0,0))) :=
  ⟨(br.alloc aH _).alloc (by simp) _,aL _ _ _,aK _ _ _⟩
 go_enter Tryz.func323,Tryz.ntmps323
 go_upto_region 1 with fail
 revert HX;generalize (w.alloc _).alloc _=w2;intro HX;have hb2:=(HX.out.1.block b hlt).trans hb;have hld:=aI HX.out.2.1 rfl;have hst:=fE (i:=4) (vs:=#[U vk,J vn,.string vstr,.slice pv nv cv,J vr]) hb2 rfl (by show 4+5≤18;decide) (by simp [go_sem]);have he:((bj p r (bn h x rawC)).toList.take 4 ++ ((V_ vk vn vstr (.slice pv nv cv) vr):Array Value).toList ++ (bj p r (bn h x rawC)).toList.drop (4+5)).toArray=bj p r (bn h ⟨vk,vn,vstr,vl,vr⟩ (.slice pv nv cv)):=rfl;rw [he]at hst;have HB2:Hid _:=hb2;clear he hb2
 go_upto_region 2 with fail
 have HS3:Hid ((w2.setRow b (bj p r (bn h ⟨vk,vn,vstr,vl,vr⟩ (.slice pv nv cv)))).heap[b]? = some (.cells (bj p r (bn h ⟨vk,vn,vstr,vl,vr⟩ (.slice pv nv cv))) 247 (0,0))/\Keeps (fun y=>y=b) w (w2.setRow b (bj p r (bn h ⟨vk,vn,vstr,vl,vr⟩ (.slice pv nv cv))))/\(w2.setRow b (bj p r (bn h ⟨vk,vn,vstr,vl,vr⟩ (.slice pv nv cv)))).heap[w.heap.size+1]? = some (.cells zV 27 (0,0))):=by
  refine⟨ah HB2.out,Below.keeps HX.out.1 ⟨rfl,rfl,rfl,by simp [World.setRow],fun k _ hk=>aj _ _ _ _ hk⟩,?_⟩;rw [aj _ _ _ _ (by omega)];exact HX.out.2.2
 clear hst hld HB2 HX;revert HS3;generalize World.setRow _ _ _=w3;intro HS3;have c0:w3.drew.cell? ⟨b,0,none⟩=some (.pointer (some ⟨p,0,none⟩)):=by rw [ag (aX HS3.out.1)];rfl
 have c1:w3.drew.cell? ⟨b,1,none⟩=some (.int .i64 r):=by rw [ag (aX HS3.out.1)];rfl
 have ldx:(dZ (R_ b 2)).run Tryz.prog w3.drew=.ok (.value (.agg (X_ 1 h vk vn vstr (.slice pv nv cv) vr (S_) 0 0 0 0 0 false))) w3.drew:=iH (aX HS3.out.1) (cs:=#[.int .u8 1,.int .i64 h,.int .u8 vk,.int .i64 vn,.string vstr,.slice pv nv cv,.int .i64 vr,.slice none 0 0,.int .i64 0,.int .i64 0,.int .i64 0,.int .i64 0,.int .u8 0,.bool false,.slice none 0 0,.slice none 0 0].toList) (by intro j x hj;exact fS (t:=bn h ⟨vk,vn,vstr,vl,vr⟩ (.slice pv nv cv)) hj) rfl;obtain⟨hv,hFB,hm,hkn,hW,ht,hh⟩:=HP.out;have hW3:IsW w3.drew p M F:=hW.keeps HS3.out.2.1.drew (fun y hy e=>hbF (e ▸ hy));have hv3:SlAt w3.drew FB (.slice pv nv cv) vl:=hv.keeps HS3.out.2.1.drew (fun y e hy=>hFB y hy e);have hhm:=sg (h:=h) (raw:=.slice pv nv cv) hkn
 have HL:Hid (Calls Tryz.prog 107 #[P_ p,J r,.agg (X_ 1 h vk vn vstr (.slice pv nv cv) vr (S_) 0 0 0 0 0 false)] w3.drew fun e w'=>e=.returned (J 0)/\oq w3.drew p M F r (bn h ⟨vk,vn,vstr,vl,vr⟩ (.slice pv nv cv)) w'):=by
  refine pG hW3 hr ht rfl (x:=bn h ⟨vk,vn,vstr,vl,vr⟩ (.slice pv nv cv)) ⟨hv3,SlAt.nil _ _ _ _,rfl,rfl⟩ ⟨hm,fun x hx=>(by cases hx),Nat.zero_le _⟩ rfl rfl rfl rfl rfl (fun r hr=>(hhm r hr).1) (by unfold cX;rw [List.all_eq_true];exact fun r hr=>(hhm r hr).2) ?_;intro w' hb';have hV:iC w' (au ⟨vk,vn,vstr,vl,vr⟩ (.slice pv nv cv)):=ya (hv3.on hb') hm;exact qU (hW3.below hb') hh hV oY
 have HK:Hid _:=And.intro HS3.out.2.1 (And.intro HS3.out.2.2 hlt);clear hv hFB hm hkn hW ht hh hW3 hv3 hhm HP;refine cl (z:=_) 16 [0] (fun i=>match i with | 0=>.agg zV | 1=>P_ b | 2=>P_ b | 3=>P_ b | 4=>P_ b | 5=>P_ p | 6=>P_ b | 7=>P_ b | 8=>P_ b | 9=>R_ b 1 | 10=>J r | 11=>P_ b | 12=>P_ b | 13=>P_ b | 14=>R_ b 2 | 15=>.agg (X_ 1 h vk vn vstr (.slice pv nv cv) vr (S_) 0 0 0 0 0 false) | _=>undef) (fun v w'=>v=J 0/\oq w3.drew p M F r (bn h ⟨vk,vn,vstr,vl,vr⟩ (.slice pv nv cv)) w') (by kernel_rfl) rfl (by kernel_rfl) rfl (by kernel_rfl) (by kernel_rfl) ?_ ?_ ?_
 ·intro i q a w7 hq hw hdep hfr;have hj:i<16:=ji hq
  match i,hj with
  | 0,_ =>
    cases hq;clear hw hdep hfr;simp [go_sem,zV]
  | 1,_ =>
    cases hq;have hw:w7=w3.drew:=by simpa using hw
    subst hw;have h0':a.tmps[0]?.getD undef=P_ b:=gq (hfr 0 (by simp));clear hdep hfr;simp [go_sem,Act.eval,h0']
  | 2,_ =>
    cases hq;have hw:w7=w3.drew:=by simpa using hw
    subst hw;have h0:a.tmps.getD 13 undef=P_ b:=hdep ⟨1,.data⟩ (by simp) rfl _ rfl;have h0':a.tmps[13]?.getD undef=P_ b:=by rw [<- h0];simp [Array.getD_eq_getD_getElem?]
    clear hdep hfr;simp [go_sem,Act.eval,h0']
  | 3,_ =>
    cases hq;have hw:w7=w3.drew:=by simpa using hw
    subst hw;have h0:a.tmps.getD 14 undef=P_ b:=hdep ⟨2,.data⟩ (by simp) rfl _ rfl;have h0':a.tmps[14]?.getD undef=P_ b:=by rw [<- h0];simp [Array.getD_eq_getD_getElem?]
    clear hdep hfr;simp [go_sem,Act.eval,h0']
  | 4,_ =>
    cases hq;have hw:w7=w3.drew:=by simpa using hw
    subst hw;have h0:a.tmps.getD 15 undef=P_ b:=hdep ⟨3,.data⟩ (by simp) rfl _ rfl;have h0':a.tmps[15]?.getD undef=P_ b:=by rw [<- h0];simp [Array.getD_eq_getD_getElem?]
    clear hdep hfr;simp [go_sem,Act.eval,h0']
  | 5,_ =>
    cases hq;have hw:w7=w3.drew:=by simpa using hw
    subst hw;have h0:a.tmps.getD 16 undef=P_ b:=hdep ⟨4,.data⟩ (by simp) rfl _ rfl;have h0':a.tmps[16]?.getD undef=P_ b:=by rw [<- h0];simp [Array.getD_eq_getD_getElem?]
    clear hdep hfr;simp [go_sem,Act.eval,h0',c0]
  | 6,_ =>
    cases hq;have hw:w7=w3.drew:=by simpa using hw
    subst hw;have h0':a.tmps[0]?.getD undef=P_ b:=gq (hfr 0 (by simp));clear hdep hfr;simp [go_sem,Act.eval,h0']
  | 7,_ =>
    cases hq;have hw:w7=w3.drew:=by simpa using hw
    subst hw;have h0:a.tmps.getD 18 undef=P_ b:=hdep ⟨6,.data⟩ (by simp) rfl _ rfl;have h0':a.tmps[18]?.getD undef=P_ b:=by rw [<- h0];simp [Array.getD_eq_getD_getElem?]
    clear hdep hfr;simp [go_sem,Act.eval,h0']
  | 8,_ =>
    cases hq;have hw:w7=w3.drew:=by simpa using hw
    subst hw;have h0:a.tmps.getD 19 undef=P_ b:=hdep ⟨7,.data⟩ (by simp) rfl _ rfl;have h0':a.tmps[19]?.getD undef=P_ b:=by rw [<- h0];simp [Array.getD_eq_getD_getElem?]
    clear hdep hfr;simp [go_sem,Act.eval,h0']
  | 9,_ =>
    cases hq;have hw:w7=w3.drew:=by simpa using hw
    subst hw;have h0:a.tmps.getD 20 undef=P_ b:=hdep ⟨8,.data⟩ (by simp) rfl _ rfl;have h0':a.tmps[20]?.getD undef=P_ b:=by rw [<- h0];simp [Array.getD_eq_getD_getElem?]
    clear hdep hfr;simp [go_sem,Act.eval,h0']
  | 10,_ =>
    cases hq;have hw:w7=w3.drew:=by simpa using hw
    subst hw;have h0:a.tmps.getD 21 undef=R_ b 1:=hdep ⟨9,.data⟩ (by simp) rfl _ rfl;have h0':a.tmps[21]?.getD undef=R_ b 1:=by rw [<- h0];simp [Array.getD_eq_getD_getElem?]
    clear hdep hfr;simp [go_sem,Act.eval,h0',c1]
  | 11,_ =>
    cases hq;have hw:w7=w3.drew:=by simpa using hw
    subst hw;have h0':a.tmps[0]?.getD undef=P_ b:=gq (hfr 0 (by simp));clear hdep hfr;simp [go_sem,Act.eval,h0']
  | 12,_ =>
    cases hq;have hw:w7=w3.drew:=by simpa using hw
    subst hw;have h0:a.tmps.getD 23 undef=P_ b:=hdep ⟨11,.data⟩ (by simp) rfl _ rfl;have h0':a.tmps[23]?.getD undef=P_ b:=by rw [<- h0];simp [Array.getD_eq_getD_getElem?]
    clear hdep hfr;simp [go_sem,Act.eval,h0']
  | 13,_ =>
    cases hq;have hw:w7=w3.drew:=by simpa using hw
    subst hw;have h0:a.tmps.getD 24 undef=P_ b:=hdep ⟨12,.data⟩ (by simp) rfl _ rfl;have h0':a.tmps[24]?.getD undef=P_ b:=by rw [<- h0];simp [Array.getD_eq_getD_getElem?]
    clear hdep hfr;simp [go_sem,Act.eval,h0']
  | 14,_ =>
    cases hq;have hw:w7=w3.drew:=by simpa using hw
    subst hw;have h0:a.tmps.getD 25 undef=P_ b:=hdep ⟨13,.data⟩ (by simp) rfl _ rfl;have h0':a.tmps[25]?.getD undef=P_ b:=by rw [<- h0];simp [Array.getD_eq_getD_getElem?]
    clear hdep hfr;simp [go_sem,Act.eval,h0']
  | 15,_ =>
    cases hq;have hw:w7=w3.drew:=by simpa using hw
    subst hw;have h0:a.tmps.getD 26 undef=R_ b 2:=hdep ⟨14,.data⟩ (by simp) rfl _ rfl;have h0':a.tmps[26]?.getD undef=R_ b 2:=by rw [<- h0];simp [Array.getD_eq_getD_getElem?]
    clear hdep hfr;rw [execOp_ldW];show (dZ (a.tmps.getD 26 undef)).run _ _=_;rw [h0];exact ldx
 ·intro a hdep hfr;have g0:a.tmps.getD 17 undef=P_ p:=hdep ⟨5,.data⟩ (by simp) rfl _ rfl;have g0':a.tmps[17]?.getD undef=P_ p:=by rw [<- g0];simp [Array.getD_eq_getD_getElem?]
  have g1:a.tmps.getD 22 undef=J r:=hdep ⟨10,.data⟩ (by simp) rfl _ rfl;have g1':a.tmps[22]?.getD undef=J r:=by rw [<- g1];simp [Array.getD_eq_getD_getElem?]
  have g2:a.tmps.getD 27 undef=.agg (X_ 1 h vk vn vstr (.slice pv nv cv) vr (S_) 0 0 0 0 0 false):=hdep ⟨15,.data⟩ (by simp) rfl _ rfl;have g2':a.tmps[27]?.getD undef=.agg (X_ 1 h vk vn vstr (.slice pv nv cv) vr (S_) 0 0 0 0 0 false):=by rw [<- g2];simp [Array.getD_eq_getD_getElem?]
  clear hdep hfr;unfold Oper.wp;simp [go_sem,callFunc,Act.eval,Tryz.func107,g0',g1',g2'];refine Calls.mono HL.out ?_;rintro e w5 ⟨rfl,hl⟩;exact⟨_,rfl,rfl,hl⟩
 ·intro a w5 v hP hdf hsz hfr hval hv;obtain⟨rfl,hl⟩:=hP;have e0:a.tmps.getD 12 undef=.agg zV:=hval 0 _ rfl;have e1:a.tmps.getD 13 undef=P_ b:=hval 1 _ rfl;have e2:a.tmps.getD 14 undef=P_ b:=hval 2 _ rfl;have e3:a.tmps.getD 15 undef=P_ b:=hval 3 _ rfl;have e4:a.tmps.getD 16 undef=P_ b:=hval 4 _ rfl;have e5:a.tmps.getD 17 undef=P_ p:=hval 5 _ rfl;have e6:a.tmps.getD 18 undef=P_ b:=hval 6 _ rfl;have e7:a.tmps.getD 19 undef=P_ b:=hval 7 _ rfl;have e8:a.tmps.getD 20 undef=P_ b:=hval 8 _ rfl;have e9:a.tmps.getD 21 undef=R_ b 1:=hval 9 _ rfl;have e10:a.tmps.getD 22 undef=J r:=hval 10 _ rfl;have e11:a.tmps.getD 23 undef=P_ b:=hval 11 _ rfl;have e12:a.tmps.getD 24 undef=P_ b:=hval 12 _ rfl;have e13:a.tmps.getD 25 undef=P_ b:=hval 13 _ rfl;have e14:a.tmps.getD 26 undef=R_ b 2:=hval 14 _ rfl;have e15:a.tmps.getD 27 undef=.agg (X_ 1 h vk vn vstr (.slice pv nv cv) vr (S_) 0 0 0 0 0 false):=hval 15 _ rfl;have ha:=bq hdf hsz hfr;simp only [List.take_succ_cons,List.take_zero,List.cons_append,List.nil_append,List.filterMap_cons,List.filterMap_nil,List.foldl_cons,List.foldl_nil,List.setIfInBounds_toArray,List.set_cons_zero,List.set_cons_succ,e0,e1,e2,e3,e4,e5,e6,e7,e8,e9,e10,e11,e12,e13,e14,e15,hv]at ha;clear hdf hsz hfr hval hv e0 e1 e2 e3 e4 e5 e6 e7 e8 e9 e10 e11 e12 e13 e14 e15;subst ha
  have hr5:w5.heap[w.heap.size+1]? = some (.cells zV 27 (0,0)):=by
   obtain⟨vl',vals',F',l0,l1,l2,l3⟩:=hl;exact(l2.block _ (aw (aX HK.out.2.1)) (fun e=>by have:=HbF.out _ e;omega)).trans (aX HK.out.2.1)
  have hst:(bZ (P_ (w.heap.size+1)) (.agg zV)).run Tryz.prog w5=.ok .skip w5:=bf hr5 rfl (by simp [zV]) (by simp [zV,go_sem]) (by simp [zV])
  have HE:Hid (∃ raw',kZ w p M F r (bn h ⟨vk,vn,vstr,vl,vr⟩ raw') b w5):=by
   obtain⟨vl',vals',F',⟨-,l0⟩,l1,l2,l3⟩:=hl;rw [l0 rfl]at l1;exact⟨vl',F',l1,(HK.out.1.drew).trans l2 (fun _ _ h=>.inr h) (fun _ _ h=>.inl h),fun y hy=>(l3 y hy).imp id fun h=>Nat.le_trans HK.out.1.drew.size h⟩
  obtain⟨⟨r0,r1,r2,r3,r4⟩,-⟩:=ax hr5;clear hl hr5 c0 c1 ldx HL HK HS3;unfold bQ Oper.wp;rw [aW];simp [go_sem,Act.eval,hst];unfold bQ Oper.wp;simp [execOp,go_sem,Act.eval,bQ];refine ‹∀ (a:Act) (w:World),Code.wp Tryz.prog _ _ a w->_› _ _ ?_
  go_wp2_with fail
  refine bodyPost_ret (v:=.tuple #[.agg zV,J 0]) (by simp [results,Tryz.results323,go_sem,r0,r1,r2,r3,r4,zV]) rfl ⟨rfl,HE.out⟩
end
section
variable {w:World} {p:Nat} {M:WM} {F:Nat->Prop}
abbrev qm (h tg:Int):Th:=lt 11 h 0 0 0 0 tg 0 0 false
theorem kv:ff 27 4 29 bZ:=fun _ _ _ _ _=>rfl
abbrev ll (h xk xn xr:Int) (xs:ByteArray) (vl:Value) (fu:Bool):Array Value:=#[U 10,J h,U xk,J xn,.string xs,vl,J xr,S_,J 0,J 0,J 0,J 0,U 0,.bool fu,S_,S_]
abbrev zX:Array Value:=(wr 0 0 0 0 0 0 0 0 0 false)
def pC (xl:List Val) (vl:Value):Prop:=(xl = []->vl=.slice none 0 0)/\∃ a n c,vl=.slice a n c
def vK (w:World) (p:Nat) (M:WM) (F:Nat->Prop) (tg h:Int) (v:Val) (fu:Bool) (b:Nat) (e:Ending) (w':World):Prop :=
 (fu=true/\e=.returned (.tuple #[.agg zV,J 83])/\Bl w w')\/(fu=false/\e=.returned (.tuple #[.agg zV,J 0])/\∃ raw',kZ w p M F tg (dX h v raw' true) b w')
theorem yI {h xk xn xr vk vn vr:Int} {xs vstr:ByteArray} {vl raw:Value} {w:World} {g:Nat} (hg:w.heap[g]? = some (.cells (ll h xk xn xr xs vl false) 46 (0,0))) :
 ((((((w.setCell ⟨g,13,none⟩ (.bool true)).setCell ⟨g,2,none⟩ (U vk)).setCell ⟨g,3,none⟩ (J vn)).setCell ⟨g,4,none⟩ (.string vstr)).setCell ⟨g,5,none⟩ raw).setCell ⟨g,6,none⟩ (J vr)).heap[g]? = some (.cells (ll h vk vn vr vstr raw true) 46 (0,0)) :=
 aA (aA (aA (aA (aA (aA hg 13 (.bool true)) 2 (U vk)) 3 (J vn)) 4 (.string vstr)) 5 raw) 6 (J vr)
theorem sH {w:World} {g:Nat} {a0 a1 a2 a3 a4 a5:Value}:Keeps (fun y=>y=g) w ((((((w.setCell ⟨g,13,none⟩ a0).setCell ⟨g,2,none⟩ a1).setCell ⟨g,3,none⟩ a2).setCell ⟨g,4,none⟩ a3).setCell ⟨g,5,none⟩ a4).setCell ⟨g,6,none⟩ a5):=by
 have h:=fun(w:World) (j:Nat) (a:Value)=>Keeps.setCell (S:=fun y=>y=g) w ⟨g,j,none⟩ a rfl;exact(((((h _ 13 a0).trans (h _ 2 a1) (fun _ _ h=>h) (fun _ _ h=>h)).trans (h _ 3 a2) (fun _ _ h=>h) (fun _ _ h=>h)).trans (h _ 4 a3) (fun _ _ h=>h) (fun _ _ h=>h)).trans (h _ 5 a4) (fun _ _ h=>h) (fun _ _ h=>h)).trans (h _ 6 a5) (fun _ _ h=>h) (fun _ _ h=>h)
theorem AK {h:Int} {v:Val} {raw:Value} {fu:Bool} (h2:∀ r ∈ aM v,(Lit.int .i64 r).wf=true/\(M.at r).isSome=true):∀ r ∈ bk (dX h v raw fu),(Lit.int .i64 r).wf=true/\(M.at r).isSome=true:=by
 intro r hr;have e:bk (dX h v raw fu)=aM v:=by simp [bk]
 rw [e]at hr;exact h2 r hr
def KpPhi (b B0 p:Nat) (tg h xk xn xr:Int) (xs:ByteArray) (xl:List Val) (fu:Bool) (j:Nat) (v:Value) (wx:World):Prop :=
 match j with
 | 0=>v=P_ b
 | 1=>v=P_ b
 | 2=>v=P_ b
 | 3=>v=P_ b
 | 4=>v=P_ p
 | 5=>v=P_ b
 | 6=>v=P_ b
 | 7=>v=P_ b
 | 8=>v=R_ b 2
 | 9=>v=R_ b 12
 | 10=>v=J tg
 | 11=>∃ vl,pC xl vl/\v=.tuple #[.agg (ll h xk xn xr xs vl fu),J 0]
 | 12=>∃ vl,pC xl vl/\v=.tuple #[.agg (ll h xk xn xr xs vl fu),J 0]
 | 13=>∃ vl,pC xl vl/\v=.agg (ll h xk xn xr xs vl fu)
 | 14=>v=J 0
 | 15=>∃ g,v=P_ g/\B0≤g/\wx.heap[g]? = some (.cells zX 46 (0,0))
 | _=>True
theorem KpPhi.stab {b B0 p:Nat} {tg h xk xn xr:Int} {xs:ByteArray} {xl:List Val} {fu:Bool}:∀ (j:Nat) (v:Value) (w w':World),Bl w w'->KpPhi b B0 p tg h xk xn xr xs xl fu j v w->KpPhi b B0 p tg h xk xn xr xs xl fu j v w':=by
 intro j v w w' hR h;unfold KpPhi at h ⊢;split at h
 ·exact h
 ·exact h
 ·exact h
 ·exact h
 ·exact h
 ·exact h
 ·exact h
 ·exact h
 ·exact h
 ·exact h
 ·exact h
 ·exact h
 ·exact h
 ·exact h
 ·exact h
 ·obtain⟨g,h1,h0,h2⟩:=h;exact⟨g,h1,h0,ae hR h2⟩
 ·trivial
attribute [local go_sem ↓] kv in
theorem tO (hW:IsW w p M F) {r tg h h':Int} (hr:(Lit.int .i64 tg).wf=true) {x:Val} {raw0:Value} {fu:Bool} (hm:ay x=true) (ht:M.at tg=some (dX h x raw0 fu)) {b:Nat} (hb:w.heap[b]? = some (.cells (bj p r (qm h' tg)) 251 (0,0)))
 (hbF:¬ F b) (hh:be M h=true) {FB:Nat->Prop} {v:Val} {pv:Option Addr} {cv:Nat} (hv:SlAt w FB (.slice pv v.l.length cv) v.l) (hmv:ay v=true) (hkn:∀ r ∈ aM v,(Lit.int .i64 r).wf=true/\(M.at r).isSome=true) :
 Calls Tryz.prog 336 #[P_ b,.agg (au v (.slice pv v.l.length cv))] w (vK w p M F tg h v fu b):=by
 have hlt:=aw hb;have HP:Hid (SlAt w FB (.slice pv v.l.length cv) v.l/\ay v=true/\(∀ r ∈ aM v,(Lit.int .i64 r).wf=true/\(M.at r).isSome=true)/\IsW w p M F/\M.at tg=some (dX h x raw0 fu)/\be M h=true):=⟨hv,hmv,hkn,hW,ht,hh⟩;have HbF2:Hid (¬ F b):=hbF;clear hv hmv hkn hh hbF;obtain⟨xk,xn,xs,xl,xr⟩:=x
 have HWh:Hid (∀ w',Bl w w'->Calls Tryz.prog 137 #[P_ p,J tg] w' fun e w''=>(∃ vl,pC xl vl/\e=.returned (.tuple #[.agg (ll h xk xn xr xs vl fu),J 0]))/\Bl w' w''):=fun w' hb'=>by
  refine(pD (hW.below hb') hr ht ⟨hm,fun x hx=>(by cases hx),Nat.zero_le _⟩).mono ?_;rintro e w'' ⟨vl',vals',rfl,hb2,hd,h5,h6,-⟩;rw [h6 rfl];obtain⟨pa,ca,hf⟩:=hd.v.form;exact⟨⟨vl',⟨h5,_,_,_,hf⟩,rfl⟩,hb2⟩
 have HbF:Hid (∀ y,F y->y<w.heap.size):=hW.lt;clear hm ht hW;obtain⟨vk,vn,vstr,vl,vr⟩:=v;simp only [au]at HP ⊢;generalize hnv:vl.length=nv at *
 have HX:Hid (Bl w ((w.alloc (.cells (V_ vk vn vstr (.slice pv nv cv) vr) 27)).alloc (.cells O 27)) /\
  ((w.alloc (.cells (V_ vk vn vstr (.slice pv nv cv) vr) 27)).alloc (.cells O 27)).heap[w.heap.size]? = some (.cells (V_ vk vn vstr (.slice pv nv cv) vr) 27 (0,0)) /\
  ((w.alloc (.cells (V_ vk vn vstr (.slice pv nv cv) vr) 27)).alloc (.cells O 27)).heap[w.heap.size+1]? = some (.cells zV 27 (0,0))) :=
  ⟨(br.alloc aH _).alloc (by simp) _,aL _ _ _,aK _ _ _⟩
 go_enter Tryz.func336,Tryz.ntmps336
 go_upto_region 1 with fail
 revert HX;generalize (w.alloc _).alloc _=wa;intro HX;have Hb:Hid (wa.heap[b]? = some (.cells (bj p r (qm h' tg)) 251 (0,0))):=(HX.out.1.block b hlt).trans hb;refine cI 16 14 22 6 21 46 (J 0) (by kernel_rfl) rfl (by kernel_rfl) rfl rfl rfl (by decide) (by decide) (by kernel_rfl) (fun a b=>Bl a b) (KpPhi b wa.heap.size p tg h xk xn xr xs xl fu) (fun w'=>Bl wa w') (fun j v w w'=>KpPhi.stab j v w w') (fun w=>br) below_drew (fun a b h hR=>h.trans (hR.mono h.size)) (fun w=>rfl) ?_ ?_ ?_
 ·intro a w w' hdep;obtain⟨vl,hq1,h8⟩:=hdep ⟨12,.data⟩ (by simp) rfl _ rfl;have h8':a.tmps[8]?.getD undef=.tuple #[.agg (ll h xk xn xr xs vl fu),J 0]:=gq (h8);clear hdep;simp [go_sem,h8']
 ·intro j q a w7 hne hq hC hG;have hj:j<16:=ji hq
  match j,hj with
  | 0,_=>cases hq;have h0':a.tmps[0]?.getD undef=P_ b:=gq (hG.fr 0 (by simp));unfold Oper.wp;simp [go_sem,Act.eval,h0'];exact⟨_,rfl,br,rfl⟩
  | 1,_=>cases hq;have h9':=gq (i:=9) (gd hG 0 rfl);unfold Oper.wp;simp [go_sem,Act.eval,h9'];exact⟨_,rfl,br,rfl⟩
  | 2,_=>cases hq;have h10':=gq (i:=10) (gd hG 1 rfl);unfold Oper.wp;simp [go_sem,Act.eval,h10'];exact⟨_,rfl,br,rfl⟩
  | 3,_=>cases hq;have h11':=gq (i:=11) (gd hG 2 rfl);unfold Oper.wp;simp [go_sem,Act.eval,h11'];exact⟨_,rfl,br,rfl⟩
  | 4,_ =>
    cases hq;have h12':=gq (i:=12) (gd hG 3 rfl);have c3:w7.cell? ⟨b,0,none⟩=some (.pointer (some ⟨p,0,none⟩)):=by rw [ag (ae hC Hb.out)];rfl
    unfold Oper.wp;simp [go_sem,Act.eval,h12',c3];exact⟨_,rfl,br,rfl⟩
  | 5,_=>cases hq;have h0':a.tmps[0]?.getD undef=P_ b:=gq (hG.fr 0 (by simp));unfold Oper.wp;simp [go_sem,Act.eval,h0'];exact⟨_,rfl,br,rfl⟩
  | 6,_=>cases hq;have h14':=gq (i:=14) (gd hG 5 rfl);unfold Oper.wp;simp [go_sem,Act.eval,h14'];exact⟨_,rfl,br,rfl⟩
  | 7,_=>cases hq;have h15':=gq (i:=15) (gd hG 6 rfl);unfold Oper.wp;simp [go_sem,Act.eval,h15'];exact⟨_,rfl,br,rfl⟩
  | 8,_=>cases hq;have h16':=gq (i:=16) (gd hG 7 rfl);unfold Oper.wp;simp [go_sem,Act.eval,h16'];exact⟨_,rfl,br,rfl⟩
  | 9,_=>cases hq;have h17':=gq (i:=17) (gd hG 8 rfl);unfold Oper.wp;simp [go_sem,Act.eval,h17'];exact⟨_,rfl,br,rfl⟩
  | 10,_ =>
    cases hq;have h18':=gq (i:=18) (gd hG 9 rfl);have c3:w7.cell? ⟨b,12,none⟩=some (.int .i64 tg):=by rw [ag (ae hC Hb.out)];rfl
    unfold Oper.wp;simp [go_sem,Act.eval,h18',c3];exact⟨_,rfl,br,rfl⟩
  | 11,_ =>
    cases hq;have h13':=gq (i:=13) (gd hG 4 rfl);have h19':=gq (i:=19) (gd hG 10 rfl);unfold Oper.wp;simp [go_sem,callFunc,Act.eval,Tryz.func137,h13',h19'];refine Calls.mono (HWh.out _ (HX.out.1.trans (hC.mono HX.out.1.size))) ?_;rintro e w8 ⟨⟨vl,hq1,rfl⟩,hb8⟩;exact⟨_,rfl,hb8,vl,hq1,rfl⟩
  | 12,_ =>
    cases hq;obtain⟨vl,hq1,h20⟩:=gd hG 11 rfl;have h20':a.tmps[20]?.getD undef=.tuple #[.agg (ll h xk xn xr xs vl fu),J 0]:=gq (h20);unfold Oper.wp;simp [go_sem,Act.eval,h20'];exact⟨_,rfl,br,vl,hq1,rfl⟩
  | 13,_ =>
    cases hq;obtain⟨vl,hq1,h8⟩:=gd hG 12 rfl;have h8':a.tmps[8]?.getD undef=.tuple #[.agg (ll h xk xn xr xs vl fu),J 0]:=gq (h8);unfold Oper.wp;simp [go_sem,Act.eval,h8'];exact⟨_,rfl,br,vl,hq1,rfl⟩
  | 14,_=>exact absurd rfl hne
  | 15,_ =>
    cases hq;unfold Oper.wp;simp [go_sem];exact⟨_,rfl,br.alloc aH _,w7.heap.size,rfl,hC.size,ai _ _⟩
 intro a w7 hC hdf hsz hfr hphi;have e0:a.tmps.getD 9 undef=_:=hphi 0 _ rfl;have e1:a.tmps.getD 10 undef=_:=hphi 1 _ rfl;have e2:a.tmps.getD 11 undef=_:=hphi 2 _ rfl;have e3:a.tmps.getD 12 undef=_:=hphi 3 _ rfl;have e4:a.tmps.getD 13 undef=_:=hphi 4 _ rfl;have e5:a.tmps.getD 14 undef=_:=hphi 5 _ rfl;have e6:a.tmps.getD 15 undef=_:=hphi 6 _ rfl;have e7:a.tmps.getD 16 undef=_:=hphi 7 _ rfl;have e8:a.tmps.getD 17 undef=_:=hphi 8 _ rfl;have e9:a.tmps.getD 18 undef=_:=hphi 9 _ rfl;have e10:a.tmps.getD 19 undef=_:=hphi 10 _ rfl;have p11:∃ vl,pC xl vl/\(a.tmps.getD 20 undef)=.tuple #[.agg (ll h xk xn xr xs vl fu),J 0]:=hphi 11 _ rfl;obtain⟨u11,e11⟩:∃ u,a.tmps.getD 20 undef=u:=⟨_,rfl⟩;rw [e11]at p11;have p12:∃ vl,pC xl vl/\(a.tmps.getD 8 undef)=.tuple #[.agg (ll h xk xn xr xs vl fu),J 0]:=hphi 12 _ rfl;obtain⟨u12,e12⟩:∃ u,a.tmps.getD 8 undef=u:=⟨_,rfl⟩;rw [e12]at p12;have p13:∃ vl,pC xl vl/\(a.tmps.getD 21 undef)=.agg (ll h xk xn xr xs vl fu):=hphi 13 _ rfl;obtain⟨u13,e13⟩:∃ u,a.tmps.getD 21 undef=u:=⟨_,rfl⟩;rw [e13]at p13;have e14:a.tmps.getD 22 undef=J 0:=hphi 14 _ rfl;obtain⟨g,e15,hg0,hg⟩:=hphi 15 _ rfl;have e15:a.tmps.getD 6 undef=P_ g:=e15;have ha:=bq hdf hsz hfr;simp only [List.take_succ_cons,List.take_zero,List.filterMap_cons,List.filterMap_nil,List.foldl_cons,List.foldl_nil,List.setIfInBounds_toArray,List.set_cons_zero,List.set_cons_succ,e0,e1,e2,e3,e4,e5,e6,e7,e8,e9,e10,e11,e12,e13,e14,e15]at ha;clear hdf hsz hfr hphi e0 e1 e2 e3 e4 e5 e6 e7 e8 e9 e10 e11 e12 e13 e14 e15;subst ha;obtain⟨vl1,⟨-,pa1,n1,c1,hvl1⟩,rfl⟩:=p13;clear p11 p12;have hst:=aS (c':=ll h xk xn xr xs vl1 fu) hg rfl rfl (by rw [hvl1];simp [go_sem]);refine⟨w7.setRow g (ll h xk xn xr xs vl1 fu),?_,?_⟩
 ·rw [execOp_stW];simp [Act.eval,hst]
 have HY:Hid (Bl w (w7.setRow g (ll h xk xn xr xs vl1 fu))/\(w7.setRow g (ll h xk xn xr xs vl1 fu)).heap[g]? = some (.cells (ll h xk xn xr xs vl1 fu) 46 (0,0))/\(w7.setRow g (ll h xk xn xr xs vl1 fu)).heap[b]? = some (.cells (bj p r (qm h' tg)) 251 (0,0)) /\
  (w7.setRow g (ll h xk xn xr xs vl1 fu)).heap[w.heap.size+1]? = some (.cells zV 27 (0,0))/\(w7.setRow g (ll h xk xn xr xs vl1 fu)).heap[w.heap.size]? = some (.cells (V_ vk vn vstr (.slice pv nv cv) vr) 27 (0,0))/\w.heap.size+1<g):=by
  have h1:=aw HX.out.2.2;refine⟨Below.setRow (HX.out.1.trans (hC.mono HX.out.1.size)) (by omega) _,ah hg,?_,?_,?_,by omega⟩
  ·rw [aj _ _ _ _ (by omega)];exact ae hC Hb.out
  ·rw [aj _ _ _ _ (by omega)];exact ae hC HX.out.2.2
  ·rw [aj _ _ _ _ (by omega)];exact ae hC HX.out.2.1
 clear hst hg hg0 hC HX Hb;refine⟨rfl,?_⟩;unfold Oper.wp;simp [execOp,go_sem,Act.eval,aV];revert HY;generalize World.setRow _ _ _=w8;intro HY;refine ‹∀ (a:Act) (w:World),Code.wp Tryz.prog _ _ a w->_› _ _ ?_;have c13:w8.cell? ⟨g,13,none⟩=some (.bool fu):=by rw [ag HY.out.2.1];rfl
 cases fu with
 | true =>
   have hst:(bZ (P_ (w.heap.size+1)) (.agg O)).run Tryz.prog w8=.ok .skip w8:=bf HY.out.2.2.2.1 rfl (by simp [zV]) (by simp [go_sem]) (by simp [zV]);obtain⟨⟨r0,r1,r2,r3,r4⟩,-⟩:=ax HY.out.2.2.2.1
   go_wp2_with fail
   exact bodyPost_ret (v:=.tuple #[.agg zV,J 83]) (by simp [results,Tryz.results336,go_sem,r0,r1,r2,r3,r4,zV]) rfl (.inl ⟨rfl,rfl,HY.out.1⟩)
 | false =>
   go_upto_region 6 with fail
   obtain⟨⟨d0,d1,d2,d3,d4⟩,-⟩:=ax HY.out.2.2.2.2.1;have f13:=av HY.out.2.1 13;have f2:=av HY.out.2.1 2;have f3:=av HY.out.2.1 3;have f4:=av HY.out.2.1 4;have f5:=av HY.out.2.1 5;have f6:=av HY.out.2.1 6;have q2:w8.cell? ⟨g,2,none⟩=some (.int .u8 xk):=by rw [ag HY.out.2.1];rfl
   have q3:w8.cell? ⟨g,3,none⟩=some (.int .i64 xn):=by rw [ag HY.out.2.1];rfl
   have q4:w8.cell? ⟨g,4,none⟩=some (.string xs):=by rw [ag HY.out.2.1];rfl
   have q5:w8.cell? ⟨g,5,none⟩=some vl1:=by rw [ag HY.out.2.1];rfl
   have q6:w8.cell? ⟨g,6,none⟩=some (.int .i64 xr):=by rw [ag HY.out.2.1];rfl
   have hgw:w.heap.size≠g:=by have:=HY.out.2.2.2.2.2;omega
   go_region
   go_upto_region 7 with fail
   have HZ:Hid (Bl w ((((((w8.setCell ⟨g,13,none⟩ (.bool true)).setCell ⟨g,2,none⟩ (U vk)).setCell ⟨g,3,none⟩ (J vn)).setCell ⟨g,4,none⟩ (.string vstr)).setCell ⟨g,5,none⟩ (.slice pv nv cv)).setCell ⟨g,6,none⟩ (J vr)).drew/\((((((w8.setCell ⟨g,13,none⟩ (.bool true)).setCell ⟨g,2,none⟩ (U vk)).setCell ⟨g,3,none⟩ (J vn)).setCell ⟨g,4,none⟩ (.string vstr)).setCell ⟨g,5,none⟩ (.slice pv nv cv)).setCell ⟨g,6,none⟩ (J vr)).drew.heap[g]? = some (.cells (X_ 10 h vk vn vstr (.slice pv nv cv) vr (S_) 0 0 0 0 0 true) 46 (0,0))/\((((((w8.setCell ⟨g,13,none⟩ (.bool true)).setCell ⟨g,2,none⟩ (U vk)).setCell ⟨g,3,none⟩ (J vn)).setCell ⟨g,4,none⟩ (.string vstr)).setCell ⟨g,5,none⟩ (.slice pv nv cv)).setCell ⟨g,6,none⟩ (J vr)).drew.heap[b]? = some (.cells (bj p r (qm h' tg)) 251 (0,0))/\((((((w8.setCell ⟨g,13,none⟩ (.bool true)).setCell ⟨g,2,none⟩ (U vk)).setCell ⟨g,3,none⟩ (J vn)).setCell ⟨g,4,none⟩ (.string vstr)).setCell ⟨g,5,none⟩ (.slice pv nv cv)).setCell ⟨g,6,none⟩ (J vr)).drew.heap[w.heap.size+1]? = some (.cells zV 27 (0,0))):=by
    have hk:=(sH (w:=w8) (g:=g) (a0:=.bool true) (a1:=U vk) (a2:=J vn) (a3:=.string vstr) (a4:=.slice pv nv cv) (a5:=J vr)).drew;have hlg:=HY.out.2.2.2.2.2;have hl1:=aw HY.out.2.2.2.1;have hlb:=aw HY.out.2.2.1;refine⟨HY.out.1.trans (hk.below HY.out.1.size (fun y hy=>by have:y=g:=hy;omega)),aX (yI HY.out.2.1),(hk.block b hlb (fun e=>?_)).trans HY.out.2.2.1,(hk.block _ hl1 (fun e=>?_)).trans HY.out.2.2.2.1⟩
    ·have:b=g:=e;omega
    ·have:w.heap.size+1=g:=e;omega
   clear d0 d1 d2 d3 d4 f13 f2 f3 f4 f5 f6 q2 q3 q4 q5 q6 hgw c13 HY;revert HZ;generalize World.drew _=w9;intro HZ;have c0:w9.drew.cell? ⟨b,0,none⟩=some (.pointer (some ⟨p,0,none⟩)):=by rw [ag (aX HZ.out.2.2.1)];rfl
   have c12:w9.drew.cell? ⟨b,12,none⟩=some (.int .i64 tg):=by rw [ag (aX HZ.out.2.2.1)];rfl
   have ldx:(dZ (P_ g)).run Tryz.prog w9.drew=.ok (.value (.agg (X_ 10 h vk vn vstr (.slice pv nv cv) vr (S_) 0 0 0 0 0 true))) w9.drew:=aD (aX HZ.out.2.1) rfl;obtain⟨hv,hmv,hkn,hW,ht,hh⟩:=HP.out;have hb9:Bl w w9.drew:=HZ.out.1.drew;have hW9:IsW w9.drew p M F:=hW.below hb9;have hv9:SlAt w9.drew FB (.slice pv nv cv) vl:=hv.on hb9;have hhm:=AK (h:=h) (raw:=.slice pv nv cv) (fu:=true) hkn
   have HL:Hid (Calls Tryz.prog 107 #[P_ p,J tg,.agg (X_ 10 h vk vn vstr (.slice pv nv cv) vr (S_) 0 0 0 0 0 true)] w9.drew fun e w'=>e=.returned (J 0)/\oq w9.drew p M F tg (dX h ⟨vk,vn,vstr,vl,vr⟩ (.slice pv nv cv) true) w'):=by
    have hP:aF (dX h ⟨vk,vn,vstr,vl,vr⟩ (.slice pv nv cv) true)=#[.int .u8 10,.int .i64 h,.int .u8 vk,.int .i64 vn,.string vstr,.slice pv nv cv,.int .i64 vr,.slice none 0 0,.int .i64 0,.int .i64 0,.int .i64 0,.int .i64 0,.int .u8 0,.bool true,.slice none 0 0,.slice none 0 0]:=rfl;rw [<- hP];refine pG hW9 hr ht rfl (x:=dX h ⟨vk,vn,vstr,vl,vr⟩ (.slice pv nv cv) true) ⟨hv9,SlAt.nil _ _ _ _,rfl,rfl⟩ ⟨hmv,fun x hx=>(by cases hx),Nat.zero_le _⟩ rfl rfl rfl rfl rfl (fun r hr=>(hhm r hr).1) (by unfold cX;rw [List.all_eq_true];exact fun r hr=>(hhm r hr).2) ?_;intro w' hb';have hV:iC w' (au ⟨vk,vn,vstr,vl,vr⟩ (.slice pv nv cv)):=ya (hv9.on hb') hmv;exact tC (hW9.below hb') hh hV oY
   have HK:Hid _:=hb9;clear hv hmv hkn hW ht hh hW9 hv9 hhm HP hb9;refine cl (z:=_) 13 [0] (fun i=>match i with | 0=>.agg zV | 1=>P_ b | 2=>P_ b | 3=>P_ b | 4=>P_ b | 5=>P_ p | 6=>P_ b | 7=>P_ b | 8=>P_ b | 9=>R_ b 2 | 10=>R_ b 12 | 11=>J tg | 12=>.agg (X_ 10 h vk vn vstr (.slice pv nv cv) vr (S_) 0 0 0 0 0 true) | _=>undef) (fun v w'=>v=J 0/\oq w9.drew p M F tg (dX h ⟨vk,vn,vstr,vl,vr⟩ (.slice pv nv cv) true) w') (by kernel_rfl) rfl (by kernel_rfl) rfl (by kernel_rfl) (by kernel_rfl) ?_ ?_ ?_
   ·intro i q a w7 hq hw hdep hfr;have hj:i<13:=ji hq
    match i,hj with
    | 0,_ =>
      cases hq;clear hw hdep hfr;simp [go_sem,zV]
    | 1,_ =>
      cases hq;have hw:w7=w9.drew:=by simpa using hw
      subst hw;have h0':a.tmps[0]?.getD undef=P_ b:=gq (hfr 0 (by simp));clear hdep hfr;simp [go_sem,Act.eval,h0']
    | 2,_ =>
      cases hq;have hw:w7=w9.drew:=by simpa using hw
      subst hw;have h34':a.tmps[34]?.getD undef=P_ b:=gq (hdep ⟨1,.data⟩ (by simp) rfl _ rfl);clear hdep hfr;simp [go_sem,Act.eval,h34']
    | 3,_ =>
      cases hq;have hw:w7=w9.drew:=by simpa using hw
      subst hw;have h35':a.tmps[35]?.getD undef=P_ b:=gq (hdep ⟨2,.data⟩ (by simp) rfl _ rfl);clear hdep hfr;simp [go_sem,Act.eval,h35']
    | 4,_ =>
      cases hq;have hw:w7=w9.drew:=by simpa using hw
      subst hw;have h36':a.tmps[36]?.getD undef=P_ b:=gq (hdep ⟨3,.data⟩ (by simp) rfl _ rfl);clear hdep hfr;simp [go_sem,Act.eval,h36']
    | 5,_ =>
      cases hq;have hw:w7=w9.drew:=by simpa using hw
      subst hw;have h37':a.tmps[37]?.getD undef=P_ b:=gq (hdep ⟨4,.data⟩ (by simp) rfl _ rfl);clear hdep hfr;simp [go_sem,Act.eval,h37',c0]
    | 6,_ =>
      cases hq;have hw:w7=w9.drew:=by simpa using hw
      subst hw;have h0':a.tmps[0]?.getD undef=P_ b:=gq (hfr 0 (by simp));clear hdep hfr;simp [go_sem,Act.eval,h0']
    | 7,_ =>
      cases hq;have hw:w7=w9.drew:=by simpa using hw
      subst hw;have h39':a.tmps[39]?.getD undef=P_ b:=gq (hdep ⟨6,.data⟩ (by simp) rfl _ rfl);clear hdep hfr;simp [go_sem,Act.eval,h39']
    | 8,_ =>
      cases hq;have hw:w7=w9.drew:=by simpa using hw
      subst hw;have h40':a.tmps[40]?.getD undef=P_ b:=gq (hdep ⟨7,.data⟩ (by simp) rfl _ rfl);clear hdep hfr;simp [go_sem,Act.eval,h40']
    | 9,_ =>
      cases hq;have hw:w7=w9.drew:=by simpa using hw
      subst hw;have h41':a.tmps[41]?.getD undef=P_ b:=gq (hdep ⟨8,.data⟩ (by simp) rfl _ rfl);clear hdep hfr;simp [go_sem,Act.eval,h41']
    | 10,_ =>
      cases hq;have hw:w7=w9.drew:=by simpa using hw
      subst hw;have h42':a.tmps[42]?.getD undef=R_ b 2:=gq (hdep ⟨9,.data⟩ (by simp) rfl _ rfl);clear hdep hfr;simp [go_sem,Act.eval,h42']
    | 11,_ =>
      cases hq;have hw:w7=w9.drew:=by simpa using hw
      subst hw;have h43':a.tmps[43]?.getD undef=R_ b 12:=gq (hdep ⟨10,.data⟩ (by simp) rfl _ rfl);clear hdep hfr;simp [go_sem,Act.eval,h43',c12]
    | 12,_ =>
      cases hq;have hw:w7=w9.drew:=by simpa using hw
      subst hw;have h6:a.tmps.getD 6 undef=P_ g:=hfr 6 (by simp);have h6':a.tmps[6]?.getD undef=P_ g:=gq h6;clear hdep hfr;rw [execOp_ldW];show (dZ (a.tmps.getD 6 undef)).run _ _=_;rw [h6];exact ldx
   ·intro a hdep hfr;have h38':a.tmps[38]?.getD undef=P_ p:=gq (hdep ⟨5,.data⟩ (by simp) rfl _ rfl);have h44':a.tmps[44]?.getD undef=J tg:=gq (hdep ⟨11,.data⟩ (by simp) rfl _ rfl);have h45':a.tmps[45]?.getD undef=.agg (X_ 10 h vk vn vstr (.slice pv nv cv) vr (S_) 0 0 0 0 0 true):=gq (hdep ⟨12,.data⟩ (by simp) rfl _ rfl);clear hdep hfr;unfold Oper.wp;simp [go_sem,callFunc,Act.eval,Tryz.func107,h38',h44',h45'];refine Calls.mono HL.out ?_;rintro e w5 ⟨rfl,hl⟩;exact⟨_,rfl,rfl,hl⟩
   ·intro a w5 v hP hdf hsz hfr hval hv;obtain⟨rfl,hl⟩:=hP;have e0:a.tmps.getD 33 undef=.agg zV:=hval 0 _ rfl;have e1:a.tmps.getD 34 undef=P_ b:=hval 1 _ rfl;have e2:a.tmps.getD 35 undef=P_ b:=hval 2 _ rfl;have e3:a.tmps.getD 36 undef=P_ b:=hval 3 _ rfl;have e4:a.tmps.getD 37 undef=P_ b:=hval 4 _ rfl;have e5:a.tmps.getD 38 undef=P_ p:=hval 5 _ rfl;have e6:a.tmps.getD 39 undef=P_ b:=hval 6 _ rfl;have e7:a.tmps.getD 40 undef=P_ b:=hval 7 _ rfl;have e8:a.tmps.getD 41 undef=P_ b:=hval 8 _ rfl;have e9:a.tmps.getD 42 undef=R_ b 2:=hval 9 _ rfl;have e10:a.tmps.getD 43 undef=R_ b 12:=hval 10 _ rfl;have e11:a.tmps.getD 44 undef=J tg:=hval 11 _ rfl;have e12:a.tmps.getD 45 undef=.agg (X_ 10 h vk vn vstr (.slice pv nv cv) vr (S_) 0 0 0 0 0 true):=hval 12 _ rfl;have ha:=bq hdf hsz hfr;simp only [List.take_succ_cons,List.take_zero,List.cons_append,List.nil_append,List.filterMap_cons,List.filterMap_nil,List.foldl_cons,List.foldl_nil,List.setIfInBounds_toArray,List.set_cons_zero,List.set_cons_succ,e0,e1,e2,e3,e4,e5,e6,e7,e8,e9,e10,e11,e12,hv]at ha;clear hdf hsz hfr hval hv e0 e1 e2 e3 e4 e5 e6 e7 e8 e9 e10 e11 e12;subst ha
    have hr5:w5.heap[w.heap.size+1]? = some (.cells zV 27 (0,0)):=by
     obtain⟨vl',vals',F',l0,l1,l2,l3⟩:=hl;exact(l2.block _ (aw (aX HZ.out.2.2.2)) (fun e=>by have:=HbF.out _ e;omega)).trans (aX HZ.out.2.2.2)
    have hst:(bZ (P_ (w.heap.size+1)) (.agg zV)).run Tryz.prog w5=.ok .skip w5:=bf hr5 rfl (by simp [zV]) (by simp [zV,go_sem]) (by simp [zV])
    have HE:Hid (∃ raw',kZ w p M F tg (dX h ⟨vk,vn,vstr,vl,vr⟩ raw' true) b w5):=by
     obtain⟨vl',vals',F',⟨-,l0⟩,l1,l2,l3⟩:=hl;rw [l0 rfl]at l1;exact⟨vl',F',l1,(Below.keeps HK.out l2).mono (fun _ _ h=>.inl h),fun y hy=>(l3 y hy).imp id fun h=>Nat.le_trans HK.out.size h⟩
    obtain⟨⟨r0,r1,r2,r3,r4⟩,-⟩:=ax hr5;clear hl hr5 c0 c12 ldx HL HK HZ;unfold bQ Oper.wp;rw [aW];simp [go_sem,Act.eval,hst];unfold bQ Oper.wp;simp [execOp,go_sem,Act.eval,bQ];refine ‹∀ (a:Act) (w:World),Code.wp Tryz.prog _ _ a w->_› _ _ ?_
    go_wp2_with fail
    refine bodyPost_ret (v:=.tuple #[.agg zV,J 0]) (by simp [results,Tryz.results336,go_sem,r0,r1,r2,r3,r4,zV]) rfl (.inr ⟨rfl,rfl,HE.out⟩)
end
end Go.Proofs.YthaliljaglldjaaGreat
