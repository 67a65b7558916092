/- Part of the proof. -/
import Derived.RangeFuncNested
import Derived.RangeFuncBound
import Derived.RangeFuncCalls
import Derived.RangeFuncLeaves
import Derived.RangeFuncFrom
import Derived.Shelf.Abstract
import Derived.Shelf.RegionOpen
import Derived.OwnWalkIn
import Derived.TacticsInMore
import Derived.LoopNIn
import Derived.LoopIn
import Derived.Maps.OwnIn
import Derived.Test.YthaliljaglldjaaGreatmAF
import Derived.StillTail
namespace Go.Proofs.YthaliljaglldjaaGreat
open Go.RowKit Go.Shelf Go.ChangeMaps Go.MapKept
section
attribute [local go_sem] Oper.semAt_some
theorem gB {A B:World} (h:Bl A B):A.grownBy B none:=⟨h.os,h.tape,h.output,h.size,fun k hk _=>h.block k hk⟩
end
section
attribute [local go_sem] Oper.semAt_some
theorem pL (w1:World) (xs:Array Value) (hs:xs.size=16) (h1:xs.all (·.oneCell')=true) :
 (Ax (P_ w1.heap.size) (.agg xs)).run Tryz.prog (w1.alloc (.cells (wr 0 0 0 0 0 0 0 0 0 false) 46))=.ok .skip ((w1.alloc (.cells (wr 0 0 0 0 0 0 0 0 0 false) 46)).setRow w1.heap.size xs) /\
 Bl w1 ((w1.alloc (.cells (wr 0 0 0 0 0 0 0 0 0 false) 46)).setRow w1.heap.size xs) /\
 ((w1.alloc (.cells (wr 0 0 0 0 0 0 0 0 0 false) 46)).setRow w1.heap.size xs).heap[w1.heap.size]? = some (.cells xs 46 (0,0)) :=
 ⟨aS (ai w1 _) rfl hs h1,Below.setRow (br.alloc aH _) aH _,ah (ai w1 _)⟩
theorem bh (w1:World) (xs:Array Value) (hs:xs.size=16) (h1:xs.all (·.oneCell')=true) :
 ∃ w2,(Ax (P_ w1.heap.size) (.agg xs)).run Tryz.prog (w1.alloc (.cells (wr 0 0 0 0 0 0 0 0 0 false) 46))=.ok .skip w2 /\
   Bl w1 w2/\w2.heap[w1.heap.size]? = some (.cells xs 46 (0,0))/\w2.heap.size=w1.heap.size+1:=by
 obtain⟨a,b,c⟩:=pL w1 xs hs h1;exact⟨_,a,b,c,by simp⟩
theorem gV {W:World} {B:Nat} {v:Value} {t:TypeId} (v':Value) (h:W.heap[B]? = some (.cells #[v] t (0,0))):(W.setCell ⟨B,0,none⟩ v').heap[B]? = some (.cells #[v'] t (0,0)):=by
 obtain⟨hlt,hk⟩:=Array.getElem?_eq_some_iff.1 h;show (W.heap.modify B _)[B]? = _;rw [Array.getElem?_eq_getElem (by rw [Array.size_modify];exact hlt),Array.getElem_modify_self,hk];rfl
theorem qW {W:World} {B:Nat} {v:Value} {t:TypeId} (h:W.heap[B]? = some (.cells #[v] t (0,0))):W.cell? ⟨B,0,none⟩=some v/\W.frozen? ⟨B,0,none⟩=false:=by
 constructor <;> simp [World.cell?,World.frozen?,h]
end
end Go.Proofs.YthaliljaglldjaaGreat
namespace Go.Proofs.YthaliljaglldjaaGreat
open Go.RowKit Go.ChangeMaps Go.MapKept
section
def aN:Nat->Val->List Int
 | 0,v=>if v.kind=4 then [v.r]else []
 | n+1,v=>(if v.kind=4 then [v.r]else []) ++ v.l.flatMap (aN n)
def aM (v:Val):List Int:=if ay v then aN 16 v else []
theorem gu:∀ {n p q:Nat} {v:Val},aP n p v=some q->(aN n v).length+q≤p:=by
 intro n
 induction n with
 | zero =>
   intro p q v h;have:=bJ h;unfold aN;split <;> simp <;> omega
 | succ n ih =>
   intro p q v h;have hlt:=bJ h
   by_cases hl:v.l = []
   ·unfold aN;rw [hl];split <;> simp <;> omega
   have hl0:v.l.length≠0:=fun e=>hl (List.length_eq_zero_iff.1 e)
   cases p with
   | zero=>cases h
   | succ p =>
     have hno:∀ {a b c:Option Nat} {nn r:Int} {s:ByteArray},(if dC nn s r v.l.length then a else none)=some q->False:=fun {a b c nn r s} h=>by
      split at h
      ·exact hl0 (db (by assumption))
      ·cases h
     by_cases h0:v.kind=0
     ·rw [sq h0]at h;exact(hno (b:=none) (c:=none) h).elim
     by_cases h1:v.kind=1
     ·rw [sw h1]at h;exact(hno (b:=none) (c:=none) h).elim
     by_cases h2:v.kind=2
     ·rw [so h2]at h;split at h
      ·cases h
      ·exact(hno (b:=none) (c:=none) h).elim
     by_cases h4:v.kind=4
     ·rw [sr h4]at h;split at h
      ·cases h
      ·exact(hno (b:=none) (c:=none) h).elim
     by_cases h3:v.kind=3
     ·by_cases hl':v.l.length > p
      ·rw [nh h3 hl']at h
       cases h
      ·rw [uI h3 hl']at h
       have key:∀ (l:List Val) (p q:Nat),bc n p l=some q->(l.flatMap (aN n)).length+q≤p:=by
        intro l
        induction l with
        | nil =>
          intro p q h;simp [bc]at h;simp;omega
        | cons x l ihl =>
          intro p q h;simp only [bc,List.foldlM_cons,bind,Option.bind_eq_some_iff]at h;obtain⟨a,h1,h2⟩:=h;have e1:=ih h1;have e2:=ihl a q h2;simp only [List.flatMap_cons,List.length_append];omega
       split at h
       ·cases h
       ·rename_i q' hq
        have:=key _ _ _ hq;split at h
        ·cases h
         unfold aN;rw [if_neg h4];simp only [List.nil_append];omega
        ·cases h
     ·rw [wS h0 h1 h2 h3 h4]at h
      cases h
theorem bW (v:Val):(aM v).length≤512:=by
 unfold aM;split
 ·rename_i h
  unfold ay at h;obtain⟨q,hq⟩:=Option.isSome_iff_exists.1 h;have:=gu hq;omega
 ·simp
def RowBox (w:World) (base B:Nat) (xs:List Int):Prop :=
 ∃ v,w.heap[B]? = some (.cells #[v] 77 (0,0))/\w.ownsRow base 25 1 v xs.length (xs.map (Value.int .i64))
def RefFr (w w':World):Prop:=w.heap.size≤w'.heap.size/\∀ (b:Nat) (cs:Array Value) (e:TypeId) (fr:Nat × Nat),w.heap[b]? = some (.cells cs e fr)->e≠25->e≠77->w'.heap[b]? = some (.cells cs e fr)
theorem RefFr.trans {a b c:World} (h:RefFr a b) (k:RefFr b c):RefFr a c:=⟨Nat.le_trans h.1 k.1,fun x cs e fr hx h1 h2=>k.2 x cs e fr (h.2 x cs e fr hx h1 h2) h1 h2⟩
theorem RefFr.of_below {a b:World} (h:Bl a b):RefFr a b:=⟨h.size,fun x _ _ _ hx _ _=>(h.block x (aw hx)).trans hx⟩
theorem SlAt.base {w w':World} {F:Nat->Prop} {s:Value} {l:List Val} {B:Nat} (h:SlAt w F s l) (hF:∀ b,F b->b<B) (hf:Below B w w'):SlAt w' F s l:=by
 induction h with
 | mk pa c l raw hcp h hr ih =>
   refine .mk pa c l raw hcp (fun i v hv=>?_) ih;obtain⟨b,o,h1,h2,h4,h5,h6,h7,h8⟩:=h i v hv;have e:=hf.block b (hF b h2)
   exact⟨b,o,h1,h2,(World.cell?_of_block (a:=⟨b,o+5 * i,none⟩) e).trans h4,(World.cell?_of_block (a:=⟨b,o+5 * i+1,none⟩) e).trans h5,
    (World.cell?_of_block (a:=⟨b,o+5 * i+2,none⟩) e).trans h6,(World.cell?_of_block (a:=⟨b,o+5 * i+3,none⟩) e).trans h7,(World.cell?_of_block (a:=⟨b,o+5 * i+4,none⟩) e).trans h8⟩
def PlAt (w:World) (pl:Value) (n:Nat):Prop:=∃ pa c,pl=.slice pa n c/\n≤c/\(pa=none->n=0/\c=0)/\∀ a,pa=some a->a.spot=none/\(n=0\/∃ cs fr,w.heap[a.block]? = some (.cells cs 3 fr)/\∀ j,j<n->∃ x,w.cell? ⟨a.block,a.off+j,none⟩=some (.int .i64 x))
theorem PlAt.reffr {w w':World} {pl:Value} {n:Nat} (h:PlAt w pl n) (hf:RefFr w w'):PlAt w' pl n:=by
 obtain⟨pa,c,rfl,h1,h2,h3⟩:=h;refine⟨pa,c,rfl,h1,h2,fun a ha=>⟨(h3 a ha).1,?_⟩⟩
 rcases(h3 a ha).2 with h | ⟨cs,fr,h4,h5⟩
 ·exact .inl h
 ·have e:=hf.2 a.block cs _ fr h4 (by decide) (by decide);refine .inr ⟨cs,fr,e,fun j hj=>?_⟩;obtain⟨x,hx⟩:=h5 j hj;exact⟨x,(World.cell?_of_block (a:=⟨a.block,a.off+j,none⟩) (e.trans h4.symm)).trans hx⟩
end
end Go.Proofs.YthaliljaglldjaaGreat
namespace Go.Proofs.YthaliljaglldjaaGreat
open Go.RowKit
section
def ba (o:Oper) (a:Act):Value:=match o.dst with | some d=>a.tmps.getD d undef | none=>undef
def dB:Value->Option Nat
 | .map b=>b
 | .slice (some a) _ _=>some a.block
 | .pointer (some a)=>some a.block
 | _=>none
structure Given (l:List Oper) (Φ:Nat->Value->World->Prop) (cre:Nat->Bool) (a0:Act) (o:Oper) (a:Act) (w:World):Prop where
 dep:∀ e ∈ o.after,Region.binds .any e=true->∀ oj,l[e.on]? = some oj->Φ e.on (ba oj a) w
 fr:∀ t,(∀ oj ∈ l,oj.dst≠some t)->a.tmps.getD t undef=a0.tmps.getD t undef
 sz:a.tmps.size=a0.tmps.size
 ne:∀ e ∈ o.after,∀ f ∈ o.after,Region.binds .any e=true->Region.binds .any f=true->e.on≠f.on->∀ oi oj,l[e.on]? = some oi->l[f.on]? = some oj->cre e.on=true->cre f.on=true->dB (ba oi a)≠dB (ba oj a)
theorem gd {l:List Oper} {Φ:Nat->Value->World->Prop} {cre:Nat->Bool} {a0:Act} {o:Oper} {a:Act} {w:World} (h:Given l Φ cre a0 o a w) (i:Nat) {j:Oper} (q:l[i]?=some j) (m:⟨i,.data⟩ ∈ o.after:=by simp):Φ i (ba j a) w:=h.dep ⟨i,.data⟩ m rfl j q
def kR (l:List Oper) (n:Nat):Bool :=
 (l.zipIdx.all fun x=>x.1.guard.isNone && (x.1.after.all fun e=>decide (e.on<x.2)) && (match x.1.dst with | some d=>decide (d<n) | none=>true)) &&
 (l.zipIdx.all fun x=>l.zipIdx.all fun y=>decide (x.2=y.2) || x.1.dst.isNone || decide (x.1.dst≠y.1.dst))
structure GInv (l:List Oper) (R:World->World->Prop) (Φ:Nat->Value->World->Prop) (cre:Nat->Bool) (C:World->Prop) (a0:Act) (L:Array Bool) (a:Act) (w:World):Prop where
 lsz:L.size=l.length
 c:C w
 sz:a.tmps.size=a0.tmps.size
 df:a.defers=a0.defers
 fr:∀ t,(∀ oj ∈ l,oj.dst≠some t)->a.tmps.getD t undef=a0.tmps.getD t undef
 phi:∀ (i:Nat) (o:Oper),l[i]? = some o->L.getD i false=true->Φ i (ba o a) w
 blk:∀ (i:Nat) (o:Oper),l[i]? = some o->L.getD i false=true->cre i=true->∃ b,dB (ba o a)=some b/\b<w.heap.size
 ne:∀ (i j:Nat) (oi oj:Oper),i≠j->l[i]? = some oi->l[j]? = some oj->L.getD i false=true->L.getD j false=true->cre i=true->cre j=true->dB (ba oi a)≠dB (ba oj a)
theorem bM (a:Act) (d:Nat) (v:Value) (t:Nat) (h:t≠d):(a.put (some d) v).tmps.getD t undef=a.tmps.getD t undef:=by
 have:¬ d=t:=fun e=>h e.symm;simp only [Act.put,Array.getD_eq_getD_getElem?,Array.getElem?_setIfInBounds,if_neg this]
theorem bN (a:Act) (d:Nat) (v:Value) (h:d<a.tmps.size):(a.put (some d) v).tmps.getD d undef=v:=by
 simp [Act.put,Array.getD_eq_getD_getElem?,h]
end
section
theorem lB {l:List Oper} {n:Nat} (hB:kR l n=true):(∀ (i:Nat) (o:Oper),l[i]? = some o->o.guard=none/\(∀ e ∈ o.after,e.on<i)/\∀ d,o.dst=some d->d<n) /\
 (∀ (i j:Nat) (oi oj:Oper),i≠j->l[i]? = some oi->l[j]? = some oj->∀ d,oi.dst=some d->oj.dst≠some d):=by
 simp only [kR,Bool.and_eq_true]at hB;obtain⟨hB1,hB2⟩:=hB
 have at1:∀ (i:Nat) (o:Oper),l[i]? = some o->o.guard=none/\(∀ e ∈ o.after,e.on<i)/\∀ d,o.dst=some d->d<n:=fun i o ho=>by
  have:=List.all_eq_true.1 hB1 (o,i) (List.mem_zipIdx_iff_getElem?.2 ho);simp only [Bool.and_eq_true,Option.isNone_iff_eq_none,Array.all_eq_true_iff_forall_mem,decide_eq_true_eq]at this;obtain⟨⟨h1,h2⟩,h3⟩:=this;exact⟨h1,h2,fun d hd=>by rw [hd]at h3;simpa using h3⟩
 have at2:∀ (i j:Nat) (oi oj:Oper),i≠j->l[i]? = some oi->l[j]? = some oj->∀ d,oi.dst=some d->oj.dst≠some d:=fun i j oi oj hne hi hj d hd=>by
  have h1:=List.all_eq_true.1 hB2 (oi,i) (List.mem_zipIdx_iff_getElem?.2 hi);have h2:=List.all_eq_true.1 h1 (oj,j) (List.mem_zipIdx_iff_getElem?.2 hj);simp only [Bool.or_eq_true,decide_eq_true_eq,Option.isNone_iff_eq_none]at h2
  rcases h2 with (h2 | h2) | h2
  ·exact absurd h2 hne
  ·rw [hd]at h2;cases h2
  ·rw [hd]at h2;exact fun e=>h2 e.symm
 exact⟨at1,at2⟩
theorem gT {P:Program} {Q:Exit->Act->World->Prop} {l:List Oper} {a0:Act} (hB:kR l a0.tmps.size=true)
 (R:World->World->Prop) (Φ:Nat->Value->World->Prop) (cre:Nat->Bool) (C:World->Prop)
 (hΦ:∀ j v w w',R w w'->Φ j v w->Φ j v w') (hRs:∀ w w',R w w'->w.heap.size≤w'.heap.size) (hC:∀ w w',C w->R w w'->C w')
 {i:Nat} {o:Oper} {a:Act} {w:World} {L:Array Bool}
 (step:C w->Given l Φ cre a0 o a w ->
  o.wp P a w (fun a' w'=>∃ v,a'=a.put o.dst v/\R w w'/\Φ i (o.dst.elim undef fun _=>v) w'/\(cre i=true->o.dst.isSome=true/\∃ b,dB v=some b/\w.heap.size≤b/\b<w'.heap.size)) Q)
 (hI:GInv l R Φ cre C a0 L a w) (ho:l[i]? = some o) (hdep:∀ e ∈ o.after,Region.binds .any e=true->L.getD e.on false=true) :
 o.wp P a w (GInv l R Φ cre C a0 (L.setIfInBounds i true)) Q:=by
 obtain⟨at1,at2⟩:=lB hB;have ho':=ho;obtain⟨-,-,hd⟩:=at1 i o ho';have hil:i<L.size:=by rw [hI.lsz];exact(List.getElem?_eq_some_iff.1 ho').1
 refine Oper.wp_mono ?_ (step hI.c ⟨fun e he hb oj hj=>hI.phi _ _ hj (hdep e he hb),hI.fr,hI.sz,fun e he f hf hbe hbf hne oi oj hi hj hci hcj=>hI.ne _ _ _ _ hne hi hj (hdep e he hbe) (hdep f hf hbf) hci hcj⟩);rintro a' w' ⟨v,rfl,hR,hv,hcr⟩
 have vother:∀ (j:Nat) (oj:Oper),j≠i->l[j]? = some oj->ba oj (a.put o.dst v)=ba oj a:=fun j oj hj hoj=>by
  cases hdo:o.dst with
  | none=>rfl
  | some d =>
    unfold ba
    cases hdj:oj.dst with
    | none=>rfl
    | some t =>
      have:=at2 i j o oj (Ne.symm hj) ho' hoj d hdo;exact bM a d v t (fun e=>this (by rw [hdj,e]))
 have vself:ba o (a.put o.dst v)=o.dst.elim undef fun _=>v:=by
  unfold ba
  cases hdo:o.dst with
  | none=>rfl
  | some d=>exact bN a d v (by rw [hI.sz];exact hd d hdo)
 have lold:∀ j,j≠i->(L.setIfInBounds i true).getD j false=true->L.getD j false=true:=fun j hj h=>by
  rwa [getD_set_ne false (Ne.symm hj)]at h
 exact {
  lsz:=by simpa using hI.lsz
  c:=hC _ _ hI.c hR
  sz:=by
   rw [<- hI.sz]
   cases o.dst with
   | none=>rfl
   | some d=>simp [Act.put]
  df:=by
   rw [<- hI.df]
   cases o.dst <;> rfl
  fr:=fun t ht=>by
   rw [<- hI.fr t ht]
   cases hdo:o.dst with
   | none=>rfl
   | some d=>exact bM a d v t (fun e=>ht o (List.mem_of_getElem? ho') (by rw [hdo,e]))
  phi:=fun j oj hj hl=>by
   by_cases e:j=i
   ·subst e;rw [ho']at hj
    cases hj
    rw [vself];exact hv
   ·rw [vother j oj e hj];exact hΦ _ _ _ _ hR (hI.phi j oj hj (lold j e hl))
  blk:=fun j oj hj hl hc=>by
   by_cases e:j=i
   ·subst e;rw [ho']at hj
    cases hj
    obtain⟨h1,b,h2,h3,h4⟩:=hcr hc;rw [vself];obtain⟨d,hd'⟩:=Option.isSome_iff_exists.1 h1;rw [hd'];exact⟨b,h2,h4⟩
   ·rw [vother j oj e hj];obtain⟨b,h2,h3⟩:=hI.blk j oj hj (lold j e hl) hc;exact⟨b,h2,Nat.lt_of_lt_of_le h3 (hRs _ _ hR)⟩
  ne:=fun j k oj ok hne hj hk hlj hlk hcj hck=>by
   have key:∀ (j:Nat) (oj:Oper),j≠i->l[j]? = some oj->L.getD j false=true->cre j=true->cre i=true->dB (ba oj a)≠dB (ba o (a.put o.dst v)):=fun j oj hj hoj hlj hcj hci=>by
    obtain⟨b,h2,h3⟩:=hI.blk j oj hoj hlj hcj;obtain⟨h1,b',h2',h3',h4'⟩:=hcr hci;obtain⟨d,hd'⟩:=Option.isSome_iff_exists.1 h1;rw [vself,hd',h2];show some b≠dB v;rw [h2'];simp;omega
   by_cases e:j=i
   ·subst e;rw [ho']at hj
    cases hj
    rw [vother k ok (Ne.symm hne) hk];exact(key k ok (Ne.symm hne) hk (lold k (Ne.symm hne) hlk) hck hcj).symm
   ·by_cases e':k=i
    ·subst e';rw [ho']at hk
     cases hk
     rw [vother j oj e hj];exact key j oj e hj (lold j e hlj) hcj hck
    ·rw [vother j oj e hj,vother k ok e' hk]
     exact hI.ne j k oj ok hne hj hk (lold j e hlj) (lold k e' hlk) hcj hck }
theorem iA {P:Program} {Q:Exit->Act->World->Prop} {id:Nat} {L:List Oper} {a0:Act} {w0:World} (hm:P.follows .mixedOrders=true) (z:Oper) (hz:L.getLast? = some z) (hB:kR L.dropLast a0.tmps.size=true)
 (hzb:(z.guard.isNone && (z.after.all fun e=>decide (e.on<L.dropLast.length)) && (List.range L.dropLast.length).all fun i=>z.after.any fun e=>e.on==i && Region.binds .any e)=true)
 (R:World->World->Prop) (Φ:Nat->Value->World->Prop) (cre:Nat->Bool) (C:World->Prop)
 (hΦ:∀ j v w w',R w w'->Φ j v w->Φ j v w') (hRs:∀ w w',R w w'->w.heap.size≤w'.heap.size) (hC0:C w0.drew) (hC:∀ w w',C w->R w w'->C w')
 (step:∀ (i:Nat) (o:Oper) (a:Act) (w:World),L.dropLast[i]? = some o->C w->Given L.dropLast Φ cre a0 o a w ->
  o.wp P a w (fun a' w'=>∃ v,a'=a.put o.dst v/\R w w'/\Φ i (o.dst.elim undef fun _=>v) w'/\(cre i=true->o.dst.isSome=true/\∃ b,dB v=some b/\w.heap.size≤b/\b<w'.heap.size)) Q)
 (done:∀ a w,C w->a.defers=a0.defers->a.tmps.size=a0.tmps.size->(∀ t,(∀ oj ∈ L.dropLast,oj.dst≠some t)->a.tmps.getD t undef=a0.tmps.getD t undef)->(∀ (i:Nat) (o:Oper),L.dropLast[i]? = some o->Φ i (ba o a) w) ->
  (∀ (i j:Nat) (oi oj:Oper),i≠j->L.dropLast[i]? = some oi->L.dropLast[j]? = some oj->cre i=true->cre j=true->dB (ba oi a)≠dB (ba oj a))->z.wp P a w (fun a' w'=>Q .normal a' w') Q) :
 (Code.region id L.toArray true).wp P Q a0 w0:=by
 obtain⟨at1,at2⟩:=lB hB
 have hL:L=L.dropLast ++ [z]:=by
  have hne:L ≠ []:=fun e=>by rw [e]at hz;cases hz
  have h1:=List.dropLast_concat_getLast hne
  have h2:L.getLast hne=z:=by
   have:=List.getLast?_eq_some_getLast hne;rw [hz]at this;exact(Option.some.inj this).symm
  rw [h2]at h1;exact h1.symm
 simp only [Bool.and_eq_true]at hzb;obtain⟨⟨hz1,hz2⟩,hz3⟩:=hzb;revert at1 at2 hB step done hz2 hz3;generalize L.dropLast=l at hL ⊢;subst hL;intro hB step done at1 at2 hz3 hz2
 have hz2:∀ e ∈ z.after,e.on<l.length:=fun e he=>by
  rw [Array.all_eq_true_iff_forall_mem]at hz2;exact of_decide_eq_true (hz2 e he)
 have hz3:∀ i,i<l.length->∃ e ∈ z.after,e.on=i/\Region.binds .any e=true:=fun i hi=>by
  have:=List.all_eq_true.1 hz3 i (List.mem_range.2 hi);obtain⟨j,hj,h⟩:=Array.any_eq_true.1 this;simp only [Bool.and_eq_true,beq_iff_eq]at h;exact⟨_,Array.getElem_mem hj,h.1,h.2⟩
 have hat:∀ (i:Nat) (o:Oper),(l ++ [z]).toArray[i]? = some o->(l[i]? = some o/\i<l.length)\/(i=l.length/\o=z):=fun i o ho=>by
  rw [List.getElem?_toArray,List.getElem?_append]at ho;split at ho
  ·exact .inl ⟨ho,by assumption⟩
  ·right
   rename_i h
   have h1:=ji ho;simp at h1;have h2:i - l.length=0:=by omega
   rw [h2]at ho;simp at ho;exact⟨by omega,ho.symm⟩
 have hpop:∀ (A:Array Bool) (i:Nat),A.size=l.length+1->i<l.length->A.pop.getD i false=A.getD i false:=fun A i hA hi=>by
  have h1:i<A.size:=by omega
  have h2:i<A.pop.size:=by simp;omega
  rw [Array.getD_eq_getD_getElem?,Array.getD_eq_getD_getElem?,Array.getElem?_eq_getElem h1,Array.getElem?_eq_getElem h2,Array.getElem_pop]
 refine ck hm (fun A a w=>A.size=l.length+1/\((A.getD l.length false=true/\Q .normal a w/\∀ i,i<l.length->A.getD i false=true)\/(A.getD l.length false=false/\GInv l R Φ cre C a0 A.pop a w))) ?_ ?_ ?_ ?_
 ·intro i o ho e he
  rcases hat i o ho with ⟨ho,-⟩ | ⟨rfl,rfl⟩
  ·exact(at1 i o ho).2.1 e he
  ·exact hz2 e he
 ·refine⟨by simp,.inr ⟨getD_replicate_false _ _,?_⟩⟩
  exact {
   lsz:=by simp
   c:=hC0
   sz:=rfl
   df:=rfl
   fr:=fun t _=>rfl
   phi:=fun i o ho h=>by
    have hi:=ji ho;rw [hpop _ _ (by simp) hi,getD_replicate_false]at h
    cases h
   blk:=fun i o ho h=>by
    have hi:=ji ho;rw [hpop _ _ (by simp) hi,getD_replicate_false]at h
    cases h
   ne:=fun i j oi oj _ ho _ h=>by
    have hi:=ji ho;rw [hpop _ _ (by simp) hi,getD_replicate_false]at h
    cases h }
 ·rintro A a w i o ⟨hA,hI⟩ ho hAi hdep
  have hwant:∀ ops,Region.wanted o (yielded ops a.tmps)=true:=fun ops=>by
   have:o.guard=none:=by
    rcases hat i o ho with ⟨ho,-⟩ | ⟨rfl,rfl⟩
    ·exact(at1 i o ho).1
    ·simpa using hz1
   simp [Region.wanted,this]
  rw [if_pos (hwant _)]
  rcases hI with ⟨hz,hq,hall⟩ | ⟨hz,hI⟩
  ·exfalso
   have h1:A.getD i false=true:=by
    rcases hat i o ho with ⟨-,hi⟩ | ⟨rfl,-⟩
    ·exact hall i hi
    ·exact hz
   have hi:i<A.size:=by
    rcases hat i o ho with ⟨-,hi⟩ | ⟨rfl,-⟩ <;> omega
   simp only [Array.getD,hi,dif_pos]at h1 hAi;rw [h1]at hAi
   cases hAi
  ·rcases hat i o ho with ⟨ho',hi⟩ | ⟨rfl,rfl⟩
   ·refine Oper.wp_mono ?_ (gT hB R Φ cre C hΦ hRs hC (step i o a w ho') hI ho' fun e he hb=>?_)
    ·rintro a' w' hI';refine⟨by simpa using hA,.inr ⟨?_,?_⟩⟩
     ·rw [getD_set_ne false (by omega)];exact hz
     ·have:(A.setIfInBounds i true).pop=A.pop.setIfInBounds i true:=by
       apply Array.ext_getElem?
       intro j
       by_cases hij:i=j
       ·subst hij;simp [hA,hi]
       ·simp [Array.getElem?_pop,hij]
      rw [this];exact hI'
    ·rw [hpop _ _ hA (Nat.lt_trans ((at1 i o ho').2.1 e he) hi)];exact hdep e he hb
   ·have hall:∀ i,i<l.length->A.getD i false=true:=fun i hi=>by
     obtain⟨e,he,h1,h2⟩:=hz3 i hi;have:=hdep e he h2
     rwa [h1]at this
    refine Oper.wp_mono ?_ (done a w hI.c hI.df hI.sz hI.fr (fun i o ho=>hI.phi i o ho ?_) (fun i j oi oj hne hi hj=>hI.ne i j oi oj hne hi hj ?_ ?_))
    ·rintro a' w' hq;refine⟨by simpa using hA,.inl ⟨?_,hq,fun i hi=>?_⟩⟩
     ·simp [Array.getD_eq_getD_getElem?,hA]
     ·rw [getD_set_ne false (by omega)];exact hall i hi
    ·have h1:=ji ho;rw [hpop _ _ hA h1];exact hall i h1
    ·have h1:=ji hi;rw [hpop _ _ hA h1];exact hall i h1
    ·have h1:=ji hj;rw [hpop _ _ hA h1];exact hall j h1
 ·rintro A a w ⟨hA,⟨-,hq,-⟩ | ⟨hz,-⟩⟩ hall
  ·exact hq
  ·exfalso
   have:=hall l.length (by simp);simp only [Array.getD,hA,Nat.lt_succ_self,dif_pos]at this hz;rw [this]at hz
   cases hz
end
end Go.Proofs.YthaliljaglldjaaGreat
