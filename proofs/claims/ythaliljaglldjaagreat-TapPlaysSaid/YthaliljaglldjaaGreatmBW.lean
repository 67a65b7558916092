/- Part of the proof. -/
import Derived.Test.YthaliljaglldjaaGreatmBV
namespace Go.Proofs.YthaliljaglldjaaGreat
open Go.RowKit Go.ChangeMaps Go.MapKept
section
variable {M:WM}
theorem lookup_mapf (f:Int × Th->Th):∀ (l:List (Int × Th)) (q:Int),(l.map fun x=>(x.1,f x)).lookup q=(l.lookup q).map fun t=>f (q,t)
 | [],q=>rfl
 | (a,b) :: l,q=>by
   rw [List.map_cons,List.lookup_cons,List.lookup_cons,lookup_mapf f l q]
   by_cases e:q=a
   ·subst e;simp
   ·simp [show (q==a)=false by simpa using e]
def freeX (gs ds:List Int) (x:Int × Th):Th:=if x.2.kind==13 && ds.contains x.2.tgt && !(gs.contains x.1)then { x.2 with tgt:=0 } else x.2
def WM.freed (M:WM) (gs ds:List Int):WM:={ M with things:=M.things.map fun x=>(x.1,freeX gs ds x) }
theorem WM.freed_nil (M:WM) (gs:List Int):M.freed gs []=M:=by
 have:(M.things.map fun x=>(x.1,freeX gs [] x))=M.things:=by
  refine(List.map_congr_left fun x _=>?_).trans (List.map_id _);simp [freeX]
 unfold WM.freed;rw [this]
theorem WM.freed_at (M:WM) (gs ds:List Int) (r:Int):(M.freed gs ds).at r=(M.at r).map fun t=>freeX gs ds (r,t):=lookup_mapf (freeX gs ds) M.things r
theorem TP.no9 (h:TP M) {r:Int} {t:Th} (ht:M.at r=some t):t.kind≠9:=by
 rcases h.at ht with ⟨k,hh,e,h1⟩ | ⟨hh,m,e,-⟩ | ⟨hh,m,e,-⟩ | ⟨hh,m,e,-⟩ | ⟨x,d,e,-⟩ | ⟨hh,x,m,e,-⟩ | ⟨hh,x,m,e,-⟩
 ·rw [e];show k≠9;omega
 ·rw [e];exact(by decide:(3:Int)≠9)
 ·rw [e];exact(by decide:(8:Int)≠9)
 ·rw [e];exact(by decide:(13:Int)≠9)
 ·rw [e];exact(by decide:(14:Int)≠9)
 ·rw [e];exact(by decide:(15:Int)≠9)
 ·rw [e];exact(by decide:(16:Int)≠9)
theorem freeX_kind (gs ds:List Int) (x:Int × Th):(freeX gs ds x).kind=x.2.kind/\(freeX gs ds x).bi=x.2.bi:=by
 unfold freeX;split <;> exact⟨rfl,rfl⟩
theorem TP.freed_step (h:TP M) (gs ds:List Int) {r:Int} (hr:M.at r≠none):(M.freed gs ds).gone1 gs r=M.freed gs (ds ++ [r]):=by
 obtain⟨t,ht⟩:=Option.ne_none_iff_exists'.1 hr;have hfr:(M.freed gs ds).at r=some (freeX gs ds (r,t)):=by rw [WM.freed_at,ht];rfl
 obtain⟨hk,hb⟩:=freeX_kind gs ds (r,t);have hr0:r≠0:=by have:=h.ok.at_range ht;omega
 have hsw:∀ x ∈ M.things,x.2.kind=13->x.2.tgt=r->t.kind=15/\t.bi=x.1:=fun x hx h13 hxr=>by
  obtain⟨hh,g,e,hg⟩:=h.switch (h.ok.at_of_mem hx) h13;rw [e]at hxr;have hgr:g=r:=hxr;subst hgr
  rcases hg with hg | ⟨u,hu,h1,h2⟩
  ·exact absurd hg hr0
  ·rw [ht]at hu
   cases hu
   exact⟨h1,h2⟩
 have stay:(∀ x ∈ M.things,x.2.kind=13->x.2.tgt=r->gs.contains x.1=true)->M.freed gs (ds ++ [r])=M.freed gs ds:=fun hno=>by
  have:(M.things.map fun x=>(x.1,freeX gs (ds ++ [r]) x))=M.things.map fun x=>(x.1,freeX gs ds x):=List.map_congr_left fun x hx=>by
   have:freeX gs (ds ++ [r]) x=freeX gs ds x:=by
    unfold freeX
    by_cases h13:x.2.kind=13
    ·by_cases hxr:x.2.tgt=r
     ·rw [hno x hx h13 hxr];simp
     ·have e1:(ds ++ [r]).contains x.2.tgt=ds.contains x.2.tgt:=by simp [hxr]
      rw [e1]
    ·simp [h13]
   rw [this]
  unfold WM.freed;rw [this]
 unfold WM.gone1;rw [hfr];dsimp only;rw [hk,hb,if_neg (h.no9 ht)]
 by_cases h15:t.kind=15
 ·rw [if_pos h15];obtain⟨hh,y,n,e,-,u,hu,hu13,-,hur⟩:=h.gate ht h15;have hbn:t.bi=n:=by rw [e]
  rw [hbn]
  by_cases hn:n ∈ gs
  ·rw [if_pos hn];refine(stay fun x hx h13 hxr=>?_).symm;rw [<- (hsw x hx h13 hxr).2,hbn];exact List.contains_iff_mem.2 hn
  ·rw [if_neg hn];have hfn:(M.freed gs ds).at n=some (freeX gs ds (n,u)):=by rw [WM.freed_at,hu];rfl
   rw [hfn];show WM.mk _ _ ((M.things.map _).map _) _ _=WM.mk _ _ (M.things.map _) _ _;rw [List.map_map]
   congr 1
   refine List.map_congr_left fun x hx=>?_;simp only [Function.comp]
   by_cases hxn:x.1=n
   ·have hxu:x.2=u:=by
     have:=h.ok.at_of_mem hx;rw [hxn,hu]at this
     cases this
     rfl
    rw [if_pos hxn]
    have e1:gs.contains x.1=false:=by
     rw [hxn]
     cases e:gs.contains n with
     | false=>rfl
     | true=>exact absurd (List.contains_iff_mem.1 e) hn
    have e2:(ds ++ [r]).contains u.tgt=true:=by simp [hur]
    have hR:freeX gs (ds ++ [r]) x = { u with tgt:=0 }:=by
     unfold freeX;rw [e1,hxu,e2,show (u.kind==13)=true by simpa using hu13];rfl
    rw [hR,hxn]
    have hL:({ freeX gs ds (n,u)with tgt:=0 }:Th) = { u with tgt:=0 }:=by
     unfold freeX;split <;> rfl
    rw [hL]
   ·rw [if_neg hxn]
    congr 1
    unfold freeX
    by_cases h13:x.2.kind=13
    ·have hxr:x.2.tgt≠r:=fun e'=>hxn ((hsw x hx h13 e').2.symm.trans hbn);have e1:(ds ++ [r]).contains x.2.tgt=ds.contains x.2.tgt:=by simp [hxr]
     rw [e1]
    ·simp [h13]
 ·rw [if_neg h15];exact(stay fun x hx h13 hxr=>absurd (hsw x hx h13 hxr).1 h15).symm
theorem TP.freed_fold (h:TP M) (gs:List Int):∀ (es ds:List Int),(∀ r ∈ es,M.at r≠none)->es.foldl (WM.gone1 gs) (M.freed gs ds)=M.freed gs (ds ++ es)
 | [],ds,_=>by rw [List.append_nil];rfl
 | r :: es,ds,he=>by
   rw [List.foldl_cons,h.freed_step gs ds (he r (List.mem_cons_self ..)),TP.freed_fold h gs es (ds ++ [r]) fun x hx=>he x (List.mem_cons_of_mem _ hx)];simp
theorem TP.drop_eq (h:TP M) {gs ds:List Int} (hds:∀ x,x ∈ ds ↔ x ∈ gs) (hg:∀ r ∈ gs,M.at r≠none):(ds.foldl (WM.gone1 gs) M).delL gs=dropM M gs:=by
 have h1:=h.freed_fold gs ds [] fun r hr=>hg r ((hds r).1 hr);rw [M.freed_nil,List.nil_append]at h1;rw [h1];show WM.mk _ _ ((M.things.map _).filter _) _ _=WM.mk _ _ ((M.things.filter _).map _) _ _;rw [List.filter_map]
 have e2:((fun x:Int × Th=>decide (x.1 ∉ gs)) ∘ fun x=>(x.1,freeX gs ds x))=fun x:Int × Th=>!(gs.contains x.1):=by
  funext x
  simp only [Function.comp]
  by_cases e:x.1 ∈ gs <;> simp [e]
 rw [e2]
 congr 1
 refine List.map_congr_left fun x hx=>?_;obtain⟨hx1,hx2⟩:=List.mem_filter.1 hx
 congr 1
 have hl:lostOf M.things gs x.1 x.2.n x.2.lost=x.2.lost:=fold_no _ _ _ fun y hy b=>by
  have:=h.no9 (h.ok.at_of_mem hy);simp [this]
 have hc:ds.contains x.2.tgt=gs.contains x.2.tgt:=by
  rw [Bool.eq_iff_iff,List.contains_iff_mem,List.contains_iff_mem];exact hds _
 have hx3:(!(gs.contains x.1))=true:=hx2;unfold freeX stayT;rw [hl,hc,hx3,Bool.and_true];have hll:(if (x.2.kind==8)=true then x.2.lost else x.2.lost)=x.2.lost:=by split <;> rfl
 rw [hll];split <;> rfl
theorem dropM_at (M:WM) (gs:List Int) (r:Int):(dropM M gs).at r=if r ∈ gs then none else (M.at r).map fun t=>stayT M gs (r,t):=by
 show ((M.things.filter fun x=>!(gs.contains x.1)).map fun x=>(x.1,stayT M gs x)).lookup r=_;rw [lookup_mapf (stayT M gs)];have:=lookup_filter_key (fun q=>!(gs.contains q)) M.things r;rw [this]
 by_cases e:r ∈ gs
 ·have:gs.contains r=true:=List.contains_iff_mem.2 e;rw [if_pos e,this];rfl
 ·have:gs.contains r=false:=by
   cases e2:gs.contains r with
   | false=>rfl
   | true=>exact absurd (List.contains_iff_mem.1 e2) e
  rw [if_neg e,this];rfl
theorem stay_some {gs:List Int} {r:Int} {t:Th} (hr:r ∉ gs) (ht:M.at r=some t):∃ t',(dropM M gs).at r=some t'/\t'.kind=t.kind/\t'.home=t.home/\t'.bi=t.bi/\t'.set=t.set/\(t.kind=13->t.tgt ∉ gs->t'.tgt=t.tgt)/\(t.kind≠13->t'.tgt=t.tgt):=by
 refine⟨stayT M gs (r,t),by rw [dropM_at,if_neg hr,ht];rfl,rfl,rfl,rfl,rfl,fun _ hg=>?_,fun hk=>?_⟩
 ·show (if t.kind==13 && gs.contains t.tgt then 0 else t.tgt)=t.tgt
  have:gs.contains t.tgt=false:=by
   cases e2:gs.contains t.tgt with
   | false=>rfl
   | true=>exact absurd (List.contains_iff_mem.1 e2) hg
  rw [this,Bool.and_false];rfl
 ·show (if t.kind==13 && gs.contains t.tgt then 0 else t.tgt)=t.tgt
  rw [show (t.kind==13)=false by simpa using hk];rfl
theorem nolean_tgt {gs:List Int} (hl:¬ Lean' M gs) {r:Int} {t:Th} (hr:r ∉ gs) (ht:M.at r=some t) (hk:t.kind≠13):t.tgt ∉ gs:=fun e=>hl ⟨r,t,ht,hr,.inl ⟨hk,e⟩⟩
theorem nolean_bi {gs:List Int} (hl:¬ Lean' M gs) {r:Int} {t:Th} (hr:r ∉ gs) (ht:M.at r=some t):t.bi ∉ gs:=fun e=>hl ⟨r,t,ht,hr,.inr e⟩
theorem dable_drop {gs:List Int} (hok:M.ok) (hl:¬ Lean' M gs):∀ (f:Nat) (r:Int),r ∉ gs->(∃ t,M.at r=some t)->dableF (dropM M gs) f r=dableF M f r
 | 0,_,_,_=>rfl
 | f+1,r,hr,⟨t,ht⟩=>by
   obtain⟨t',h1,h2,-,-,h3,-,h4⟩:=stay_some hr ht;simp only [dableF,h1,ht,h2,h3]
   by_cases h14:t.kind=14
   ·rw [if_pos h14,if_pos h14]
   ·rw [if_neg h14,if_neg h14]
    by_cases hk:t.kind=15\/t.kind=16
    ·have hw:wrapsB t.kind=true:=by rcases hk with e | e <;> simp [wrapsB,e]
     have h13:t.kind≠13:=by omega
     obtain⟨rk,-,hrk⟩:=hok.wrap;rw [if_pos hk,if_pos hk,h4 h13];exact dable_drop hok hl f t.tgt (nolean_tgt hl hr ht h13) (hrk r t ht hw).1
    ·rw [if_neg hk,if_neg hk]
theorem TP.drop (h:TP M) {gs:List Int} (hl:¬ Lean' M gs) (hok:(dropM M gs).ok):TP (dropM M gs) where
 ok:=hok
 made:=h.made
 cuts:=h.cuts
 things:=fun x hx=>by
  obtain⟨y,hy,rfl⟩:=List.mem_map.1 (show x ∈ (M.things.filter _).map _ from hx);obtain⟨hy1,hy2⟩:=List.mem_filter.1 hy
  have hyg:y.1 ∉ gs:=fun e=>by
   rw [List.contains_iff_mem.2 e]at hy2
   cases hy2
  have ht:=h.ok.at_of_mem hy1
  have hlost:lostOf M.things gs y.1 y.2.n y.2.lost=y.2.lost:=fold_no _ _ _ fun z hz b=>by
   have:=h.no9 (h.ok.at_of_mem hz);simp [this]
  have hsame:(y.2.kind=13->y.2.tgt ∉ gs)->stayT M gs y=y.2:=fun h13=>by
   unfold stayT;rw [hlost]
   have e1:(if y.2.kind==13 && gs.contains y.2.tgt then 0 else y.2.tgt)=y.2.tgt:=by
    split
    ·rename_i hc
     obtain⟨c1,c2⟩:=(Bool.and_eq_true_iff).1 hc;exact absurd (List.contains_iff_mem.1 c2) (h13 (by simpa using c1))
    ·rfl
   have e2:(if (y.2.kind==8)=true then y.2.lost else y.2.lost)=y.2.lost:=by split <;> rfl
   rw [e1,e2]
  show TThing (dropM M gs) y.1 (stayT M gs y)
  rcases h.things y hy1 with ⟨k,hh,e,h1⟩ | ⟨hh,n,e,h1⟩ | ⟨hh,n,e,h1⟩ | ⟨hh,g,e,hg⟩ | ⟨z,d,e,⟨v,hv,hv14⟩,hd,h1,h2⟩ | ⟨hh,z,n,e,⟨v,hv⟩,u,hu,h1,h2,h3⟩ | ⟨hh,z,n,e,⟨v,hv⟩,u,hu,h1,h2⟩
  ·rw [hsame (by rw [e];intro (h13:k=13);omega)];exact .inl ⟨k,hh,e,h1⟩
  ·rw [hsame (by rw [e];intro h13;exact absurd (show (3:Int)=13 from h13) (by decide))];exact .inr (.inl ⟨hh,n,e,h1⟩)
  ·rw [hsame (by rw [e];intro h13;exact absurd (show (8:Int)=13 from h13) (by decide))];exact .inr (.inr (.inl ⟨hh,n,e,h1⟩))
  ·by_cases hgg:g ∈ gs
   ·have e1:stayT M gs y=lt 13 hh 0 0 0 0 0 0 0 false:=by
     have hc:gs.contains g=true:=List.contains_iff_mem.2 hgg;unfold stayT;rw [hlost,e];show Th.mk _ _ _ _ _ _ _ (if (13:Int)==8 then 0 else 0) (if (13:Int)==13 && gs.contains g then 0 else g) _ _ _ _ _=_
     rw [hc];rfl
    rw [e1];exact .inr (.inr (.inr (.inl ⟨hh,0,rfl,.inl rfl⟩)))
   ·rw [hsame (by rw [e];intro _;exact hgg)];refine .inr (.inr (.inr (.inl ⟨hh,g,e,hg.imp id fun⟨v,hv,h1,h2⟩=>?_⟩)));obtain⟨v',e1,e2,-,e3,-⟩:=stay_some hgg hv;exact⟨v',e1,e2.trans h1,e3.trans h2⟩
  ·have h13:y.2.kind≠13:=by rw [e];exact(by decide:(14:Int)≠13)
   rw [hsame fun e'=>absurd e' h13];have hz:z ∉ gs:=by have:=nolean_tgt hl hyg ht h13;rw [e]at this;exact this
   obtain⟨v',e1,e2,-⟩:=stay_some hz hv;refine .inr (.inr (.inr (.inr (.inl ⟨z,d,e,⟨v',e1,by rw [e2];exact hv14⟩,?_,h1,h2⟩))));obtain⟨f0,hf⟩:=hd;exact⟨f0,fun f h'=>(dable_drop h.ok hl f z hz ⟨v,hv⟩).trans (hf f h')⟩
  ·have h13:y.2.kind≠13:=by rw [e];exact(by decide:(15:Int)≠13)
   rw [hsame fun e'=>absurd e' h13];have hz:z ∉ gs:=by have:=nolean_tgt hl hyg ht h13;rw [e]at this;exact this
   have hn:n ∉ gs:=by have:=nolean_bi hl hyg ht;rw [e]at this;exact this
   obtain⟨v',e1,-⟩:=stay_some hz hv;obtain⟨u',a1,a2,a3,-,-,a4,-⟩:=stay_some hn hu;exact .inr (.inr (.inr (.inr (.inr (.inl ⟨hh,z,n,e,⟨v',e1⟩,u',a1,a2.trans h1,a3.trans h2,(a4 h1 (by rw [h3];exact hyg)).trans h3⟩)))))
  ·have h13:y.2.kind≠13:=by rw [e];exact(by decide:(16:Int)≠13)
   rw [hsame fun e'=>absurd e' h13];have hz:z ∉ gs:=by have:=nolean_tgt hl hyg ht h13;rw [e]at this;exact this
   have hn:n ∉ gs:=by have:=nolean_bi hl hyg ht;rw [e]at this;exact this
   obtain⟨v',e1,-⟩:=stay_some hz hv;obtain⟨u',a1,a2,a3,-⟩:=stay_some hn hu;exact .inr (.inr (.inr (.inr (.inr (.inr ⟨hh,z,n,e,⟨v',e1⟩,u',a1,a2.trans h1,a3.trans h2⟩)))))
end
end Go.Proofs.YthaliljaglldjaaGreat
