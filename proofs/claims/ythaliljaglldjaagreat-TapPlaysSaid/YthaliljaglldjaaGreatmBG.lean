/- Part of the proof. -/
import Derived.Test.YthaliljaglldjaaGreatmBF
namespace Go.Proofs.YthaliljaglldjaaGreat
open Go.RowKit Go.ChangeMaps Go.MapKept
section
variable {w:World} {q:Nat} {M:WM} {G:Nat->Prop}
end
end Go.Proofs.YthaliljaglldjaaGreat
namespace Go.Proofs.YthaliljaglldjaaGreat
open Go.RowKit Go.Shelf Go.ChangeMaps Go.MapKept
section
attribute [local go_sem] Oper.semAt_some
end
section
variable {w:World} {p:Nat} {M:WM} {F:Nat->Prop}
end
set_option linter.unusedSimpArgs false
end Go.Proofs.YthaliljaglldjaaGreat
namespace Go.Proofs.YthaliljaglldjaaGreat
open Go.RowKit Go.ChangeMaps Go.MapKept
section
theorem lookup_filter_key (p:Int->Bool) (l:List (Int × Th)) (q:Int):(l.filter fun x=>p x.1).lookup q=if p q then l.lookup q else none:=by
 induction l with
 | nil=>simp
 | cons x l ih =>
   obtain⟨a,b⟩:=x;rw [List.filter_cons]
   by_cases ha:p a=true
   ·simp only [ha,↓reduceIte,List.lookup_cons,ih]
    by_cases e:q=a
    ·subst e;simp [ha]
    ·simp [show (q==a)=false by simpa using e]
   ·simp only [ha,↓reduceIte,List.lookup_cons,ih,Bool.false_eq_true]
    by_cases e:q=a
    ·subst e;simp [ha]
    ·simp [show (q==a)=false by simpa using e]
def WM.delL (M:WM) (l:List Int):WM:={ M with things:=M.things.filter fun x=>decide (x.1 ∉ l) }
theorem WM.delL_nil (M:WM):M.delL []=M:=by
 unfold WM.delL;rw [List.filter_eq_self.2 fun x _=>by simp]
theorem WM.delL_snoc (M:WM) (l:List Int) (r:Int):M.delL (l ++ [r])=(M.delL l).del r:=by
 unfold WM.delL WM.del;simp only [List.filter_filter,WM.mk.injEq,true_and,and_true]
 congr 1
 funext x
 by_cases h1:x.1 ∈ l <;> by_cases h2:x.1=r <;> simp [h1,h2]
theorem WM.delL_at (M:WM) (l:List Int) (q:Int):(M.delL l).at q=if q ∈ l then none else M.at q:=by
 have:=lookup_filter_key (fun q=>decide (q ∉ l)) M.things q;show (M.things.filter fun x=>decide (x.1 ∉ l)).lookup q=_;rw [this]
 by_cases h:q ∈ l <;> simp [h,WM.at]
theorem WM.delL_at_some {M:WM} {l:List Int} {q:Int} {v:Th} (h:(M.delL l).at q=some v):q ∉ l/\M.at q=some v:=by
 rw [WM.delL_at]at h;split at h
 ·cases h
 ·exact⟨by assumption,h⟩
theorem WM.delL_congr (M:WM) {l l':List Int} (h:∀ x,x ∈ l ↔ x ∈ l'):M.delL l=M.delL l':=by
 unfold WM.delL;simp only [h]
def Lean' (M:WM) (l:List Int):Prop:=∃ q t,M.at q=some t/\q ∉ l/\((t.kind≠13/\t.tgt ∈ l)\/t.bi ∈ l)
theorem WM.delL_ok {M:WM} {l:List Int} (hM:M.ok) (h:¬ Lean' M l):(M.delL l).ok where
 sides:=hM.sides
 cuts:=hM.cuts
 made:=hM.made
 tree:=hM.tree
 keys:=hM.keys.sublist List.filter_sublist
 range x hx:=hM.range x (List.mem_filter.1 hx).1
 last:=hM.last
 mades:=hM.mades
 wf q v hv:=hM.wf q v (WM.delL_at_some hv).2
 homes q v hv hk:=hM.homes q v (WM.delL_at_some hv).2 hk
 wrap:=by
  obtain⟨rk,h1,h2⟩:=hM.wrap;refine⟨rk,h1,fun q v hv hw=>?_⟩;obtain⟨hq,hv⟩:=WM.delL_at_some hv;obtain⟨⟨x,hx⟩,h4⟩:=h2 q v hv hw;have:v.tgt ∉ l:=fun e=>h ⟨q,v,hv,hq,.inl ⟨(by rintro e;rw [e]at hw;cases hw),e⟩⟩;exact⟨⟨x,by rw [WM.delL_at,if_neg this,hx]⟩,h4⟩
 gate q v hv hk:=by
  obtain⟨hq,hv⟩:=WM.delL_at_some hv;obtain⟨x,hx,h4⟩:=hM.gate q v hv hk;exact⟨x,by rw [WM.delL_at,if_neg (fun e=>h ⟨q,v,hv,hq,.inr e⟩),hx],h4⟩
 purse q v hv hk:=by
  obtain⟨hq,hv⟩:=WM.delL_at_some hv;obtain⟨x,hx,h4⟩:=hM.purse q v hv hk;exact⟨x,by rw [WM.delL_at,if_neg (fun e=>h ⟨q,v,hv,hq,.inl ⟨by rw [hk];decide,e⟩⟩),hx],h4⟩
 facet q v q' v' hv hv' k k' e1 e2:=hM.facet q v q' v' (WM.delL_at_some hv).2 (WM.delL_at_some hv').2 k k' e1 e2
theorem find_filter_key (p:Int->Bool) (P:Int × Th->Bool):∀ (l:List (Int × Th)),(∀ x ∈ l,p x.1=false->P x=false)->(l.filter fun x=>p x.1).find? P=l.find? P
 | [],_=>rfl
 | x :: l,h=>by
   have ih:=find_filter_key p P l fun y hy=>h y (by simp [hy]);have hx:=h x (by simp);rw [List.filter_cons,List.find?_cons]
   by_cases e:p x.1=true
   ·rw [if_pos e,List.find?_cons,ih]
   ·rw [if_neg e,hx (by simpa using e)];exact ih
theorem filter_len {l:List (Int × Th)} (hk:l.Pairwise (fun x y=>x.1<y.1)) {r:Int} {t:Th} (hm:(r,t) ∈ l):(l.filter fun x=>decide (x.1≠r)).length+1=l.length:=by
 induction l with
 | nil=>cases hm
 | cons x l ih =>
   obtain⟨h1,h2⟩:=List.pairwise_cons.1 hk;rw [List.filter_cons]
   rcases List.mem_cons.1 hm with e | e
   ·have hx:x.1=r:=by rw [<- e]
    have hall:l.filter (fun y=>decide (y.1≠r))=l:=List.filter_eq_self.2 fun y hy=>by
     have:=h1 y hy;simp only [ne_eq,decide_not,Bool.not_eq_eq_eq_not,Bool.not_true,decide_eq_false_iff_not];omega
    simp only [hx,ne_eq,not_true_eq_false,decide_false,Bool.false_eq_true,↓reduceIte];rw [hall];rfl
   ·have hx:¬ x.1=r:=by
     have:=h1 _ e;simp only at this;omega
    simp only [ne_eq,hx,not_false_eq_true,decide_true,↓reduceIte,List.length_cons];have:=ih h2 e;simp only [ne_eq]at this;omega
theorem WM.delL_len {M:WM} (hM:M.ok) (l:List Int) (r:Int):(M.delL (l ++ [r])).things.length=if ((M.delL l).at r).isSome then (M.delL l).things.length - 1 else (M.delL l).things.length:=by
 rw [WM.delL_snoc]
 cases h:(M.delL l).at r with
 | none =>
   simp only [Option.isSome_none,Bool.false_eq_true,↓reduceIte];show ((M.delL l).things.filter _).length=_;rw [List.filter_eq_self.2];intro x hx;have hk:(M.delL l).things.Pairwise (fun x y=>x.1<y.1):=hM.keys.sublist List.filter_sublist;have h3:(M.delL l).at x.1=some x.2:=lookup_of_mem hk hx;simp only [decide_not,Bool.not_eq_eq_eq_not,Bool.not_true,decide_eq_false_iff_not,ne_eq];intro e;rw [e,h]at h3
   cases h3
 | some t =>
   simp only [Option.isSome_some,↓reduceIte];have hk:(M.delL l).things.Pairwise (fun x y=>x.1<y.1):=hM.keys.sublist List.filter_sublist;have:=filter_len hk (at_mem h);show ((M.delL l).things.filter _).length=_;omega
def WM.gone1 (l:List Int) (M:WM) (r:Int):WM :=
 match M.at r with
 | some t =>
   if t.kind=9 then (if t.tgt ∈ l then M else match M.at t.tgt with | some m=>M.set t.tgt { m with lost:=min m.n (wrap64 (m.lost+t.n)) } | none=>M)
   else if t.kind=15 then (if t.bi ∈ l then M else match M.at t.bi with | some s=>M.set t.bi { s with tgt:=0 } | none=>M)
   else M
 | none=>M
theorem WM.gone1_cases {M:WM} (hM:M.ok) (l:List Int) (r:Int):M.gone1 l r=M\/∃ q u t,SetOk M q u t/\q ∉ l/\M.gone1 l r=M.set q t:=by
 unfold WM.gone1;split
 ·rename_i t ht
  split
  ·split
   ·exact .inl rfl
   ·rename_i hl
    split
    ·rename_i m hm
     refine .inr ⟨_,m,_,?_,hl,rfl⟩;exact⟨hm,rfl,rfl,fun _=>rfl,(hM.wf _ _ hm).tgt,rfl,rfl⟩
    ·exact .inl rfl
  ·split
   ·rename_i h15
    split
    ·exact .inl rfl
    ·rename_i hl
     split
     ·rename_i s hs
      obtain⟨u,hu,hk⟩:=hM.gate r t ht h15;rw [hs]at hu
      cases hu
      refine .inr ⟨_,s,_,?_,hl,rfl⟩;exact⟨hs,rfl,rfl,fun h=>absurd hk h,rfl,rfl,rfl⟩
     ·exact .inl rfl
   ·exact .inl rfl
 ·exact .inl rfl
theorem WM.gone1_ok {M:WM} (hM:M.ok) (l:List Int) (r:Int):(M.gone1 l r).ok:=by
 rcases WM.gone1_cases hM l r with h | ⟨q,u,t,h,-,e⟩
 ·rw [h];exact hM
 ·rw [e];exact WM.set_ok hM h
theorem lean_set {M:WM} {r:Int} {u t:Th} {l:List Int} (h:SetOk M r u t):Lean' (M.set r t) l->Lean' M l:=by
 rintro ⟨q,v,hv,hq,hc⟩
 rcases WM.set_at_some hv with ⟨rfl,rfl,-⟩ | ⟨-,hv⟩
 ·refine⟨q,u,h.was,hq,?_⟩
  rcases hc with ⟨hk,ht⟩ | hb
  ·left
   rw [<- h.kind,← h.tgt hk];exact⟨hk,ht⟩
  ·right
   rw [<- h.bi];exact hb
 ·exact⟨q,v,hv,hq,hc⟩
theorem WM.gone1_lean {M:WM} (hM:M.ok) {l:List Int} {r:Int} (h:¬ Lean' M l):¬ Lean' (M.gone1 l r) l:=by
 rcases WM.gone1_cases hM l r with e | ⟨q,u,t,hs,-,e⟩
 ·rw [e];exact h
 ·rw [e];exact fun h'=>h (lean_set hs h')
theorem WM.gone1_at {M:WM} (hM:M.ok) {l:List Int} {r q:Int} (hq:q ∈ l):(M.gone1 l r).at q=M.at q:=by
 rcases WM.gone1_cases hM l r with e | ⟨q',u,t,hs,hl,e⟩
 ·rw [e]
 ·rw [e,WM.set_at_ne];exact fun h=>hl (h ▸ hq)
end
section
variable {w:World} {p:Nat} {M:WM} {F:Nat->Prop} {pa:Option Addr} {pc cg cc mg mc tb fb fn:Nat} {bl:Int->Nat}
theorem thf_delL (M:WM) (l:List Int) (r:Int) (bl:Int->Nat):thf (M.delL (l ++ [r])) bl (.int .i64 r)=none/\∀ x,x≠.int .i64 r->thf (M.delL (l ++ [r])) bl x=thf (M.delL l) bl x:=by
 rw [WM.delL_snoc];exact thf_del (M.delL l) r bl
theorem WV.cellSet (h:WV w p M F pa pc cg cc mg mc tb fb fn bl) {r:Int} {u t:Th} (hs:SetOk M r u t) {i:Nat} {v:Value} (ht:(thc u).setIfInBounds i v=thc t)
 (hl:t.v=u.v/\t.vl=u.vl/\t.vs=u.vs/\t.vals=u.vals/\t.code=u.code/\t.names=u.names):WV (w.setCell ⟨bl r,i,none⟩ v) p (M.set r t) F pa pc cg cc mg mc tb fb fn bl:=by
 obtain⟨hB,hF,hD⟩:=h.blk r u hs.was;have ho:∀ b,b≠bl r->(w.setCell ⟨bl r,i,none⟩ v).heap[b]? = w.heap[b]?:=fun b hb=>Below.heap_setCell w ⟨bl r,i,none⟩ v b hb;refine h.turn hs (by simp [World.setCell]) (by rw [blk_setCell hB i v,ht]) (fun b _ hb=>ho b hb) (fun _ h=>h) (fun b hb=>by have:=h.lt b hb;simpa [World.setCell]using this) ?_
 have hD':Deep w F t:=by
  obtain⟨h1,h2,h3,h4,h5,h6⟩:=hl;exact⟨by rw [h1,h2];exact hD.v,by rw [h3,h4];exact hD.vs,by rw [h5];exact hD.code,by rw [h6];exact hD.names⟩
 refine hD'.of_blocks (fun b cs e fr hFb hb he=>ho b fun x=>?_) (fun _ h=>h);subst x;rw [hB]at hb
 cases hb
 simp [deepTy]at he
theorem min_if (a b:Int):(if b<a then b else a)=min a b:=by
 split <;> omega
theorem set_lost {u:Th} (v:Int):(thc u).setIfInBounds 9 (.int .i64 v)=thc { u with lost:=v }:=rfl
theorem set_tgt {u:Th} (v:Int):(thc u).setIfInBounds 10 (.int .i64 v)=thc { u with tgt:=v }:=rfl
def gof (l:List Int) (key:Value):Option Value :=
 match key with
 | .int .i64 r=>if r ∈ l then some (.int .i64 1)else none
 | _=>none
theorem gof_snoc (l:List Int) (r:Int):gof (l ++ [r]) (.int .i64 r)=some (.int .i64 1)/\∀ x,x≠.int .i64 r->gof (l ++ [r]) x=gof l x:=by
 refine⟨by simp [gof],fun x hx=>?_⟩;unfold gof;split
 ·rename_i q
  have hne:q≠r:=fun e=>hx (by rw [e]);simp [hne]
 ·rfl
theorem gof_some {l:List Int} {x:Int} {v:Value} (h:gof l (.int .i64 x)=some v):x ∈ l:=by
 simp only [gof]at h;split at h
 ·assumption
 ·cases h
structure Ds (l:List Int) (L:Int->Bool) (ds:List Int):Prop where
 nd:ds.Nodup
 mem:∀ x ∈ ds,x ∈ l/\L x=false
 all:∀ x,(Lit.int .i64 x).wf=true->x ∈ l->L x=false->x ∈ ds
theorem Ds.start {l:List Int} {L:Int->Bool} (h:∀ x,(Lit.int .i64 x).wf=true->L x=(gof l (.int .i64 x)).isSome):Ds l L [] where
 nd:=List.nodup_nil
 mem:=fun x hx=>by cases hx
 all:=fun x hw hx hL=>by
  rw [h x hw]at hL;simp [gof,hx]at hL
theorem Ds.step {l:List Int} {L:Int->Bool} {ds:List Int} (h:Ds l L ds) {x:Int} (hx:x ∈ l) (hL:L x=true):Ds l (fun z=>L z && !decide (z=x)) (ds ++ [x]) where
 nd:=by
  rw [List.nodup_append];refine⟨h.nd,by simp,fun a ha b hb=>?_⟩;simp at hb;subst hb;intro e;subst e;rw [(h.mem a ha).2]at hL
  cases hL
 mem:=fun y hy=>by
  rcases List.mem_append.1 hy with hy | hy
  ·exact⟨(h.mem y hy).1,by simp [(h.mem y hy).2]⟩
  ·simp at hy;subst hy;exact⟨hx,by simp⟩
 all:=fun y hw hy hLy=>by
  by_cases e:y=x
  ·simp [e]
  ·have:=h.all y hw hy (by simpa [e]using hLy);simp [this]
theorem Ds.done {l:List Int} {L:Int->Bool} {ds:List Int} (h:Ds l L ds) (hwf:∀ x ∈ l,(Lit.int .i64 x).wf=true) (hL:∀ x,(Lit.int .i64 x).wf=true->L x=false):ds.Nodup/\∀ x,x ∈ ds ↔ x ∈ l :=
 ⟨h.nd,fun x=>⟨fun hx=>(h.mem x hx).1,fun hx=>h.all x (hwf x hx) hx (hL x (hwf x hx))⟩⟩
theorem fold_at {l:List Int} {q:Int} (hq:q ∈ l):∀ (ds:List Int) {M:WM},M.ok->(ds.foldl (WM.gone1 l) M).at q=M.at q
 | [],_,_=>rfl
 | d :: ds,M,hM=>by
   rw [List.foldl_cons,fold_at hq ds (WM.gone1_ok hM l d),WM.gone1_at hM hq]
theorem fold_lean {l:List Int}:∀ (ds:List Int) {M:WM},M.ok->¬ Lean' M l->¬ Lean' (ds.foldl (WM.gone1 l) M) l
 | [],_,_,h=>h
 | d :: ds,M,hM,h=>by
   rw [List.foldl_cons];exact fold_lean ds (WM.gone1_ok hM l d) (WM.gone1_lean hM h)
structure G4 (w:World) (p:Nat) (M:WM) (F:Nat->Prop) (pa:Option Addr) (pc cg cc mg mc tb fb fn:Nat) (bl:Int->Nat) (l:List Int) (r:Nat) (L:Int->Bool) (cnt:Nat) (ds:List Int) (wr:World):Prop where
 rg:Rg wr w.heap.size r (gof l) L cnt
 k:Keeps F w wr
 cell:wr.heap[w.heap.size+1]? = some (.cells #[.map (some w.heap.size)] 256 (0,0))
 map:∃ n,HasMap Tryz.prog 25 wr w.heap.size (gof l) n
 wv:WV wr p (ds.foldl (WM.gone1 l) M) F pa pc cg cc mg mc tb fb fn bl
 flt:∀ b,F b->b<w.heap.size
 rlt:w.heap.size+1<r
theorem zeroInt (w:World):(zeroValue 3).run Tryz.prog w=.ok (.int .i64 0) w:=by kernel_rfl
section
variable {l:List Int} {r:Nat} {L:Int->Bool} {cnt:Nat} {ds:List Int} {wr:World}
end
structure G5 (w wo:World) (F:Nat->Prop) (tb:Nat) (bl:Int->Nat) (N:WM) (l:List Int) (r:Nat) (L:Int->Bool) (cnt:Nat) (es:List Int) (wr:World):Prop where
 rg:Rg wr w.heap.size r (gof l) L cnt
 k:Keeps F w wr
 sz:wo.heap.size≤wr.heap.size
 oth:∀ b,F b->b≠tb->wr.heap[b]? = wo.heap[b]?
 things:HasMap Tryz.prog 25 wr tb (thf (N.delL es) bl) (N.delL es).things.length
 rlt:w.heap.size+1<r
section
variable {wo:World} {N:WM} {l:List Int} {r:Nat} {L:Int->Bool} {cnt:Nat} {es:List Int} {wr:World}
theorem G5.next (h:G5 w wo F tb bl N l r L cnt es wr) (flt:∀ b,F b->b<w.heap.size) (htb:F tb) {w':World} {L':Int->Bool} {cnt':Nat} (hrg:Rg w' w.heap.size r (gof l) L' cnt') (hk:Keeps (fun y=>y=r) wr w'):G5 w wo F tb bl N l r L' cnt' es w' where
 rg:=hrg
 k:=⟨hk.os.trans h.k.os,hk.tape.trans h.k.tape,hk.output.trans h.k.output,Nat.le_trans h.k.size hk.size,fun b hb hF=>(hk.block b (Nat.lt_of_lt_of_le hb h.k.size) (by have:=h.rlt;omega)).trans (h.k.block b hb hF)⟩
 sz:=Nat.le_trans h.sz hk.size
 oth:=fun b hF hb=>(hk.block b (Nat.lt_of_lt_of_le (flt b hF) h.k.size) (by have:=flt b hF;have:=h.rlt;omega)).trans (h.oth b hF hb)
 things:=h.things.of_block (hk.block _ h.things.lt (by have:=flt _ htb;have:=h.rlt;omega))
 rlt:=h.rlt
theorem G5.drop (h:G5 w wo F tb bl N l r L cnt es wr) (hN:N.ok) (flt:∀ b,F b->b<w.heap.size) (htb:F tb) {x:Int} (hx:(Lit.int .i64 x).wf=true) (ty:TypeId) :
 ∃ w',(Builtin.delete_ #[137,25] ty #[.map (some tb),.int .i64 x]).run Tryz.prog wr=.ok (.tuple #[]) w'/\G5 w wo F tb bl N l r L cnt (es ++ [x]) w':=by
 obtain⟨w',hrun,hm,ht⟩:=h.things.drop keyedRef Tryz.underlying137 (key_ref hx) ty (thf_delL N es x bl).1 (thf_delL N es x bl).2;have hT:=Turned.of ht;have hlt:=flt _ htb;refine⟨w',hrun,?_⟩
 exact {
  rg:=h.rg.of_blocks (hT.block (by omega)) (hT.block (by have:=h.rlt;omega))
  k:=h.k.trans hT.2 (fun _ _ h=>h) (fun x _ hx=>hx ▸ htb)
  sz:=by have:=hT.1;have:=h.sz;omega
  oth:=fun b hF hb=>(hT.block hb).trans (h.oth b hF hb)
  things:=by
   rw [WM.delL_len hN];have:(thf (N.delL es) bl (.int .i64 x)).isSome=((N.delL es).at x).isSome:=by simp [thf]
   rw [this]at hm;exact hm
  rlt:=h.rlt }
end
end
end Go.Proofs.YthaliljaglldjaaGreat
