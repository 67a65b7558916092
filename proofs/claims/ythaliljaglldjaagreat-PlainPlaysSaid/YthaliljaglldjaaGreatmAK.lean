/- Part of the proof. -/
import Derived.Test.YthaliljaglldjaaGreatmAJ
namespace Go.Proofs.YthaliljaglldjaaGreat
set_option maxHeartbeats 16000000
set_option maxRecDepth 20000
open Go.RowKit Go.ChangeMaps Go.MapKept
section
theorem kC:ff 27 6 31 bZ:=fun _ _ _ _ _=>rfl
theorem Ap:ff 27 6 55 bZ:=fun _ _ _ _ _=>rfl
theorem pi:ff 27 6 62 bZ:=fun _ _ _ _ _=>rfl
theorem kB:bX 46 27 45 bp:=fun _ _ _ _ _=>rfl
theorem cU (w:World) (b:Nat) (v:Value) (B:Bool) (ts:Array Value) {x0 x1 x2 x3 x4:Value} (h:w.heap[b]? = some (.cells #[x0,x1,x2,x3,x4] 27 (0,0))) (h2:ts[6]? = some (.pointer (some ⟨b,0,none⟩))) (h3:ts[7]? = some (.bool B)) (hv:v=.agg #[x0,x1,x2,x3,x4]) :
 (results Tryz.f63 ts).run Tryz.prog w=.ok (.tuple #[v,.bool B]) w:=by
 obtain⟨⟨c0,c1,c2,c3,c4⟩,-⟩:=ax h;simp [results,Tryz.results63,go_sem,c0,c1,c2,c3,c4,h2,h3,hv]
theorem aQ (w:World) (b:Nat) (c:Array Value):Keeps (fun z=>z=b) w (w.setRow b c):=⟨rfl,rfl,rfl,by simp [World.setRow],fun k _ hk=>aj _ _ _ _ hk⟩
structure Cop0 (w:World) (A:Array Value) (q:Nat) (x:Int) (wr:World):Prop where
 keeps:Keeps (fun b=>b=q) w wr
 box:wr.heap[w.heap.size]? = some (.cells A 27 (0,0))
 res:wr.heap[w.heap.size+1]? = some (.cells zV 27 (0,0))
 cnt:wr.heap[q]? = some (.cells #[J x] 3 (0,0))
theorem Cop0.put {w w3:World} {A c':Array Value} {q:Nat} {X:Int} (h:Cop0 w A q X w3) (hq:q<w.heap.size) (hs:c'.size=5) (h1:c'.all (·.oneCell')=true) :
 (bZ (P_ (w.heap.size+1)) (.agg c')).run Tryz.prog w3=.ok .skip (w3.setRow (w.heap.size+1) c') /\
 Hid (∀ w4,w4=w3.setRow (w.heap.size+1) c'->w4.heap[w.heap.size+1]? = some (.cells c' 27 (0,0))/\Keeps (fun b=>b=q) w w4/\w4.heap[q]? = some (.cells #[J X] 3 (0,0))):=by
 refine⟨az h.res rfl hs h1,fun w4 e=>?_⟩;subst e;refine⟨ah h.res,h.keeps.trans (aQ w3 _ _) (fun _ _ h=>h) (fun y hy h=>absurd h (by omega)),?_⟩;rw [aj _ _ _ _ (by omega)];exact h.cnt
theorem Keeps.none {S:Nat->Prop} {a b:World} (h:Keeps S a b) {k:Nat} {o:Obj} (hk:a.heap[k]? = some o) (hS:¬ S k):b.heap[k]? = some o:=(h.block k (aw hk) hS).trans hk
end
section
theorem SlAt.front {w:World} {F:Nat->Prop} {pa:Option Addr} {n c:Nat} {l:List Val} (h:SlAt w F (.slice pa n c) l) {k:Nat} (hk:k≤l.length) (c':Nat) (hc':k≤c'/\(pa=none->c'=0)):SlAt w F (.slice pa k c') (l.take k):=by
 generalize hs:Value.slice pa n c=s at h
 cases h with
 | mk pa' c0 l raw hcp h hr =>
   cases hs
   have e:(l.take k).length=k:=by simp;omega
   have:=SlAt.mk (w:=w) (F:=F) pa c' (l.take k) raw ⟨by rw [e];exact hc'.1,hc'.2⟩ (fun i v hv=>h i v (by rw [List.getElem?_take]at hv;split at hv;exact hv;cases hv)) (fun i v hv=>hr i v (by rw [List.getElem?_take]at hv;split at hv;exact hv;cases hv))
   rwa [e]at this
theorem SlAt.back {w:World} {F:Nat->Prop} {pa:Option Addr} {n c:Nat} {l:List Val} (h:SlAt w F (.slice pa n c) l) {k:Nat} (hk:k≤l.length) (hc:l.length≤c):SlAt w F (.slice (if c=k then pa else pa.map (·.add (k * 5))) (l.length - k) (c - k)) (l.drop k):=by
 generalize hs:Value.slice pa n c=s at h
 cases h with
 | mk pa' c0 l raw hcp h hr =>
   cases hs
   have e:(l.drop k).length=l.length - k:=by simp
   have:=SlAt.mk (w:=w) (F:=F) (if c=k then pa else pa.map (·.add (k * 5))) (c - k) (l.drop k) (fun i=>raw (k+i)) ⟨by rw [e];omega,fun h0=>by
    have:pa=none:=by
     split at h0
     ·exact h0
     ·simpa using h0
    have:=hcp.2 this
    omega⟩ (fun i v hv=>?_) (fun i v hv=>hr (k+i) v (by rw [List.getElem?_drop]at hv;exact hv))
   ·rwa [e]at this
   ·rw [List.getElem?_drop]at hv;have hlt:=ji hv;obtain⟨b,o,rfl,h2,h4,h5,h6,h7,h8⟩:=h (k+i) v hv;have e1:∀ q,o+k * 5+5 * i+q=o+5 * (k+i)+q:=fun q=>by omega
    have e0:o+k * 5+5 * i=o+5 * (k+i):=by omega
    refine⟨b,o+k * 5,?_,h2,by rw [e0];exact h4,by rw [e1];exact h5,by rw [e1];exact h6,by rw [e1];exact h7,by rw [e1];exact h8⟩;rw [if_neg (by omega),Option.map_some,Addr.add_lit]
theorem SlAt.cells {w:World} {F:Nat->Prop} {pa:Option Addr} {n c:Nat} {l:List Val} (h:SlAt w F (.slice pa n c) l):n=l.length/\∃ raw:Nat->Value,(∀ i v,l[i]? = some v->SlAt w F (raw i) v.l) /\
 ∀ j u,(bs l raw)[j]? = some u->∃ b o,pa=some ⟨b,o,none⟩/\w.cell? ⟨b,o+j,none⟩=some u:=by
 generalize hs:Value.slice pa n c=s at h
 cases h with
 | mk pa' c0 l raw hcp h hr =>
   cases hs
   refine⟨rfl,raw,hr,fun j u hj=>?_⟩;obtain⟨i,k,v,rfl,hv,hk⟩:=jP hj;obtain⟨b,o,h1,h2,h4,h5,h6,h7,h8⟩:=h i v hv;refine⟨b,o,h1,?_⟩;have e2:o+(i * 5+k)=o+5 * i+k:=by omega
   rw [e2];have hj5:k<5:=by have:=(Array.getElem?_eq_some_iff.1 hk).1;simpa [au]using this
   match k,hj5 with
   | 0,_=>cases hk;exact h4
   | 1,_=>cases hk;exact h5
   | 2,_=>cases hk;exact h6
   | 3,_=>cases hk;exact h7
   | 4,_=>cases hk;exact h8
theorem SlAt.of_row {w:World} {base:Nat} {F:Nat->Prop} {u:Value} {l:List Val} {raw:Nat->Value} (hrow:w.ownsRow base 27 5 u l.length (bs l raw)) (hr:∀ i v,l[i]? = some v->SlAt w F (raw i) v.l) :
 SlAt w (fun y=>F y\/base≤y) u l:=by
 obtain⟨h1,⟨rfl,h0⟩ | ⟨g,cap,cur,rfl,hg,hb,hc,hm,hcs,ht⟩⟩:=hrow
 ·have:l = []:=List.length_eq_zero_iff.1 h0;subst this;exact SlAt.nil _ _ _ _
 ·refine SlAt.mk _ _ _ raw ⟨by assumption,fun h=>by cases h⟩ (fun i v hv=>?_) (fun i v hv=>(hr i v hv).mono fun _ h=>.inl h)
  have key:∀ k x,(au v (raw i))[k]? = some x->w.cell? ⟨g,0+5 * i+k,none⟩=some x:=fun k x hx=>by
   have h2:=jI hv hx;rw [<- ht,List.getElem?_take]at h2;split at h2
   ·rw [ag hb,show 0+5 * i+k=i * 5+k by omega,← Array.getElem?_toList];exact h2
   ·cases h2
  exact⟨g,0,rfl,.inr hg,key 0 _ rfl,key 1 _ rfl,key 2 _ rfl,key 3 _ rfl,key 4 _ rfl⟩
theorem fL (l:List Val) (raw:Nat->Value) (v:Val) (rv:Value):bs (l ++ [v]) (fun i=>if i<l.length then raw i else rv)=bs l raw ++ (au v rv).toList:=by
 unfold bs;rw [List.zipIdx_append,List.flatMap_append]
 have h1:(l.zipIdx.flatMap fun x=>(au x.1 (if x.2<l.length then raw x.2 else rv)).toList)=l.zipIdx.flatMap fun x=>(au x.1 (raw x.2)).toList:=by
  simp only [List.flatMap_def]
  congr 1
  refine List.map_congr_left fun x hx=>?_;have:=List.mem_zipIdx hx;rw [if_pos (by omega)]
 rw [h1];simp
theorem tu {w:World} {FA FB:Nat->Prop} {pa:Option Addr} {n:Nat} {l:List Val} (h:SlAt w FA (.slice pa n n) l) {v:Val} {rv:Value} (hv:SlAt w FB rv v.l) (hl:l.length≤1024) {b:Nat} (hb:w.heap[b]? = some (.cells (au v rv) 27 (0,0))) (hnone:pa=none->n=0) (ty:TypeId) :
 ∃ u w',(Builtin.append_ #[24,24] ty #[.slice pa n n,.slice (some ⟨b,0,none⟩) 1 1]).run Tryz.prog w=.ok u w'/\SlAt w' (fun y=>FA y\/FB y\/w.heap.size≤y) u (l ++ [v])/\Bl w w'/\dQ u:=by
 obtain⟨hn,raw,hr,hcell⟩:=h.cells;subst hn;obtain⟨iv,hi,hz,h1,h2⟩:=info_parts de
 have hform:∀ i v,l[i]? = some v->∃ a n c,raw i=.slice a n c:=fun i v hv=>by
  obtain⟨p,c,e⟩:=(hr i v hv).form;exact⟨p,_,c,e⟩
 obtain⟨pv,cv,rfl⟩:=hv.form
 have hnews:∀ (j:Nat) (u:Value),(au v (.slice pv v.l.length cv)).toList[j]? = some u->w.cell? ((⟨b,0,none⟩:Addr).add j)=some u:=fun j u hj=>by
  rw [Addr.add_lit,Nat.zero_add,ag hb]
  simpa using hj
 have hone:∀ u ∈ (au v (.slice pv v.l.length cv)).toList,u.oneCell'=true:=by
  intro u hu;simp [au]at hu
  rcases hu with rfl | rfl | rfl | rfl | rfl <;> rfl
 have fin:∀ (u:Value) (w':World),w'.ownsRow w.heap.size 27 5 u (l.length+1) (bs l raw ++ (au v (.slice pv v.l.length cv)).toList)->Bl w w'->SlAt w' (fun y=>FA y\/FB y\/w.heap.size≤y) u (l ++ [v])/\Bl w w'/\dQ u:=fun u w' hrow hbel=>by
  have hrow':w'.ownsRow w.heap.size 27 5 u (l ++ [v]).length (bs (l ++ [v]) (fun i=>if i<l.length then raw i else .slice pv v.l.length cv)):=by
   rw [fL]
   simpa using hrow
  refine⟨(SlAt.of_row (F:=fun y=>FA y\/FB y) hrow' fun i x hx=>?_).mono fun y hy=>by rcases hy with (hy | hy) | hy;exact .inl hy;exact .inr (.inl hy);exact .inr (.inr hy),hbel,?_⟩
  ·by_cases hil:i<l.length
   ·rw [List.getElem?_append_left hil]at hx;simp only [hil,if_true];exact((hr i x hx).on hbel).mono fun _ h=>.inl h
   ·have hi2:=ji hx;simp at hi2;have:i=l.length:=by omega
    subst this;simp at hx;subst hx;simp only [Nat.lt_irrefl,if_false];exact(hv.on hbel).mono fun _ h=>.inr h
  ·obtain⟨-,⟨rfl,h0⟩ | ⟨g,cap,cur,rfl,hg,hb,hc,hm,hcs,ht⟩⟩:=hrow
   ·omega
   ·exact⟨_,_,_,rfl,hc,fun e=>by cases e⟩
 cases pa with
 | some a =>
   obtain⟨v',w',hrun,r1,r2⟩:=run_append_arg_grows (P:=Tryz.prog) w 24 ty 27 iv (.agg zV) 5 64 Tryz.underlying24 hi hz h1 h2 rfl (by decide) a l.length l.length (bs l raw) (eO _ _) (fun j u hj=>by
    obtain⟨b',o,e,hc⟩:=hcell j u hj
    cases e
    rw [Addr.add_lit]
    exact hc) ⟨b,0,none⟩ 1 1 (au v (.slice pv v.l.length cv)).toList (by simp [au]) hnews (by omega) (by unfold maxLen;omega) (by omega)
   exact⟨v',w',hrun,fin v' w' r1 (bR r2)⟩
 | none =>
   have h0:=hnone rfl;have hl0:l = []:=List.length_eq_zero_iff.1 h0;subst hl0;obtain⟨v',w',hrun,r1,r2,-⟩:=run_append_own (P:=Tryz.prog) w w.heap.size 24 ty 27 iv (.agg zV) 5 64 Tryz.underlying24 hi hz h1 h2 rfl (by decide) (S_) 0 [] (World.ownsRow_nil w _ _ _) ⟨b,0,none⟩ 1 1 (au v (.slice pv v.l.length cv)).toList (by simp [au]) hnews hone (by unfold maxLen;omega) (by omega) aH;exact⟨v',w',hrun,fin v' w' (by simpa [bs]using r1) (bR r2)⟩
end
section
def RowV (w:World) (base:Nat) (u:Value) (l:List Val):Prop :=
 ∃ raw:Nat->Value,w.ownsRow base 27 5 u l.length (bs l raw)/\∀ i v,l[i]? = some v->SlAt w (fun b=>base≤b/\u.ownBlock≠some b) (raw i) v.l
theorem RowV.nil (w:World) (base:Nat):RowV w base (S_) []:=⟨fun _=>S_,World.ownsRow_nil _ _ _ _,fun i v h=>by simp at h⟩
theorem RowV.below {w w':World} {base:Nat} {u:Value} {l:List Val} (h:RowV w base u l) (hb:Bl w w'):RowV w' base u l:=by
 obtain⟨raw,⟨h1,h2⟩,h3⟩:=h;exact⟨raw,⟨h1,h2.imp id fun⟨g,cap,cur,e1,e2,e3,e4⟩=>⟨g,cap,cur,e1,e2,ae hb e3,e4⟩⟩,fun i v hv=>(h3 i v hv).on hb⟩
theorem RowV.at {w:World} {base:Nat} {u:Value} {l:List Val} (h:RowV w base u l):SlAt w (fun y=>base≤y) u l:=by
 obtain⟨raw,h1,h2⟩:=h;exact(SlAt.of_row h1 h2).mono fun y hy=>hy.elim (fun h=>h.1) id
theorem RowV.own {w:World} {base:Nat} {u:Value} {l:List Val} (h:RowV w base u l):∀ b,u.ownBlock=some b->base≤b/\b<w.heap.size:=fun b hb=>by
 obtain⟨raw,⟨h1,⟨rfl,-⟩ | ⟨g,cap,cur,rfl,h2,h3,-⟩⟩,-⟩:=h
 ·cases hb
 ·cases hb
  exact⟨h2,aw h3⟩
theorem hY {w:World} {ops:Array Oper} {rest:List Oper} {o:Oper} {a:Act} {Q:Exit->Act->World->Prop} (hgd:o.guard=none) (s x:Operand)
 (ho:o.op=.call { callee:=.builtin .append,args:=#[s,x],argTypes:=#[24,24] }) (base:Nat)
 (u:Value) (l:List Val) (hs:a.eval s=u) (hown:Hid (RowV w base u l)) (y:Val) (raw:Value) (hy:Hid (SlAt w (fun b=>base≤b/\u.ownBlock≠some b) raw y.l)) (hx:a.eval x=.slice (some ⟨w.heap.size,0,none⟩) 1 1)
 (hn:Hid ((l.length:Int)≤1000)) (hbase:Hid (base≤w.heap.size))
 (h:∀ v' w',Hid (RowV w' base v' (l ++ [y]))->Hid (Keeps (fun b=>u.ownBlock=some b) w w')->wpList Tryz.prog ops Q rest (a.put o.dst v') w'):wpList Tryz.prog ops Q (o :: rest) a (w.alloc (.cells (au y raw) 27)):=by
 obtain⟨i,hi,hz,h1,h2⟩:=info_parts de;have hn':=hn.out;obtain⟨rw0,hrow,hel⟩:=hown.out;have hyo:=hy.out;obtain⟨p,c,e⟩:=hyo.form
 have hone:∀ t ∈ (au y raw).toList,t.oneCell'=true:=by
  intro t ht;rw [e]at ht;simp [au]at ht
  rcases ht with rfl | rfl | rfl | rfl | rfl <;> rfl
 refine wpList_append_own_at _ hgd s x 24 ho base 27 i (.agg zV) 5 64 Tryz.underlying24 hi hz h1 h2 rfl (by decide) u l.length _ hs (hrow.alloc _) ⟨w.heap.size,0,none⟩ 1 1 (au y raw).toList hx (by simp [au]) (fun j t hj=>by
  rw [Addr.add_lit,Nat.zero_add,ag (ai w _)]
  simpa using hj) hone (by unfold maxLen;omega) (by omega) (by have:=hbase.out;simp;omega) ?_
 intro v' w' r1 r2 _ r4;have hg:w.grownBy w' u.ownBlock:=(World.grownBy_alloc w _ _).trans r2;have hk:Keeps (fun b=>u.ownBlock=some b) w w':=⟨hg.os,hg.tape,hg.output,hg.size,fun k hk hne=>hg.block k hk (fun e=>hne e.symm)⟩;refine h v' w' ?_ hk;refine⟨fun k=>if k<l.length then rw0 k else raw,?_,fun k v hv=>?_⟩
 ·rw [fL,List.length_append];exact r1
 ·have keep:∀ {rv:Value} {vl:List Val},SlAt w (fun b=>base≤b/\u.ownBlock≠some b) rv vl->SlAt w' (fun b=>base≤b/\v'.ownBlock≠some b) rv vl:=fun hS =>
   ((SlAt.lt hS).keeps hk (fun b h1 h2=>h2.1.2 h1)).mono fun b hb=>⟨hb.1.1,fun e'=>by
     rcases r4 with r4 | r4
     ·exact hb.1.2 (r4 ▸ e')
     ·rw [r4]at e';simp at e';have:=hb.2
      omega⟩
  show SlAt w' _ (if k<l.length then rw0 k else raw) v.l
  by_cases hkl:k<l.length
  ·rw [if_pos hkl];rw [List.getElem?_append_left hkl]at hv;exact keep (hel k v hv)
  ·rw [if_neg hkl]
   have:k=l.length:=by
    have:=ji hv;simp at this;omega
   subst this;simp at hv;subst hv;exact keep hyo
end
section
theorem mo:bX 17 27 16 bp:=fun _ _ _ _ _=>rfl
theorem lH:bX 23 27 1 bp:=fun _ _ _ _ _=>rfl
theorem pB (w:World) (b:Nat) (v:Value) (ts:Array Value) {x0 x1 x2 x3 x4:Value} (h:w.heap[b]? = some (.cells #[x0,x1,x2,x3,x4] 27 (0,0))) (h2:ts[2]? = some (.pointer (some ⟨b,0,none⟩))) (hv:v=.agg #[x0,x1,x2,x3,x4]) :
 (results Tryz.f207 ts).run Tryz.prog w=.ok v w:=by
 obtain⟨⟨c0,c1,c2,c3,c4⟩,-⟩:=ax h;simp [results,Tryz.results207,go_sem,c0,c1,c2,c3,c4,h2,hv]
def dE (w:World) (v:Val) (e:Ending) (w':World):Prop:=∃ raw',e=.returned (.agg (au v raw'))/\Bl w w'/\SlAt w' (fun b=>w.heap.size≤b) raw' v.l/\(v.l = []->raw'=.slice none 0 0)
def zM (n:Nat):Prop:=∀ (v:Val) (raw:Value) (w:World) (F:Nat->Prop),bY n v->SlAt w F raw v.l->Calls Tryz.prog 207 #[.agg (au v raw)] w (dE w v)
structure RvR (w:World) (A:Array Value) (u:Value) (l:List Val) (wr:World):Prop where
 bel:Bl w wr
 box:wr.heap[w.heap.size]? = some (.cells A 27 (0,0))
 res:wr.heap[w.heap.size+1]? = some (.cells zV 27 (0,0))
 row:RowV wr (w.heap.size+2) u l
 nil:l = []->u=.slice none 0 0
theorem RvR.below {w wr w':World} {A:Array Value} {u:Value} {l:List Val} (h:RvR w A u l wr) (hb:Bl wr w'):RvR w A u l w' :=
 ⟨h.bel.trans (hb.mono h.bel.size),ae hb h.box,ae hb h.res,h.row.below hb,h.nil⟩
theorem RvR.more {w wr w':World} {A:Array Value} {u u':Value} {l:List Val} {y:Val} (h:RvR w A u l wr) (hk:Keeps (fun b=>u.ownBlock=some b) wr w') (hr:RowV w' (w.heap.size+2) u' (l ++ [y])):RvR w A u' (l ++ [y]) w' :=
 ⟨h.bel.trans (hk.below h.bel.size fun b hb=>by have:=(h.row.own b hb).1;omega),hk.none h.box (fun e=>by have:=(h.row.own _ e).1;omega),hk.none h.res (fun e=>by have:=(h.row.own _ e).1;omega),hr,fun e=>by simp at e⟩
theorem RvR.form {w wr:World} {A:Array Value} {u:Value} {l:List Val} (h:RvR w A u l wr):∃ p c,u=.slice p l.length c:=SlAt.form h.row.at
attribute [local go_sem ↓] mo lH aW in
theorem qL (n:Nat) (ih:∀ m,n=m+1->zM m):zM n:=by
 intro v raw w F hd hS;obtain⟨pa,c,rfl⟩:=hS.form;obtain⟨kind,nn,s,l,r⟩:=v
 have hlen:l.length≤512:=by
  cases n with
  | zero=>rw [show l = []from hd];simp
  | succ m=>exact hd.1
 have hrec:∀ x ∈ l,∀ raw w F,SlAt w F raw x.l->Calls Tryz.prog 207 #[.agg (au x raw)] w (dE w x):=fun x hx raw w F h=>by
  cases n with
  | zero=>rw [show l = []from hd]at hx;cases hx
  | succ m=>exact ih m rfl x raw w F (hd.2 x hx) h
 have HS:Hid (∀ w',Bl w w'->SlAt w' F (.slice pa l.length c) l):=fun w' hb=>hS.on hb;have IH:Hid _:=hrec;have HL:Hid (l.length≤512):=hlen
 have H0:Hid (RvR w (V_ kind nn s (.slice pa l.length c) r) (S_) [] ((w.alloc (.cells (V_ kind nn s (.slice pa l.length c) r) 27)).alloc (.cells zV 27))) :=
  ⟨((Below.refl _ w).alloc aH _).alloc (by simp) _,aL w _ _,aK w _ _,RowV.nil _ _,fun _=>rfl⟩
 clear hS hd ih hrec hlen;simp only [au]
 go_enter Tryz.func207,Tryz.ntmps207
 go_upto_region 3 with fail
 go_loopw [3,4] (fun vu vi wr=>∃ i:Nat,vi=J i/\i≤l.length/\Hid (RvR w (V_ kind nn s (.slice pa l.length c) r) vu (l.take i) wr)) (fun _ vi _=>l.length - (intOf vi).toNat)
 case atStart=>exact⟨0,rfl,Nat.zero_le _,H0.out⟩
 case round =>
  clear H0;obtain⟨i,rfl,hi,HR⟩:=hrel;obtain⟨⟨a0,a1,a2,a3,a4⟩,f0,f1,f2,f3,f4⟩:=ax HR.out.box
  by_cases hil:i<l.length
  ·have hiz:(i:Int)<(l.length:Int):=by omega
   obtain⟨y,hy⟩:∃ y,l[i]? = some y:=⟨_,List.getElem?_eq_getElem hil⟩;obtain⟨b,o,cq,raw,hpe,hrg,hlt,-,hSx⟩:=(HS.out wr HR.out.bel).range hy;have hpa:pa=some ⟨b,o,none⟩:=by injection hpe
   subst hpa;have HN:Hid (l.take (i+1)=l.take i ++ [y]):=by show _=_;rw [List.take_add_one,hy];rfl
   have HC:Hid _:=IH.out y (List.mem_of_getElem? hy) raw wr F hSx;obtain⟨yk,yn,ys,yl,yr⟩:=y;obtain⟨pa2,c2,rfl⟩:=hSx.form;have hld0:=aY hrg rfl;have hld:(bp (R_ b (o+i * 5))).run Tryz.prog wr=.ok (.value (.agg (V_ yk yn ys (.slice pa2 yl.length c2) yr))) wr:=hld0;have hwi:wrap64 ((i:Int)+1)=(i:Int)+1:=by have:=HL.out;unfold wrap64;omega
   simp only [au]at HC;clear hld0 hy hrg hSx hlt hpe
   go_wp2_with fail
   refine Calls.mono HC.out ?_;rintro e w5 ⟨raw',rfl,hb5,hs5,-⟩;obtain⟨pr,cr,rfl⟩:=hs5.form;have HR5:Hid _:=HR.out.below hb5;have HY:Hid (SlAt w5 (fun b=>w.heap.size+2≤b/\u3.ownBlock≠some b) (.slice pr yl.length cr) yl):=hs5.mono fun z hz=>⟨by have:=aw HR.out.res;omega,fun e=>by have:=(HR.out.row.own z e).2;omega⟩;have HRW:Hid (RowV w5 (w.heap.size+2) u3 (l.take i)):=HR5.out.row;have HNn:Hid (((l.take i).length:Int)≤1000):=by show _≤_;have:=HL.out;rw [List.length_take];omega
   have HBs:Hid (w.heap.size+2≤w5.heap.size):=by have:=aw HR5.out.res;exact this
   clear hb5 hs5 HR HC hld a0 a1 a2 a3 a4 f0 f1 f2 f3 f4;simp only [au]
   go_wp2_with (at_builtin;refine hY rfl _ _ rfl (w.heap.size+2) u3 (l.take i) rfl HRW ⟨yk,yn,ys,yl,yr⟩ (.slice pr yl.length cr) HY rfl HNn HBs ?_;intro v' w7 hrow hk
                have HR7:Hid (RvR w _ v' (l.take (i+1)) w7):=HN.out ▸ HR5.out.more hk.out hrow.out
                clear hrow hk HR5 HRW HY HBs HNn)
   go_roundw
   case rel=>exact⟨i+1,by go_num,by omega,HR7.out⟩
   case measure=>rw [hwi];simp [intOf];omega
  ·have hiz:¬ (i:Int)<(l.length:Int):=by omega
   obtain rfl:i=l.length:=by omega
   have hkk:¬ (l.length:Int)<(l.length:Int):=by omega
   have HR:=HR.out;rw [List.take_length]at HR;obtain⟨p8,c8,rfl⟩:=HR.form;have hg:=HR.box;have hgs:(wr.setCell ⟨w.heap.size,3,none⟩ (.slice p8 l.length c8)).heap[w.heap.size]? = some (.cells (V_ kind nn s (.slice p8 l.length c8) r) 27 (0,0)):=by rw [aA hg];rfl
   have hrs:(wr.setCell ⟨w.heap.size,3,none⟩ (.slice p8 l.length c8)).heap[w.heap.size+1]? = some (.cells zV 27 (0,0)):=(Below.heap_setCell wr ⟨w.heap.size,3,none⟩ _ _ (by simp)).trans HR.res;have hld:=aI hgs rfl;have hst:=az (c':=#[U kind,J nn,.string s,.slice p8 l.length c8,J r]) hrs rfl rfl (by simp [go_sem])
   have HF:Hid (∀ w9,w9=(wr.setCell ⟨w.heap.size,3,none⟩ (.slice p8 l.length c8)).setRow (w.heap.size+1) (V_ kind nn s (.slice p8 l.length c8) r)->w9.heap[w.heap.size+1]? = some (.cells (V_ kind nn s (.slice p8 l.length c8) r) 27 (0,0)) /\
    dE w ⟨kind,nn,s,l,r⟩ (.returned (.agg (V_ kind nn s (.slice p8 l.length c8) r))) w9):=by
    intro w9 e;subst e
    have hk:Keeps (fun b=>b=w.heap.size\/b=w.heap.size+1) wr ((wr.setCell ⟨w.heap.size,3,none⟩ (.slice p8 l.length c8)).setRow (w.heap.size+1) (V_ kind nn s (.slice p8 l.length c8) r)) :=
     (Keeps.setCell (S:=fun b=>b=w.heap.size) wr ⟨w.heap.size,3,none⟩ _ rfl).trans (aQ _ _ _) (fun _ _ h=>.inl h) (fun _ _ h=>.inr h)
    refine⟨ah hrs,.slice p8 l.length c8,rfl,HR.bel.trans (hk.below HR.bel.size fun b hb=>?_),?_,fun e=>HR.nil e⟩
    ·rcases hb with hb | hb <;> omega
    ·exact(HR.row.at.keeps hk (fun b h1 h2=>by rcases h1 with h1 | h1 <;> omega)).mono fun b hb=>by omega
   clear hgs hrs hg HR
   go_wp2_with fail
   exact bodyPost_ret (pB _ _ _ _ (HF.out _ rfl).1 rfl rfl) rfl (HF.out _ rfl).2
theorem nK (n:Nat):zM n:=by
 induction n with
 | zero=>exact qL 0 (fun m h=>by cases h)
 | succ n ih=>exact qL (n+1) (fun m h=>by cases h;exact ih)
end
end Go.Proofs.YthaliljaglldjaaGreat
