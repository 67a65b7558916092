/- Part of the proof. -/
import Derived.Test.YthaliljaglldjaaGreatmAI
namespace Go.Proofs.YthaliljaglldjaaGreat
set_option maxHeartbeats 16000000
set_option maxRecDepth 20000
open Go.RowKit Go.ChangeMaps Go.MapKept
section
theorem vR {α β:Type} (f:α->List β) (k:Nat) (hf:∀ x,(f x).length=k):∀ (xs:List α) (i:Nat) (x:α),xs[i]? = some x->∀ (j:Nat) (y:β),(f x)[j]? = some y->(xs.flatMap f)[i * k+j]? = some y:=by
 intro xs
 induction xs with
 | nil=>intro i x h;simp at h
 | cons a xs ih =>
   intro i x h j y hy;have hj:j<k:=by have:=ji hy;rw [hf]at this;exact this
   rw [List.flatMap_cons]
   cases i with
   | zero =>
     cases h
     rw [Nat.zero_mul,Nat.zero_add,List.getElem?_append_left (by rw [hf];exact hj)];exact hy
   | succ i =>
     have e:(i+1) * k+j=k+(i * k+j):=by rw [Nat.add_mul];omega
     rw [e,List.getElem?_append_right (by rw [hf];omega),hf,Nat.add_sub_cancel_left];exact ih i x (by simpa using h) j y hy
theorem vj {α β:Type} (f:α->List β) (k:Nat) (hf:∀ x,(f x).length=k):∀ (xs:List α) (m:Nat) (y:β),(xs.flatMap f)[m]? = some y->∃ i j x,m=i * k+j/\xs[i]? = some x/\(f x)[j]? = some y:=by
 intro xs
 induction xs with
 | nil=>intro m y h;simp at h
 | cons a xs ih =>
   intro m y h;rw [List.flatMap_cons]at h
   by_cases hm:m<k
   ·rw [List.getElem?_append_left (by rw [hf];exact hm)]at h;exact⟨0,m,a,by omega,rfl,h⟩
   ·rw [List.getElem?_append_right (by rw [hf];omega),hf]at h;obtain⟨i,j,x,h1,h2,h3⟩:=ih _ _ h;exact⟨i+1,j,x,by rw [Nat.add_mul];omega,by simpa using h2,h3⟩
theorem rj {α β:Type} (f:α->List β) (k:Nat) (hf:∀ x,(f x).length=k) (xs:List α):(xs.flatMap f).length=xs.length * k:=by
 induction xs with
 | nil=>simp
 | cons a xs ih=>rw [List.flatMap_cons,List.length_append,ih,hf,List.length_cons,Nat.add_mul];omega
def bs (l:List Val) (raw:Nat->Value):List Value:=l.zipIdx.flatMap fun x=>(au x.1 (raw x.2)).toList
theorem eO (l:List Val) (raw:Nat->Value):(bs l raw).length=l.length * 5:=by
 unfold bs;rw [rj _ 5 (fun x=>rfl),List.length_zipIdx]
theorem jI {l:List Val} {raw:Nat->Value} {i:Nat} {v:Val} (h:l[i]? = some v) {k:Nat} {x:Value} (hx:(au v (raw i))[k]? = some x):(bs l raw)[i * 5+k]? = some x :=
 vR _ 5 (fun x=>rfl) _ i (v,i) (by rw [List.getElem?_zipIdx,h];simp) k x (by simpa using hx)
theorem jP {l:List Val} {raw:Nat->Value} {m:Nat} {y:Value} (h:(bs l raw)[m]? = some y):∃ i j v,m=i * 5+j/\l[i]? = some v/\(au v (raw i))[j]? = some y:=by
 obtain⟨i,j,⟨v,q⟩,h1,h2,h3⟩:=vj _ 5 (fun x=>rfl) _ _ _ h;rw [List.getElem?_zipIdx,Option.map_eq_some_iff]at h2;obtain⟨u,h4,h5⟩:=h2
 cases h5
 exact⟨i,j,v,h1,h4,by simpa using h3⟩
theorem gQ {l:List Val} {raw:Nat->Value} (hr:∀ i v,l[i]? = some v->∃ a n c,raw i=.slice a n c):∀ u ∈ bs l raw,u.oneCell'=true:=by
 intro u hu;obtain⟨m,hm⟩:=List.getElem?_of_mem hu;obtain⟨i,j,v,-,h2,h3⟩:=jP hm;obtain⟨a,n,c,hr⟩:=hr i v h2;rw [hr]at h3;have hj:j<5:=by have:=(Array.getElem?_eq_some_iff.1 h3).1;simpa [au]using this
 match j,hj with
 | 0,_=>cases h3;rfl
 | 1,_=>cases h3;rfl
 | 2,_=>cases h3;rfl
 | 3,_=>cases h3;rfl
 | 4,_=>cases h3;rfl
def xC (B:Nat) (w:World) (F:Nat->Prop) (u:Value) (l:List Val):Prop :=
 (u=.slice none 0 0/\l = [])\/∃ (g cap:Nat) (cur:Array Value) (raw:Nat->Value),u=.slice (some ⟨g,0,none⟩) l.length cap/\B≤g/\w.heap[g]? = some (.cells cur 27 (0,0))/\cur.size=cap * 5/\l.length≤cap /\
  ∀ (j:Nat) (v:Val),l[j]? = some v->(∀ k x,(au v (raw j))[k]? = some x->cur[j * 5+k]? = some x)/\SlAt w F (raw j) v.l
theorem de:(Tryz.prog.info? 27).map (fun i=>(i.zero,i.size,i.bytes))=some (some (.agg zV),5,64):=by kernel_rfl
theorem oT {w:World} {F:Nat->Prop} (l:List Val) (s:Value) (hS:SlAt w F s l) (hl:l.length≤1024) :
 Calls Tryz.prog 171 #[s] w fun e w'=>∃ u,e=.returned u/\xC w.heap.size w' F u l/\Bl w w'/\(s=.slice none 0 0->u=.slice none 0 0):=by
 have HS:Hid (SlAt w F s l):=hS;obtain⟨pa,c,rfl⟩:=hS.form;clear hS
 cases pa with
 | none =>
   have hl0:l = []:=by
    cases l with
    | nil=>rfl
    | cons x xs =>
      obtain⟨b,o,c',raw,e,-⟩:=HS.out.range (i:=0) (v:=x) rfl
      cases e
   subst hl0
   go_enter Tryz.func171,Tryz.ntmps171
   go_wp2_with fail
   go_ret
   exact⟨_,rfl,.inl ⟨rfl,rfl⟩,br,fun _=>rfl⟩
 | some a =>
   obtain⟨news,hlen,hone,hcell,hat⟩:∃ news:List Value,news.length=l.length * 5/\(∀ u ∈ news,u.oneCell'=true)/\(∀ j u,news[j]? = some u->w.cell? (a.add j)=some u) /\
    ∃ raw:Nat->Value,∀ (j:Nat) (v:Val),l[j]? = some v->(∀ k x,(au v (raw j))[k]? = some x->news[j * 5+k]? = some x)/\SlAt w F (raw j) v.l:=by
    have h:=HS.out;generalize hsl:Value.slice (some a) l.length c=s at h
    cases h with
    | mk pa c' l raw hcp h hr =>
      cases hsl
      have hform:∀ i v,l[i]? = some v->∃ a n c,raw i=.slice a n c:=fun i v hv=>by
       obtain⟨p,c,e⟩:=(hr i v hv).form;exact⟨p,_,c,e⟩
      refine⟨bs l raw,eO _ _,gQ hform,fun j u hj=>?_,raw,fun j v hv=>⟨fun k x hk=>jI hv hk,hr j v hv⟩⟩;obtain⟨i,k,v,rfl,hv,hk⟩:=jP hj;obtain⟨b,o,h1,h2,h4,h5,h6,h7,h8⟩:=h i v hv
      cases h1
      have e:(⟨b,o,none⟩:Addr).add (i * 5+k)=⟨b,o+5 * i+k,none⟩:=by
       have e2:o+(i * 5+k)=o+5 * i+k:=by omega
       rw [Addr.add_lit,e2]
      rw [e];have hj5:k<5:=by have:=(Array.getElem?_eq_some_iff.1 hk).1;simpa [au]using this
      match k,hj5 with
      | 0,_=>cases hk;exact h4
      | 1,_=>cases hk;exact h5
      | 2,_=>cases hk;exact h6
      | 3,_=>cases hk;exact h7
      | 4,_=>cases hk;exact h8
   have Hn:Hid (news.length=l.length * 5/\(∀ u ∈ news,u.oneCell'=true)/\(∀ j u,news[j]? = some u->w.cell? (a.add j)=some u)):=⟨hlen,hone,hcell⟩;have Hat:Hid _:=hat;have Hl:Hid (l.length≤1024):=hl;clear hlen hone hcell hat hl;obtain⟨iv,hi,hz,h1,h2⟩:=info_parts de;have Hi:Hid _:=And.intro hi (And.intro hz (And.intro h1 h2));clear hi hz h1 h2
   go_enter Tryz.func171,Tryz.ntmps171
   have hown:Hid ((w.alloc (.cells #[] 27)).ownsRow w.heap.size 27 5 (.slice (some ⟨w.heap.size,0,none⟩) 0 0) 0 []) :=
    ⟨rfl,.inr ⟨w.heap.size,0,#[],rfl,aH,ai _ _,aH,by unfold maxLen;omega,rfl,rfl⟩⟩
   have hb0:Hid (Bl w (w.alloc (.cells #[] 27))):=br.alloc aH _;have hnc:Hid (∀ j u,news[j]? = some u->(w.alloc (.cells #[] 27)).cell? (a.add j)=some u):=fun j u hj=>gk (Hn.out.2.2 j u hj) _
   go_wp2_with (first
    | (at_builtin;refine wpList_append_own _ rfl _ _ 24 rfl w.heap.size 27 iv (.agg zV) 5 64 Tryz.underlying24 Hi.out.1 Hi.out.2.1 Hi.out.2.2.1 Hi.out.2.2.2 rfl (by decide) (.slice (some ⟨w.heap.size,0,none⟩) 0 0) 0 [] rfl hown.out a l.length c news rfl Hn.out.1 hnc.out Hn.out.2.1 (by have:=Hl.out;unfold maxLen;omega) (by have:=Hl.out;omega) (by simp) ?_;intro v' w5 hown5 hg5 hnil5))
   go_ret
   have hbel:Bl w w5:=⟨hg5.os.trans rfl,hg5.tape.trans rfl,hg5.output.trans rfl,Nat.le_trans (by simp) hg5.size,fun k hk=>(hg5.block k (by simp;omega) (fun e=>by have e:some k=some w.heap.size:=e;cases e;omega)).trans (hb0.out.block k hk)⟩;refine⟨_,rfl,?_,hbel,fun e=>by cases e⟩;obtain⟨hl5,⟨rfl,h0⟩ | ⟨g,cap,cur,rfl,h1,h2,h3,h4,h5,h6⟩⟩:=hown5
   ·exact absurd (hnil5.1 rfl).1 (by intro e;cases e)
   ·obtain⟨raw,hr⟩:=Hat.out;refine .inr ⟨g,cap,cur,raw,by simp,h1,h2,h5,by omega,fun j v hv=>⟨fun k x hk=>?_,(hr j v hv).2.on hbel⟩⟩;have h7:=(hr j v hv).1 k x hk;have hlt:=ji h7;rw [List.nil_append]at h6;rw [<- h6,List.getElem?_take]at h7;split at h7
    ·rw [<- Array.getElem?_toList];exact h7
    ·cases h7
def OwL (w:World) (F:Nat->Prop) (A:Array Value) (l:List Val) (g i:Nat) (wr:World):Prop :=
 Bl w wr/\wr.heap[w.heap.size]? = some (.cells A 46 (0,0))/\(∃ Z,wr.heap[w.heap.size+1]? = some (.cells Z 46 (0,0))/\Z.size=16)/\w.heap.size+2≤g /\
  ∃ (cap:Nat) (cur:Array Value) (raw:Nat->Value),wr.heap[g]? = some (.cells cur 27 (0,0))/\cur.size=cap * 5/\l.length≤cap /\
    ∀ (j:Nat) (v:Val),l[j]? = some v->(∀ k x,(au v (raw j))[k]? = some x->cur[j * 5+k]? = some x)/\(if j<i then SlT wr (fun b=>w.heap.size+2≤b/\b≠g) (raw j) v.l else SlAt wr F (raw j) v.l)
theorem OwL.below {w:World} {F:Nat->Prop} {A:Array Value} {l:List Val} {g i:Nat} {wr w':World} (h:OwL w F A l g i wr) (hb:Bl wr w'):OwL w F A l g i w':=by
 obtain⟨h1,h2,⟨Z,h3,h3'⟩,h4,cap,cur,raw,h5,h6,h7,h8⟩:=h;refine⟨h1.trans (hb.mono h1.size),ae hb h2,⟨Z,ae hb h3,h3'⟩,h4,cap,cur,raw,ae hb h5,h6,h7,fun j v hv=>⟨(h8 j v hv).1,?_⟩⟩;have:=(h8 j v hv).2;split at this
 ·rename_i hj
  rw [if_pos hj];exact this.on hb
 ·rename_i hj
  rw [if_neg hj];exact this.on hb
theorem OwL.load {w:World} {F:Nat->Prop} {A:Array Value} {l:List Val} {g i:Nat} {wr:World} (h:OwL w F A l g i wr) {x:Val} (hx:l[i]? = some x) :
 ∃ pa c,(bp (R_ g (i * 5))).run Tryz.prog wr=.ok (.value (.agg (au x (.slice pa x.l.length c)))) wr/\SlAt wr F (.slice pa x.l.length c) x.l:=by
 obtain⟨h1,h2,-,h4,cap,cur,raw,h5,h6,h7,h8⟩:=h;obtain⟨h9,h10⟩:=h8 i x hx;rw [if_neg (Nat.lt_irrefl _)]at h10;obtain⟨pa,c,e⟩:=h10.form;rw [e]at h9 h10;exact⟨pa,c,aY (cs:=(au x (.slice pa x.l.length c)).toList) (fun j y hj=>by rw [ag h5];exact h9 j y (by simpa using hj)) rfl,h10⟩
theorem OwL.next {w:World} {F:Nat->Prop} {A:Array Value} {l:List Val} {g i:Nat} {wr:World} (h:OwL w F A l g i wr) (hF:∀ b,F b->b<w.heap.size) {x:Val} {rx:Value} (hx:l[i]? = some x) (hs:SlT wr (fun b=>w.heap.size+2≤b/\b≠g) rx x.l) :
 ∃ w',(bZ (R_ g (i * 5)) (.agg (au x rx))).run Tryz.prog wr=.ok .skip w'/\OwL w F A l g (i+1) w'/\Keeps (fun b=>b=g) wr w':=by
 obtain⟨h1,h2,⟨Z,h3,h3'⟩,h4,cap,cur,raw,h5,h6,h7,h8⟩:=h;have hil:=ji hx;obtain⟨pa,c,rfl⟩:=hs.form;have hst:=qt (vs:=au x (.slice pa x.l.length c)) (i:=i * 5) h5 rfl (by omega) (by simp [au,go_sem]);have hoth:∀ k,k≠g->(wr.setRow g (cur.toList.take (i * 5) ++ (au x (.slice pa x.l.length c)).toList ++ cur.toList.drop (i * 5+5)).toArray).heap[k]? = wr.heap[k]?:=fun k hk=>aj wr g _ k hk
 have hT:∀ {s:Value} {m:List Val},SlT wr (fun b=>w.heap.size+2≤b/\b≠g) s m->SlT (wr.setRow g (cur.toList.take (i * 5) ++ (au x (.slice pa x.l.length c)).toList ++ cur.toList.drop (i * 5+5)).toArray) (fun b=>w.heap.size+2≤b/\b≠g) s m:=fun hs =>
  hs.of_blocks (Lists.of fun b hb=>hoth b hb.2) (fun _ h=>h)
 refine⟨_,hst,⟨Below.setRow h1 (by omega) _,(hoth _ (by omega)).trans h2,⟨Z,(hoth _ (by omega)).trans h3,h3'⟩,h4,cap,_,fun j=>if j=i then .slice pa x.l.length c else raw j,ah h5,?_,h7,fun j v hv=>?_⟩,⟨rfl,rfl,rfl,by simp [World.setRow],fun k _ hk=>hoth k hk⟩⟩
 ·simp [au];omega
 ·have hjl:=ji hv
  by_cases e:j=i
  ·subst e;rw [hx]at hv
   cases hv
   simp only [if_true];refine⟨fun k y hk=>?_,by rw [if_pos (Nat.lt_succ_self _)];exact hT hs⟩
   have hk5:k<5:=by
    have:=(Array.getElem?_eq_some_iff.1 hk).1
    simpa [au]using this
   rw [List.getElem?_toArray,List.append_assoc,List.getElem?_append_right (by simp;omega),List.getElem?_append_left (by simp [au];omega)];have:j * 5+k - (cur.toList.take (j * 5)).length=k:=by simp;omega
   rw [this]
   simpa using hk
  ·simp only [if_neg e];obtain⟨h9,h10⟩:=h8 j v hv;refine⟨fun k y hk=>?_,?_⟩
   ·have hk5:k<5:=by
     have:=(Array.getElem?_eq_some_iff.1 hk).1
     simpa [au]using this
    have h11:=h9 k y hk;have hks:=(Array.getElem?_eq_some_iff.1 h11).1;rw [List.getElem?_toArray]
    by_cases hji:j<i
    ·rw [List.append_assoc,List.getElem?_append_left (by simp;omega),List.getElem?_take,if_pos (by omega)]
     simpa using h11
    ·rw [List.getElem?_append_right (by simp [au];omega),List.getElem?_drop];have:i * 5+5+(j * 5+k - (List.take (i * 5) cur.toList ++ (au x (.slice pa x.l.length c)).toList).length)=j * 5+k:=by simp [au];omega
     rw [this]
     simpa using h11
   ·by_cases hji:j<i
    ·rw [if_pos hji]at h10;rw [if_pos (by omega)];exact hT h10
    ·rw [if_neg hji]at h10;rw [if_neg (by omega)];exact h10.of_blocks (fun b hb=>hoth b (by have:=hF b hb;omega)) (fun _ h=>h)
theorem OwL.done {w:World} {F:Nat->Prop} {A:Array Value} {l:List Val} {g:Nat} {wr:World} (h:OwL w F A l g l.length wr) (cap:Nat) (hcap:l.length≤cap):SlT wr (fun b=>w.heap.size+2≤b) (.slice (some ⟨g,0,none⟩) l.length cap) l:=by
 obtain⟨h1,h2,-,h4,cap,cur,raw,h5,h6,h7,h8⟩:=h;refine SlT.mk g _ cur _ raw hcap h4 h5 (fun i v hv=>?_) (fun i v hv=>?_)
 ·obtain⟨h9,-⟩:=h8 i v hv;rw [Nat.mul_comm 5 i];exact⟨h9 0 _ rfl,h9 1 _ rfl,h9 2 _ rfl,h9 3 _ rfl,h9 4 _ rfl⟩
 ·obtain⟨-,h10⟩:=h8 i v hv;rw [if_pos (ji hv)]at h10;exact SlT.mono h10 fun b hb=>hb.1
theorem fE {w:World} {b i:Nat} {cs vs:Array Value} {e:TypeId} (h:w.heap[b]? = some (.cells cs e (0,0))) (h5:vs.size=5) (hl:i+5≤cs.size) (h1:vs.all (·.oneCell')=true) :
 (bZ (R_ b i) (.agg vs)).run Tryz.prog w=.ok .skip (w.setRow b (cs.toList.take i ++ vs.toList ++ cs.toList.drop (i+5)).toArray):=by
 have:=run_storeCells_at (P:=Tryz.prog) b i e vs.toList 0 cs w h (by simp;omega) (fun v hv=>(Array.all_eq_true_iff_forall_mem.1 h1) v (by simpa using hv));have e5:vs.toList.length=5:=by simpa using h5
 rw [e5]at this;simp only [Nat.add_zero]at this;have hi:=dh;simp only [bZ,Instr.storeAt,Instr.sureAddr,Sem.run_bind,Sem.run_pure,Result.andThen];cases hq:Tryz.prog.info? 27 with
 | none=>rw [hq]at hi;cases hi
 | some k =>
   have hs:vs.size=k.size:=by rw [hq]at hi;simp at hi;omega
   simp [storeVar,sizeOf,typeInfo,hq,Value.cells,hs,this]
theorem kh:ff 27 10 9 bZ:=fun _ _ _ _ _=>rfl
theorem Ao:bX 22 27 21 bp:=fun _ _ _ _ _=>rfl
theorem ko:bX 26 27 4 bp:=fun _ _ _ _ _=>rfl
theorem ki:ff 27 28 27 bZ:=fun _ _ _ _ _=>rfl
def OPhi (b0 g n cap i B:Nat) (x:Val) (rx:Value) (j:Nat) (v:Value) (w:World):Prop :=
 match j with
 | 0=>v=R_ b0 7
 | 1=>v=.slice (some ⟨g,0,none⟩) n cap
 | 2=>v=J i
 | 3=>v=.agg (au x rx)
 | 4=>∃ raw',v=.agg (au x raw')/\SlT w (fun b=>B≤b) raw' x.l
 | 5=>v=R_ g (i * 5)
 | _=>True
theorem OPhi.stab {b0 g n cap i B:Nat} {x:Val} {rx:Value}:∀ (j:Nat) (v:Value) (w w':World),Bl w w'->OPhi b0 g n cap i B x rx j v w->OPhi b0 g n cap i B x rx j v w':=by
 intro j v w w' hR h;unfold OPhi at h ⊢;split at h
 ·exact h
 ·exact h
 ·exact h
 ·exact h
 ·obtain⟨raw',h1,h2⟩:=h;exact⟨raw',h1,h2.on hR⟩
 ·exact h
 ·trivial
def dQ (s:Value):Prop:=∃ a n c,s=.slice a n c/\n≤c/\(a=none->c=0)
def zb (w:World) (F:Nat->Prop) (A:Array Value) (pa:Option Addr) (N:Nat) (rv:Value) (vl l:List Val) (i:Nat) (wr:World):Prop :=
 Bl w wr/\wr.heap[w.heap.size]? = some (.cells A 46 (0,0))/\(∃ Z,wr.heap[w.heap.size+1]? = some (.cells Z 46 (0,0))/\Z.size=16)/\SlT wr (fun b=>w.heap.size+2≤b/\b<N) rv vl /\
  ((pa=none/\l = [])\/∃ g,pa=some ⟨g,0,none⟩/\N≤g/\OwL w F A l g i wr)
attribute [local go_sem ↓] kh Ao in
theorem eL {w:World} {F:Nat->Prop} (t:Th) (hD:Lies w F t) (hm:ay t.v=true) (hvs:∀ v ∈ t.vs,ay v=true) (hl:t.vs.length≤1024):Calls Tryz.prog 80 #[.agg (aF t)] w fun e w' =>
 ∃ vl' vals',e=.returned (.agg (aF { t with vl:=vl',vals:=vals' }))/\Bl w w'/\Deep w' (fun b=>w.heap.size≤b) { t with vl:=vl',vals:=vals' }/\(t.v.l = []->vl'=.slice none 0 0)/\(t.vals=.slice none 0 0->vals'=.slice none 0 0)/\dQ vals':=by
 obtain⟨pv,cv,hv⟩:=hD.v.form;obtain⟨ps,cs,hvals⟩:=hD.vs.form;obtain⟨k,h,⟨vk,vn,vstr,vl,vr⟩,raw,vs,vals,n,l,tg,bi,s,fu,code,names⟩:=t;obtain⟨hS1,hS2,hc,hnm⟩:=hD;simp only at hv hvals hS1 hS2 hc hnm hl hm hvs;subst hv hvals hc hnm;have hb0:Bl w ((w.alloc (.cells (aF ⟨k,h,⟨vk,vn,vstr,vl,vr⟩,.slice pv vl.length cv,vs,.slice ps vs.length cs,n,l,tg,bi,s,fu,S_,S_⟩) 46)).alloc (.cells (wr 0 0 0 0 0 0 0 0 0 false) 46)):=(br.alloc aH _).alloc (by simp) _;have hO:=uj (v:=⟨vk,vn,vstr,vl,vr⟩) (raw:=.slice pv vl.length cv) (hS1.on hb0) hm;have HO:Hid _:=hO
 have HB0:=(show Hid _ from And.intro hb0 (And.intro (aL w (.cells (aF ⟨k,h,⟨vk,vn,vstr,vl,vr⟩,.slice pv vl.length cv,vs,.slice ps vs.length cs,n,l,tg,bi,s,fu,S_,S_⟩) 46) (.cells (wr 0 0 0 0 0 0 0 0 0 false) 46))
  (aK w (.cells (aF ⟨k,h,⟨vk,vn,vstr,vl,vr⟩,.slice pv vl.length cv,vs,.slice ps vs.length cs,n,l,tg,bi,s,fu,S_,S_⟩) 46) (.cells (wr 0 0 0 0 0 0 0 0 0 false) 46))))
 have HS2:Hid (SlAt w (fun b=>F b/\b<w.heap.size) (.slice ps vs.length cs) vs):=hS2.lt;have Hl:Hid (vs.length≤1024/\∀ v ∈ vs,ay v=true):=⟨hl,hvs⟩;clear hS1 hS2 hl hb0 hO hm hvs;simp only [aF,au]at HO HB0 ⊢
 go_enter Tryz.func80,Tryz.ntmps80
 go_wp2_with fail
 refine Calls.mono HO.out ?_;rintro e w1 ⟨raw',rfl,hq⟩;obtain⟨pv',cv',hraw⟩:=hq.2.1.form;simp only at hraw;subst hraw;have hb1:=hq.1;have B1:=ae hb1 HB0.out.2.1;have R1:=ae hb1 HB0.out.2.2;have hz1:=aw R1;have hst0:=fE (i:=2) (vs:=#[U vk,J vn,.string vstr,.slice pv' vl.length cv',J vr]) B1 rfl (by simp) (by simp [go_sem])
 obtain⟨w2,hst,HX⟩:∃ w2,(bZ (R_ w.heap.size 2) (.agg (V_ vk vn vstr (.slice pv' vl.length cv') vr))).run Tryz.prog w1=.ok .skip w2 /\
  Hid (Bl w w2/\w2.heap[w.heap.size]? = some (.cells (X_ k h vk vn vstr (.slice pv' vl.length cv') vr (.slice ps vs.length cs) n l tg bi s fu) 46 (0,0)) /\
  (∃ Z,w2.heap[w.heap.size+1]? = some (.cells Z 46 (0,0))/\Z.size=16)/\SlT w2 (fun b=>w.heap.size+2≤b/\b<w2.heap.size) (.slice pv' vl.length cv') vl/\(vl = []->Value.slice pv' vl.length cv'=.slice none 0 0)):=by
  refine⟨_,hst0,Below.setRow (HB0.out.1.trans (hb1.mono HB0.out.1.size)) aH _,ah B1,⟨_,(aj _ _ _ _ (by omega)).trans R1,rfl⟩,?_,hq.2.2⟩;have h1:SlT w1 (fun b=>w.heap.size+2≤b/\b<w1.heap.size) (.slice pv' vl.length cv') vl:=hq.2.1.monoLt fun b hb h2=>⟨by simp at hb;omega,h2⟩;exact h1.of_blocks (Lists.of fun b hb=>aj _ _ _ _ (by omega)) (fun b hb=>⟨hb.1,by simpa [World.setRow]using hb.2⟩)
 have c7:w2.cell? ⟨w.heap.size,7,none⟩=some (.slice ps vs.length cs):=by rw [ag HX.out.2.1];rfl
 clear hst0 hq hb1 B1 R1 hz1 HO HB0
 go_wp2_with fail
 refine(oT vs (.slice ps vs.length cs) (HS2.out.on HX.out.1) Hl.out.1).mono ?_;rintro e w3 ⟨u,rfl,hcl,hb3,hnil3⟩
 obtain⟨pu,cu,N,hu,hcap,HU⟩:∃ pu cu N,u=.slice pu vs.length cu/\(vs.length≤cu/\(pu=none->cu=0))/\Hid (∀ w4,Keeps (fun b=>b=w.heap.size) w3 w4->w4.heap[w.heap.size]? = some (.cells (X_ k h vk vn vstr (.slice pv' vl.length cv') vr u n l tg bi s fu) 46 (0,0)) ->
  zb w (fun b=>F b/\b<w.heap.size) (X_ k h vk vn vstr (.slice pv' vl.length cv') vr u n l tg bi s fu) pu N (.slice pv' vl.length cv') vl vs 0 w4):=by
  obtain⟨h1,h2,⟨Z,h3,h3'⟩,h4,-⟩:=HX.out;have hz2:=aw h3
  have base:∀ w4,Keeps (fun b=>b=w.heap.size) w3 w4->Bl w w4/\(∃ Z,w4.heap[w.heap.size+1]? = some (.cells Z 46 (0,0))/\Z.size=16)/\SlT w4 (fun b=>w.heap.size+2≤b/\b<w2.heap.size) (.slice pv' vl.length cv') vl:=fun w4 hk=>by
   refine⟨(h1.trans (hb3.mono h1.size)).trans (hk.below (by have:=hb3.size;omega) (fun b e=>by omega)),⟨Z,(hk.block _ (by have:=hb3.size;omega) (by omega)).trans (ae hb3 h3),h3'⟩,?_⟩;refine(h4.on hb3).of_blocks (Lists.of fun b hb=>hk.block b (by have:=hb3.size;have:=hb.2;omega) (by omega)) (fun _ h=>h)
  rcases hcl with ⟨rfl,rfl⟩ | ⟨g,cap,cur,raw,rfl,h5,h6,h7,h8,h9⟩
  ·exact⟨none,0,w2.heap.size,rfl,⟨aH,fun _=>rfl⟩,fun w4 hk hB=>⟨(base w4 hk).1,hB,(base w4 hk).2.1,(base w4 hk).2.2,.inl ⟨rfl,rfl⟩⟩⟩
  ·refine⟨some ⟨g,0,none⟩,cap,w2.heap.size,rfl,⟨h8,fun e=>by cases e⟩,fun w4 hk hB=>⟨(base w4 hk).1,hB,(base w4 hk).2.1,(base w4 hk).2.2,.inr ⟨g,rfl,h5,(base w4 hk).1,hB,(base w4 hk).2.1,by omega,cap,cur,raw,(hk.block g (aw h6) (by omega)).trans h6,h7,h8,fun j v hv=>⟨(h9 j v hv).1,?_⟩⟩⟩⟩;rw [if_neg (Nat.not_lt_zero _)];exact(h9 j v hv).2.of_blocks (fun b hb=>hk.block b (by have:=hb.2;have:=hb3.size;omega) (by have:=hb.2;omega)) (fun _ h=>h)
 subst hu;have B3:=ae hb3 HX.out.2.1;have f7:=av B3 7;have c7:w3.cell? ⟨w.heap.size,7,none⟩=some (.slice ps vs.length cs):=by rw [ag B3];rfl
 have HU4:Hid (zb w (fun b=>F b/\b<w.heap.size) (X_ k h vk vn vstr (.slice pv' vl.length cv') vr (.slice pu vs.length cu) n l tg bi s fu) pu N (.slice pv' vl.length cv') vl vs 0 (w3.setCell ⟨w.heap.size,7,none⟩ (.slice pu vs.length cu))) :=
  HU.out _ (Keeps.setCell w3 ⟨w.heap.size,7,none⟩ _ rfl) (by rw [aA B3];rfl)
 have HN:Hid ((vl = []->Value.slice pv' vl.length cv'=.slice none 0 0)/\(Value.slice ps vs.length cs=.slice none 0 0->Value.slice pu vs.length cu=.slice none 0 0)/\vs.length≤cu/\(pu=none->cu=0)):=⟨HX.out.2.2.2.2,hnil3,hcap⟩;clear hb3 hcl hnil3 HU HX B3 HS2 hst hcap
 go_wp2_with fail
 revert HU4;generalize World.setCell _ _ _=w4;intro HU4;clear c7 f7
 go_loopw [18] (fun vi wr=>∃ i:Nat,vi=J i/\i≤vs.length/\Hid (zb w (fun b=>F b/\b<w.heap.size) (X_ k h vk vn vstr (.slice pv' vl.length cv') vr (.slice pu vs.length cu) n l tg bi s fu) pu N (.slice pv' vl.length cv') vl vs i wr)) (fun vi _=>vs.length - (intOf vi).toNat)
 case atStart=>exact⟨0,rfl,Nat.zero_le _,HU4⟩
 case round =>
  clear HU4;obtain⟨i,rfl,hi,HL⟩:=hrel
  by_cases hil:i<vs.length
  ·have hiz:(i:Int)<(vs.length:Int):=by omega
   have hi1:i<1024:=by have:=Hl.out.1;omega
   obtain⟨x,hx⟩:∃ x,vs[i]? = some x:=⟨_,List.getElem?_eq_getElem hil⟩
   obtain⟨g,rfl,hNg,hO⟩:∃ g,pu=some ⟨g,0,none⟩/\N≤g/\OwL w (fun b=>F b/\b<w.heap.size) (X_ k h vk vn vstr (.slice pv' vl.length cv') vr (.slice pu vs.length cu) n l tg bi s fu) vs g i wr:=by
    rcases HL.out.2.2.2.2 with ⟨-,h0⟩ | h
    ·rw [h0]at hil;simp at hil
    ·exact h
   obtain⟨pa2,c2,hld0,hsx⟩:=hO.load hx;have hmx:=Hl.out.2 x (List.mem_of_getElem? hx);obtain⟨xk,xn,xs,xl,xr⟩:=x;have hld:(bp (R_ g (i * 5))).run Tryz.prog wr=.ok (.value (.agg (V_ xk xn xs (.slice pa2 xl.length c2) xr))) wr:=hld0;have hld':(bp (R_ g (0+i * 5))).run Tryz.prog wr=.ok (.value (.agg (V_ xk xn xs (.slice pa2 xl.length c2) xr))) wr:=by rw [Nat.zero_add];exact hld0
   have HX:Hid (vs[i]? = some ⟨xk,xn,xs,xl,xr⟩/\ay ⟨xk,xn,xs,xl,xr⟩=true/\N≤g):=⟨hx,hmx,hNg⟩;have HSX:Hid (SlAt wr (fun b=>F b/\b<w.heap.size) (.slice pa2 xl.length c2) xl):=hsx;clear hld0 hx hmx hsx hNg hO
   go_upto_region 6 with fail
   have HB8:Hid (Bl wr (wr.alloc (.cells (V_ xk xn xs (.slice pa2 xl.length c2) xr) 27))):=br.alloc aH _;have HG8:Hid ((wr.alloc (.cells (V_ xk xn xs (.slice pa2 xl.length c2) xr) 27)).heap[wr.heap.size]? = some (.cells (V_ xk xn xs (.slice pa2 xl.length c2) xr) 27 (0,0))):=ai _ _;clear hld hld';revert HB8 HG8;generalize wr.alloc _=wa;intro HB8 HG8
   have HLa:Hid (zb w (fun b=>F b/\b<w.heap.size) (X_ k h vk vn vstr (.slice pv' vl.length cv') vr (.slice (some ⟨g,0,none⟩) vs.length cu) n l tg bi s fu) (some ⟨g,0,none⟩) N (.slice pv' vl.length cv') vl vs i wa):=by
    obtain⟨h1,h2,⟨Z,h3,h3'⟩,h4,h5⟩:=HL.out;refine⟨h1.trans (HB8.out.mono h1.size),ae HB8.out h2,⟨Z,ae HB8.out h3,h3'⟩,h4.on HB8.out,?_⟩
    rcases h5 with h5 | ⟨g',h5,h6,h7⟩
    ·exact .inl h5
    ·exact .inr ⟨g',h5,h6,h7.below HB8.out⟩
   have HSa:Hid (SlAt wa (fun b=>F b/\b<w.heap.size) (.slice pa2 xl.length c2) xl):=HSX.out.on HB8.out
   have Hgl:Hid (g<wa.heap.size):=by
    rcases HLa.out.2.2.2.2 with ⟨h,-⟩ | ⟨g',h,-,-,-,-,-,cap,cur,raw,h5,-⟩
    ·cases h
    ·cases h
     exact aw h5
   clear HL HSX;refine aR 6 (by kernel_rfl) rfl (by kernel_rfl) (by kernel_rfl) (fun a b=>Bl a b) (OPhi w.heap.size g vs.length cu i wa.heap.size ⟨xk,xn,xs,xl,xr⟩ (.slice pa2 xl.length c2)) (fun w'=>Bl wa w') (fun j v w w'=>OPhi.stab j v w w') below_drew (fun a b h hR=>h.trans (hR.mono h.size)) ?_ ?_ ?_
   ·exact fun _ _ _ _ h1 h2=>bC (by kernel_rfl) h1 h2
   ·intro j q a w7 hq hC hG;have hj:j<6:=ji hq
    match j,hj with
    | 0,_=>cases hq;have h1':a.tmps[1]?.getD undef=P_ w.heap.size:=gq (hG.fr 1 (by simp));unfold Oper.wp;simp [go_sem,Act.eval,h1'];exact⟨_,rfl,br,rfl⟩
    | 1,_ =>
      cases hq;have h1:a.tmps.getD 23 undef=R_ w.heap.size 7:=gd hG 0 rfl;have h1':a.tmps[23]?.getD undef=R_ w.heap.size 7:=by rw [<- h1];simp [Array.getD_eq_getD_getElem?]
      have c7:w7.cell? ⟨w.heap.size,7,none⟩=some (.slice (some ⟨g,0,none⟩) vs.length cu):=by rw [ag (ae hC HLa.out.2.1)];rfl
      unfold Oper.wp;simp [go_sem,Act.eval,h1',c7];exact⟨_,rfl,br,rfl⟩
    | 2,_ =>
      cases hq;have h3:a.tmps.getD 3 undef=J i:=hG.fr 3 (by simp);exact aT (J i) (by rw [<- h3];rfl) br rfl
    | 3,_ =>
      cases hq;have h4:a.tmps.getD 4 undef=P_ wr.heap.size:=hG.fr 4 (by simp);refine aT (.agg (au ⟨xk,xn,xs,xl,xr⟩ (.slice pa2 xl.length c2))) ?_ br rfl;rw [ko];show (bp (a.tmps.getD 4 undef)).run _ _=_;rw [h4];exact aI (ae hC HG8.out) rfl
    | 4,_ =>
      cases hq;have h26:a.tmps.getD 26 undef=.agg (au ⟨xk,xn,xs,xl,xr⟩ (.slice pa2 xl.length c2)):=gd hG 3 rfl;unfold Oper.wp;simp [go_sem,callFunc,Act.eval,Tryz.func170,h26];refine(uj (v:=⟨xk,xn,xs,xl,xr⟩) (HSa.out.on hC) HX.out.2.1).mono ?_;rintro e w8 ⟨raw',rfl,hq8⟩;exact⟨_,rfl,hq8.1,raw',rfl,hq8.2.1.mono fun b hb=>by have:=hC.size;omega⟩
    | 5,_ =>
      cases hq;have h24:a.tmps.getD 24 undef=.slice (some ⟨g,0,none⟩) vs.length cu:=gd hG 1 rfl;have h25:a.tmps.getD 25 undef=J i:=gd hG 2 rfl;have h24':a.tmps[24]?.getD undef=.slice (some ⟨g,0,none⟩) vs.length cu:=gq h24;have h25':a.tmps[25]?.getD undef=J i:=gq h25;unfold Oper.wp;simp [go_sem,Act.eval,h24',h25',hil];exact⟨_,rfl,br,rfl⟩
   ·intro a w7 hC hdf hsz hfr hphi;obtain⟨raw5,h27,hs7⟩:=hphi 4 _ rfl;have h27:a.tmps.getD 27 undef=.agg (au ⟨xk,xn,xs,xl,xr⟩ raw5):=h27;have h23:a.tmps.getD 23 undef=R_ w.heap.size 7:=hphi 0 _ rfl;have h24:a.tmps.getD 24 undef=.slice (some ⟨g,0,none⟩) vs.length cu:=hphi 1 _ rfl;have h25:a.tmps.getD 25 undef=J i:=hphi 2 _ rfl;have h26:a.tmps.getD 26 undef=.agg (au ⟨xk,xn,xs,xl,xr⟩ (.slice pa2 xl.length c2)):=hphi 3 _ rfl;have h28:a.tmps.getD 28 undef=R_ g (i * 5):=hphi 5 _ rfl;have ha:=bq hdf hsz hfr;simp only [List.take_succ_cons,List.take_zero,List.filterMap_cons,List.filterMap_nil,List.foldl_cons,List.foldl_nil,List.setIfInBounds_toArray,List.set_cons_zero,List.set_cons_succ,h23,h24,h25,h26,h27,h28]at ha;clear hdf hsz hfr hphi h23 h24 h25 h26 h27 h28;subst ha;obtain⟨h1,h2,h3,h4,h5⟩:=HLa.out
    obtain⟨hNg,hO⟩:N≤g/\OwL w (fun b=>F b/\b<w.heap.size) (X_ k h vk vn vstr (.slice pv' vl.length cv') vr (.slice (some ⟨g,0,none⟩) vs.length cu) n l tg bi s fu) vs g i w7:=by
     rcases h5 with ⟨h,-⟩ | ⟨g',h,h6,h7⟩
     ·cases h
     ·cases h
      exact⟨h6,h7.below hC⟩
    obtain⟨w8,hst,hO8,hk8⟩:=hO.next (fun b hb=>hb.2) HX.out.1 (hs7.mono fun b hb=>by have:=Hgl.out;have:=h1.size;have:=aw h2;obtain⟨Z,h9,-⟩:=h3;have:=aw h9;have:wa.heap.size≤b:=hb;omega)
    have HL8:Hid (zb w (fun b=>F b/\b<w.heap.size) (X_ k h vk vn vstr (.slice pv' vl.length cv') vr (.slice (some ⟨g,0,none⟩) vs.length cu) n l tg bi s fu) (some ⟨g,0,none⟩) N (.slice pv' vl.length cv') vl vs (i+1) w8):=by
     refine⟨hO8.1,hO8.2.1,hO8.2.2.1,?_,.inr ⟨g,rfl,hNg,hO8⟩⟩;exact(h4.on hC).of_blocks (Lists.of fun b hb=>hk8.block b (by have:=Hgl.out;have:=hC.size;have:=hb.2;omega) (by have:=hb.2;omega)) (fun _ h=>h)
    refine⟨rfl,?_⟩;unfold Oper.wp;rw [ki];simp [go_sem,Act.eval,hst];clear hst hk8 hO8 hO hs7 hC h1 h2 h3 h4 h5 HLa HSa Hgl HB8 HG8;refine ‹∀ (a:Act) (w:World),Code.wp Tryz.prog _ _ a w->_› _ _ ?_
    go_wp2_with fail
    go_roundw
    case rel=>exact⟨i+1,by go_num,by omega,HL8⟩
    case measure =>
     simp [intOf];omega
  ·have hiz:¬ (i:Int)<(vs.length:Int):=by omega
   obtain rfl:i=vs.length:=by omega
   obtain⟨h1,h2,⟨Z,h3,h3'⟩,h4,h5⟩:=HL.out;have a14:wr.cell? ⟨w.heap.size,14,none⟩=some (.slice none 0 0):=by rw [ag h2];rfl
   have a15:wr.cell? ⟨w.heap.size,15,none⟩=some (.slice none 0 0):=by rw [ag h2];rfl
   have f14:=av h2 14;have f15:=av h2 15;have q14:wr.setCell ⟨w.heap.size,14,none⟩ (S_)=wr:=bv h2 rfl;have q15:wr.setCell ⟨w.heap.size,15,none⟩ (S_)=wr:=bv h2 rfl;have hld:=aD h2 rfl;have hst:=aS (c':=#[U k,J h,U vk,J vn,.string vstr,.slice pv' vl.length cv',J vr,.slice pu vs.length cu,J n,J l,J tg,J bi,U s,.bool fu,S_,S_]) h3 h3' rfl (by simp [go_sem]);have G3:Hid _:=ah (c':=#[U k,J h,U vk,J vn,.string vstr,.slice pv' vl.length cv',J vr,.slice pu vs.length cu,J n,J l,J tg,J bi,U s,.bool fu,S_,S_]) h3
   have HF:Hid (Bl w (wr.setRow (w.heap.size+1) (X_ k h vk vn vstr (.slice pv' vl.length cv') vr (.slice pu vs.length cu) n l tg bi s fu))/\Deep (wr.setRow (w.heap.size+1) (X_ k h vk vn vstr (.slice pv' vl.length cv') vr (.slice pu vs.length cu) n l tg bi s fu)) (fun b=>w.heap.size≤b) ⟨k,h,⟨vk,vn,vstr,vl,vr⟩,.slice pv' vl.length cv',vs,.slice pu vs.length cu,n,l,tg,bi,s,fu,S_,S_⟩):=by
    refine⟨Below.setRow h1 (Nat.le_succ _) _,h4.of_blocks (Lists.of fun b hb=>aj _ _ _ _ (by omega)) (fun b hb=>by omega),?_,rfl,rfl⟩
    have h6:SlT wr (fun b=>w.heap.size+2≤b) (.slice pu vs.length cu) vs:=by
     rcases h5 with ⟨rfl,rfl⟩ | ⟨g,rfl,-,h6⟩
     ·exact SlT.nil _ _ _ _ HN.out.2.2.2
     ·exact h6.done cu HN.out.2.2.1
    exact h6.of_blocks (Lists.of fun b hb=>aj _ _ _ _ (by have:w.heap.size+2≤b:=hb;omega)) (fun b hb=>by have:w.heap.size+2≤b:=hb;show w.heap.size≤b;omega)
   clear h1 h2 h3 h3' h4 h5 HL
   go_wp2_with fail
   refine(ig _).mono ?_;rintro e _ ⟨rfl,rfl⟩
   go_wp2_with fail
   refine wp_loop_rounds 1 ?_;rw [rounds_succ]
   go_wp2_with fail
   refine(kF _).mono ?_;rintro e _ ⟨rfl,rfl⟩
   go_wp2_with fail
   refine bodyPost_ret (bz rfl _ _ _ _ _ rfl G3.out rfl) rfl ⟨_,_,rfl,HF.out.1,HF.out.2,HN.out.1,HN.out.2.1,_,_,_,rfl,HN.out.2.2⟩
end
end Go.Proofs.YthaliljaglldjaaGreat
