/- Part of the proof. -/
import Derived.Test.YthaliljaglldjaaGreatmAD
import Derived.Deep.OwnRows
set_option linter.unusedSimpArgs false
namespace Go.Proofs.YthaliljaglldjaaGreat
set_option maxHeartbeats 16000000
set_option maxRecDepth 20000
section
theorem fp {l:List (Int × Th)} {r:Int} {t:Th} (h:l.lookup r=some t):(r,t) ∈ l:=by
 induction l with
 | nil=>cases h
 | cons x l ih =>
   obtain⟨a,b⟩:=x;rw [List.lookup_cons]at h
   by_cases e:r==a
   ·rw [e]at h
    cases h
    have:r=a:=by simpa using e
    subst this;simp
   ·rw [show (r==a)=false by simpa using e]at h;exact List.mem_cons_of_mem _ (ih h)
theorem kn {l:List (Int × Th)} (hs:l.Pairwise (fun x y=>x.1<y.1)) {r:Int} {t:Th} (h:(r,t) ∈ l):l.lookup r=some t:=by
 induction l with
 | nil=>cases h
 | cons x l ih =>
   obtain⟨a,b⟩:=x;obtain⟨h1,h2⟩:=List.pairwise_cons.1 hs;rw [List.lookup_cons]
   rcases List.mem_cons.1 h with e | e
   ·cases e
    simp
   ·have:=h1 _ e;have e2:(r==a)=false:=by simp;simp only at this;omega
    rw [e2];exact ih h2 e
theorem cK {M:WM} {r:Int} {t:Th} (h:M.at r=some t):(r,t) ∈ M.things:=fp h
theorem WM.ok.at_of_mem {M:WM} (h:M.ok) {r:Int} {t:Th} (hm:(r,t) ∈ M.things):M.at r=some t:=kn h.keys hm
theorem WM.ok.at_range {M:WM} (h:M.ok) {r:Int} {t:Th} (hm:M.at r=some t):0<r/\r≤M.last:=h.range _ (cK hm)
theorem WM.ok.at_wf {M:WM} (h:M.ok) {r:Int} {t:Th} (hm:M.at r=some t):(Lit.int .i64 r).wf=true:=by
 have:=h.at_range hm;have:=h.last;exact WalkArith.wf_i64 (by omega)
theorem WM.ok.none_above {M:WM} (h:M.ok) {r:Int} (hr:M.last<r):M.at r=none:=by
 cases hm:M.at r with
 | none=>rfl
 | some t=>have:=h.at_range hm;omega
def WM.add (M:WM) (t:Th):WM :=
 { M with things:=M.things ++ [(M.last+1,t)],last:=M.last+1,made:=if t.kind=14 then M.made else M.made.set t.home.toNat (M.made.getD t.home.toNat 0+1) }
theorem dq (l:List (Int × Th)) (k:Int) (t:Th) (r:Int):(l ++ [(k,t)]).lookup r=(l.lookup r).or (if r=k then some t else none):=by
 induction l with
 | nil =>
   by_cases e:r=k
   ·subst e;simp
   ·simp [e,List.lookup_cons,show (r==k)=false by simpa using e]
 | cons x l ih =>
   obtain⟨a,b⟩:=x;rw [List.cons_append,List.lookup_cons,List.lookup_cons]
   by_cases e:r==a
   ·rw [e];rfl
   ·rw [show (r==a)=false by simpa using e];exact ih
theorem WM.add_at {M:WM} (h:M.ok) (t:Th) (r:Int):(M.add t).at r=if r=M.last+1 then some t else M.at r:=by
 show (M.things ++ [(M.last+1,t)]).lookup r=_;rw [dq]
 by_cases e:r=M.last+1
 ·subst e;have:=h.none_above (r:=M.last+1) (by omega);have e1:M.things.lookup (M.last+1)=none:=this;rw [e1];simp
 ·simp [e,WM.at]
theorem WM.add_at_old {M:WM} (h:M.ok) (t:Th) {r:Int} {u:Th} (hr:M.at r=some u):(M.add t).at r=some u:=by
 rw [WM.add_at h,if_neg (by have:=h.at_range hr;omega),hr]
theorem WM.add_at_new {M:WM} (h:M.ok) (t:Th):(M.add t).at (M.last+1)=some t:=by rw [WM.add_at h,if_pos rfl]
theorem iF {l:List (Int × Th)} {k:Int} {t:Th} {a b:Int} (hk:t.kind≠14):((l ++ [(k,t)]).find? (fun x=>x.2.kind==14 && x.2.tgt==a && x.2.set==b))=l.find? (fun x=>x.2.kind==14 && x.2.tgt==a && x.2.set==b):=by
 rw [List.find?_append]
 have:([(k,t)]:List (Int × Th)).find? (fun x=>x.2.kind==14 && x.2.tgt==a && x.2.set==b)=none:=by
  simp [hk]
 rw [this];simp
theorem WM.add_find_not {M:WM} {t:Th} (hk:t.kind≠14) (a b:Int):(M.add t).find a b=M.find a b:=by
 show ((M.things ++ [(M.last+1,t)]).find? _).map _=_;rw [iF hk];rfl
theorem WM.add_find_facet {M:WM} {t:Th} (hk:t.kind=14) (hn:M.find t.tgt t.set=none) (a b:Int):(M.add t).find a b=if a=t.tgt/\b=t.set then some (M.last+1)else M.find a b:=by
 show ((M.things ++ [(M.last+1,t)]).find? _).map _=_;rw [List.find?_append]
 by_cases e:a=t.tgt/\b=t.set
 ·obtain⟨rfl,rfl⟩:=e
  have h1:M.things.find? (fun x=>x.2.kind==14 && x.2.tgt==t.tgt && x.2.set==t.set)=none:=by
   simpa [WM.find]using hn
  rw [h1];simp [hk]
 ·rw [if_neg e]
  have:([(M.last+1,t)]:List (Int × Th)).find? (fun x=>x.2.kind==14 && x.2.tgt==a && x.2.set==b)=none:=by
   have:(t.tgt==a && t.set==b)=false:=by
    cases h1:t.tgt==a <;> cases h2:t.set==b <;> simp_all
   simp [hk,this]
  rw [this];simp [WM.find]
theorem WM.find_none {M:WM} {a b:Int} (hf:M.find a b=none) {r:Int} {t:Th} (ht:M.at r=some t) (hk:t.kind=14) (h1:t.tgt=a) (h2:t.set=b):False:=by
 have:M.things.find? (fun x=>x.2.kind==14 && x.2.tgt==a && x.2.set==b)=none:=by simpa [WM.find]using hf
 have:=List.find?_eq_none.1 this _ (cK ht);simp [hk,h1,h2]at this
structure AddOk (M:WM) (t:Th):Prop where
 wf:t.wf
 last:M.last+1≤1099511627776
 home:t.kind≠14->0≤t.home/\t.home<M.made.length
 made:t.kind≠14->M.made.getD t.home.toNat 0<512
 wrap:cC t.kind=true->∃ u,M.at t.tgt=some u
 gate:t.kind=15->∃ u,M.at t.bi=some u/\u.kind=13
 purse:t.kind=9->∃ u,M.at t.tgt=some u/\u.kind=8
 facet:t.kind=14->M.find t.tgt t.set=none
theorem WM.add_ok {M:WM} (h:M.ok) {t:Th} (a:AddOk M t):(M.add t).ok where
 sides:=h.sides
 cuts:=h.cuts
 made:=by
  show (if t.kind=14 then M.made else _).length=_
  split
  ·exact h.made
  ·rw [List.length_set];exact h.made
 tree:=h.tree
 keys:=by
  show (M.things ++ [(M.last+1,t)]).Pairwise _;rw [List.pairwise_append];refine⟨h.keys,by simp,fun x hx y hy=>?_⟩;simp at hy;subst hy;have:=h.range x hx;simp only;omega
 range x hx:=by
  rcases List.mem_append.1 hx with hx | hx
  ·have:=h.range x hx;show _/\_≤M.last+1;omega
  ·simp at hx;subst hx;have:=h.last;show 0<M.last+1/\M.last+1≤M.last+1;omega
 last:=by
  have:=h.last;have:=a.last;show 0≤M.last+1/\M.last+1≤_;omega
 mades i x hx:=by
  change (if t.kind=14 then M.made else _)[i]? = some x at hx
  split at hx
  ·exact h.mades i x hx
  ·rename_i hk
   rw [List.getElem?_set]at hx;split at hx
   ·split at hx
    ·cases hx
     have h1:=a.made hk;have:M.made[t.home.toNat]? = some (M.made.getD t.home.toNat 0):=by rw [List.getD_eq_getElem?_getD,List.getElem?_eq_getElem (by omega)];rfl
     have:=h.mades _ _ this;omega
    ·cases hx
   ·exact h.mades i x hx
 wf r u hu:=by
  rw [WM.add_at h]at hu;split at hu
  ·cases hu;exact a.wf
  ·exact h.wf r u hu
 homes r u hu hk:=by
  have hl:(M.add t).made.length=M.made.length:=by
   show (if t.kind=14 then M.made else _).length=_
   split
   ·rfl
   ·rw [List.length_set]
  rw [hl];rw [WM.add_at h]at hu;split at hu
  ·cases hu;exact a.home hk
  ·exact h.homes r u hu hk
 wrap:=by
  obtain⟨rk,h0,h1⟩:=h.wrap;have hl:=h.last;refine⟨fun r=>if r=M.last+1 then rk t.tgt+1 else rk r,fun r=>?_,fun r u hu hw=>?_⟩
  ·have e1:=h0 t.tgt;have e2:=h0 r;show (if r=M.last+1 then rk t.tgt+1 else rk r)≤(M.last+1).toNat
   split <;> omega
  ·rw [WM.add_at h]at hu;split at hu
   ·rename_i e
    cases hu
    obtain⟨u,hu⟩:=a.wrap hw;have:=h.at_range hu;refine⟨⟨u,WM.add_at_old h _ hu⟩,?_⟩;show (if t.tgt=M.last+1 then rk t.tgt+1 else rk t.tgt)<if r=M.last+1 then rk t.tgt+1 else rk r
    rw [if_neg (by omega),if_pos e];omega
   ·rename_i e
    obtain⟨⟨v,hv⟩,h3⟩:=h1 r u hu hw;have:=h.at_range hv;refine⟨⟨v,WM.add_at_old h _ hv⟩,?_⟩;show (if u.tgt=M.last+1 then rk t.tgt+1 else rk u.tgt)<if r=M.last+1 then rk t.tgt+1 else rk r
    rw [if_neg (by omega),if_neg e];exact h3
 gate r u hu hk:=by
  rw [WM.add_at h]at hu;split at hu
  ·cases hu
   obtain⟨v,h1,h2⟩:=a.gate hk;exact⟨v,WM.add_at_old h _ h1,h2⟩
  ·obtain⟨v,h1,h2⟩:=h.gate r u hu hk;exact⟨v,WM.add_at_old h _ h1,h2⟩
 purse r u hu hk:=by
  rw [WM.add_at h]at hu;split at hu
  ·cases hu
   obtain⟨v,h1,h2⟩:=a.purse hk;exact⟨v,WM.add_at_old h _ h1,h2⟩
  ·obtain⟨v,h1,h2⟩:=h.purse r u hu hk;exact⟨v,WM.add_at_old h _ h1,h2⟩
 facet r u r' u' hu hu' k k' e1 e2:=by
  rw [WM.add_at h]at hu hu';split at hu <;> split at hu'
  ·omega
  ·cases hu
   exact(WM.find_none (a.facet k) hu' k' e1.symm e2.symm).elim
  ·cases hu'
   exact(WM.find_none (a.facet k') hu k e1 e2).elim
  ·exact h.facet r u r' u' hu hu' k k' e1 e2
end
end Go.Proofs.YthaliljaglldjaaGreat
namespace Go.Proofs.YthaliljaglldjaaGreat
set_option maxHeartbeats 16000000
set_option maxRecDepth 20000
open Go.RowKit Go.ChangeMaps Go.MapKept
section
def dH (xs:List Int):Prop:=xs.length<16/\∀ (i:Nat) (p:Int),xs[i]? = some p->0≤p/\p≤i
def WM.new (xs:List Int):WM:=⟨xs,List.replicate (xs.length+1) false,[],0,List.replicate (xs.length+1) 0⟩
theorem WM.new_ok {xs:List Int} (h:dH xs):(WM.new xs).ok where
 sides:=h.1
 cuts:=by simp [WM.new]
 made:=by simp [WM.new]
 tree:=h.2
 keys:=by simp [WM.new]
 range:=by simp [WM.new]
 last:=by simp [WM.new]
 mades:=fun i x hx=>by
  simp only [WM.new,List.getElem?_replicate]at hx;split at hx
  ·cases hx;omega
  ·cases hx
 wf:=fun r t ht=>by simp [WM.new,WM.at]at ht
 homes:=fun r t ht=>by simp [WM.new,WM.at]at ht
 wrap:=⟨fun _=>0,fun _=>by simp,fun r t ht=>by simp [WM.new,WM.at]at ht⟩
 gate:=fun r t ht=>by simp [WM.new,WM.at]at ht
 purse:=fun r t ht=>by simp [WM.new,WM.at]at ht
 facet:=fun r t r' t' ht=>by simp [WM.new,WM.at]at ht
theorem oo:(Tryz.prog.info? 4).map (fun i=>(i.zero,i.size,i.bytes))=some (some (.bool false),1,1):=by kernel_rfl
theorem iM:(Tryz.prog.info? 3).map (fun i=>(i.zero,i.size,i.bytes))=some (some (.int .i64 0),1,8):=by kernel_rfl
theorem oE {w:World} {e:TypeId} {z:Value} {n:Nat} (hn:n≤16):Row (w.alloc (.cells (madeCells #[z] n) e)) w.heap.size e n (List.replicate n z) :=
 ⟨madeCells #[z] n,ai _ _,by simp [madeCells],by simp,by unfold maxLen;omega,fun j x hx=>by
  rw [List.getElem?_replicate]at hx;split at hx
  ·cases hx
   rename_i h
   simp [madeCells,h,Nat.mod_one]
  ·cases hx⟩
def jY {α:Type} (f:Nat->α) (i:Nat) (x:α) (j:Nat):α:=if j=i then x else f j
def NSides (w0:World) (xs:List Int) (v:Value) (w:World):Prop :=
 ∃ pa pc,v=.slice pa xs.length pc/\∀ (j:Nat) (x:Int),xs[j]? = some x->∃ b o,pa=some ⟨b,o,none⟩/\w0.heap.size≤b/\b<w.heap.size/\(∃ cs fr,w.heap[b]? = some (.cells cs 35 fr))/\w.cell? ⟨b,o+j,none⟩=some (.int .i64 x)
def NRow (w0:World) (n:Nat) (e:TypeId) (z:Value) (v:Value) (w:World):Prop :=
 ∃ g,v=.slice (some ⟨g,0,none⟩) n n/\w0.heap.size≤g/\g<w.heap.size/\Row w g e n (List.replicate n z)
def NMap (w0:World) (k:TypeId) (v:Value) (w:World):Prop:=∃ b,v=.map (some b)/\w0.heap.size≤b/\HasMap Tryz.prog k w b (fun _=>none) 0
theorem NSides.move {w0:World} {xs:List Int} {v:Value} {w w':World} (h:NSides w0 xs v w) (hb:Bl w w'):NSides w0 xs v w':=by
 obtain⟨pa,pc,h1,h2⟩:=h;refine⟨pa,pc,h1,fun j x hx=>?_⟩;obtain⟨b,o,h3,h4,h5,⟨cs,fr,h6⟩,h7⟩:=h2 j x hx;exact⟨b,o,h3,h4,Nat.lt_of_lt_of_le h5 hb.size,⟨cs,fr,ae hb h6⟩,(hb.cell (p:=⟨b,o+j,none⟩) h5).trans h7⟩
theorem NRow.move {w0:World} {n:Nat} {e:TypeId} {z:Value} {v:Value} {w w':World} (h:NRow w0 n e z v w) (hb:Bl w w'):NRow w0 n e z v w':=by
 obtain⟨g,h1,h2,h3,h4⟩:=h;exact⟨g,h1,h2,Nat.lt_of_lt_of_le h3 hb.size,h4.of_block (hb.block g h3)⟩
theorem NMap.move {w0:World} {k:TypeId} {v:Value} {w w':World} (h:NMap w0 k v w) (hb:Bl w w'):NMap w0 k v w':=by
 obtain⟨b,h1,h2,h3⟩:=h;exact⟨b,h1,h2,h3.of_block (hb.block b h3.lt)⟩
structure NI (w0:World) (v:Value) (xs:List Int) (G:Nat->Bool) (T:Nat->Value) (w:World):Prop where
 b:Bl w0 w
 a0:T 0=v
 a6:T 6=J ((xs.length:Int)+1)
 k0:G 0=true->T 28=v
 k1:G 1=true->NSides w0 xs (T 29) w
 k2:G 2=true->T 30=J ((xs.length:Int)+1)
 k3:G 3=true->NRow w0 (xs.length+1) 4 (.bool false) (T 31) w
 k4:G 4=true->T 32=J ((xs.length:Int)+1)
 k5:G 5=true->NRow w0 (xs.length+1) 3 (J 0) (T 33) w
 k6:G 6=true->NMap w0 25 (T 34) w
 k7:G 7=true->NMap w0 211 (T 35) w
 k67:G 6=true->G 7=true->T 34≠T 35
 o8:G 8=true->G 1=true/\G 3=true/\G 5=true/\G 6=true/\G 7=true
 k8:G 8=true->T 36=.agg #[T 29,T 31,T 34,T 35,J 0,T 33]
 o9:G 9=true->G 8=true
 k9:G 9=true->∃ p,T 37=P_ p/\w0.heap.size≤p/\w.heap[p]? = some (.cells #[T 29,T 31,T 34,T 35,J 0,T 33] 140 (0,0))
 o10:G 10=true->G 9=true
 k10:G 10=true->T 2=T 37
 k11:G 11=true->T 3=J 0
section
variable {w0:World} {v:Value} {xs:List Int} {G:Nat->Bool} {T:Nat->Value} {w:World}
theorem NI.move {w':World} (h:NI w0 v xs G T w) (hb:Bl w w'):NI w0 v xs G T w' where
 b:=h.b.trans (hb.mono h.b.size)
 a0:=h.a0
 a6:=h.a6
 k0:=h.k0
 k1:=fun g=>(h.k1 g).move hb
 k2:=h.k2
 k3:=fun g=>(h.k3 g).move hb
 k4:=h.k4
 k5:=fun g=>(h.k5 g).move hb
 k6:=fun g=>(h.k6 g).move hb
 k7:=fun g=>(h.k7 g).move hb
 k67:=h.k67
 o8:=h.o8
 k8:=h.k8
 o9:=h.o9
 k9:=fun g=>by
  obtain⟨p,h1,h2,h3⟩:=h.k9 g;exact⟨p,h1,h2,ae hb h3⟩
 o10:=h.o10
 k10:=h.k10
 k11:=h.k11
theorem NI.step (h:NI w0 v xs G T w) (i d:Nat) (x:Value) (hi:G i=false)
 (hd:d = [28,29,30,31,32,33,34,35,36,37,2,3].getD i 99) (hlt:i<12)
 (f0:i=0->x=v) (f1:i=1->NSides w0 xs x w) (f2:i=2->x=J ((xs.length:Int)+1)) (f3:i=3->NRow w0 (xs.length+1) 4 (.bool false) x w)
 (f4:i=4->x=J ((xs.length:Int)+1)) (f5:i=5->NRow w0 (xs.length+1) 3 (J 0) x w) (f6:i=6->NMap w0 25 x w/\(G 7=true->x≠T 35))
 (f7:i=7->NMap w0 211 x w/\(G 6=true->T 34≠x)) (f8:i=8->(G 1=true/\G 3=true/\G 5=true/\G 6=true/\G 7=true)/\x=.agg #[T 29,T 31,T 34,T 35,J 0,T 33])
 (f9:i=9->G 8=true/\∃ p,x=P_ p/\w0.heap.size≤p/\w.heap[p]? = some (.cells #[T 29,T 31,T 34,T 35,J 0,T 33] 140 (0,0)))
 (f10:i=10->G 9=true/\x=T 37) (f11:i=11->x=J 0):NI w0 v xs (jY G i true) (jY T d x) w:=by
 have n1:G 8=true->¬ G 1=false:=fun g e=>by have:=(h.o8 g).1;rw [e]at this;cases this
 have n3:G 8=true->¬ G 3=false:=fun g e=>by have:=(h.o8 g).2.1;rw [e]at this;cases this
 have n5:G 8=true->¬ G 5=false:=fun g e=>by have:=(h.o8 g).2.2.1;rw [e]at this;cases this
 have n6:G 8=true->¬ G 6=false:=fun g e=>by have:=(h.o8 g).2.2.2.1;rw [e]at this;cases this
 have n7:G 8=true->¬ G 7=false:=fun g e=>by have:=(h.o8 g).2.2.2.2;rw [e]at this;cases this
 obtain⟨hb,a0,a6,k0,k1,k2,k3,k4,k5,k6,k7,k67,o8,k8,o9,k9,o10,k10,k11⟩:=h
 match i,hlt with
 | 0,_ =>
   have f:=f0 rfl;clear f0 f1 f2 f3 f4 f5 f6 f7 f8 f9 f10 f11;subst hd;constructor <;> first | assumption | (simp only [jY,List.getD_eq_getElem?_getD];intros;simp_all)
 | 1,_ =>
   have f:=f1 rfl;clear f1 f0 f2 f3 f4 f5 f6 f7 f8 f9 f10 f11;subst hd;constructor <;> first | assumption | (simp only [jY,List.getD_eq_getElem?_getD];intros;simp_all)
 | 2,_ =>
   have f:=f2 rfl;clear f2 f0 f1 f3 f4 f5 f6 f7 f8 f9 f10 f11;subst hd;constructor <;> first | assumption | (simp only [jY,List.getD_eq_getElem?_getD];intros;simp_all)
 | 3,_ =>
   have f:=f3 rfl;clear f3 f0 f1 f2 f4 f5 f6 f7 f8 f9 f10 f11;subst hd;constructor <;> first | assumption | (simp only [jY,List.getD_eq_getElem?_getD];intros;simp_all)
 | 4,_ =>
   have f:=f4 rfl;clear f4 f0 f1 f2 f3 f5 f6 f7 f8 f9 f10 f11;subst hd;constructor <;> first | assumption | (simp only [jY,List.getD_eq_getElem?_getD];intros;simp_all)
 | 5,_ =>
   have f:=f5 rfl;clear f5 f0 f1 f2 f3 f4 f6 f7 f8 f9 f10 f11;subst hd;constructor <;> first | assumption | (simp only [jY,List.getD_eq_getElem?_getD];intros;simp_all)
 | 6,_ =>
   have f:=f6 rfl;clear f6 f0 f1 f2 f3 f4 f5 f7 f8 f9 f10 f11;subst hd;constructor <;> first | assumption | (simp only [jY,List.getD_eq_getElem?_getD];intros;simp_all)
 | 7,_ =>
   have f:=f7 rfl;clear f7 f0 f1 f2 f3 f4 f5 f6 f8 f9 f10 f11;subst hd;constructor <;> first | assumption | (simp only [jY,List.getD_eq_getElem?_getD];intros;simp_all)
 | 8,_ =>
   have f:=f8 rfl;clear f8 f0 f1 f2 f3 f4 f5 f6 f7 f9 f10 f11;subst hd;constructor <;> first | assumption | (simp only [jY,List.getD_eq_getElem?_getD];intros;simp_all)
 | 9,_ =>
   have f:=f9 rfl;clear f9 f0 f1 f2 f3 f4 f5 f6 f7 f8 f10 f11;subst hd;constructor <;> first | assumption | (simp only [jY,List.getD_eq_getElem?_getD];intros;simp_all)
 | 10,_ =>
   have f:=f10 rfl;clear f10 f0 f1 f2 f3 f4 f5 f6 f7 f8 f9 f11;subst hd;constructor <;> first | assumption | (simp only [jY,List.getD_eq_getElem?_getD];intros;simp_all)
 | 11,_ =>
   have f:=f11 rfl;clear f11 f0 f1 f2 f3 f4 f5 f6 f7 f8 f9 f10;subst hd;constructor <;> first | assumption | (simp only [jY,List.getD_eq_getElem?_getD];intros;simp_all)
theorem NI.world (h:NI w0 v xs G T w) (ht:dH xs) (hG:∀ i,i<12->G i=true) :
 ∃ p,T 2=P_ p/\T 3=J 0/\IsW w p (WM.new xs) (fun b=>w0.heap.size≤b/\b<w.heap.size):=by
 obtain⟨p,h37,hp0,hp⟩:=h.k9 (hG 9 (by decide));obtain⟨pa,pc,h29,hpar⟩:=h.k1 (hG 1 (by decide));obtain⟨cg,h31,hc0,hc1,hcut⟩:=h.k3 (hG 3 (by decide));obtain⟨mg,h33,hm0,hm1,hmad⟩:=h.k5 (hG 5 (by decide));obtain⟨tb,h34,ht0,hthi⟩:=h.k6 (hG 6 (by decide));obtain⟨fb,h35,hf0,hfac⟩:=h.k7 (hG 7 (by decide));have hne:=h.k67 (hG 6 (by decide)) (hG 7 (by decide));rw [h29,h31,h33,h34,h35]at hp;refine⟨p,(h.k10 (hG 10 (by decide))).trans h37,h.k11 (hG 11 (by decide)),pa,pc,cg,xs.length+1,mg,xs.length+1,tb,fb,0,fun _=>0,?_⟩
 exact {
  hp:=by simpa [WM.new]using hp
  pars:=fun j x hx=>by
   obtain⟨b,o,h1,h2,h3,h4,h5⟩:=hpar j x hx;exact⟨b,o,h1,⟨h2,h3⟩,h4,h5⟩
  cut:=by simpa [WM.new]using hcut
  mad:=by simpa [WM.new]using hmad
  things:=hthi.congr (fun key kl _=>by unfold fB;split <;> simp [WM.new,WM.at])
  facets:=hfac.congr (fun key kl _=>by
   unfold kL;split
   ·split
    ·simp [WM.new,WM.find]
    ·rfl
   ·rfl)
  fnle:=by simp [WM.new]
  blk:=fun r t ht=>by simp [WM.new,WM.at]at ht
  inj:=fun r r' t t' ht=>by simp [WM.new,WM.at]at ht
  own:=⟨⟨hp0,aw hp⟩,⟨hc0,hc1⟩,⟨hm0,hm1⟩,⟨ht0,hthi.lt⟩,⟨hf0,hfac.lt⟩⟩
  tf:=fun e=>hne (by rw [h34,h35,e])
  lt:=fun b hb=>hb.2
  ok:=WM.new_ok ht }
end
end
section
def lU (w:World) (xs:List Int) (e:Ending) (w':World):Prop :=
 (dH xs/\∃ p F,e=.returned (.tuple #[P_ p,J 0])/\IsW w' p (WM.new xs) F/\(∀ b,F b->w.heap.size≤b)/\Bl w w') \/
 (¬ dH xs/\e=.returned (.tuple #[.pointer none,J 71])/\w'=w)
def fT (w:World) (pa:Option Addr) (xs:List Int):Prop :=
 xs = []\/∃ b o,pa=some ⟨b,o,none⟩/\∀ (j:Nat) (x:Int),xs[j]? = some x->w.cell? ⟨b,o+j,none⟩=some (.int .i64 x)
structure NInv (w0:World) (v:Value) (xs:List Int) (L:Array Bool) (a:Act) (w:World):Prop where
 sz:L.size=12
 ts:a.tmps.size=38
 df:a.defers = []
 ni:NI w0 v xs (fun j=>L.getD j false) (fun k=>a.tmps.getD k undef) w
theorem NInv.put {w0:World} {v:Value} {xs:List Int} {L:Array Bool} {a:Act} {w:World} (h:NInv w0 v xs L a w) {w':World} {i d:Nat} {x:Value} (hd:d<38) (hi:i<12)
 (hn:NI w0 v xs (jY (fun j=>L.getD j false) i true) (jY (fun k=>a.tmps.getD k undef) d x) w'):NInv w0 v xs (L.setIfInBounds i true) (a.put (some d) x) w' where
 sz:=by simp [h.sz]
 ts:=by simp [Act.put,h.ts]
 df:=by simpa [Act.put]using h.df
 ni:=by
  have e1:(fun j=>(L.setIfInBounds i true).getD j false)=jY (fun j=>L.getD j false) i true:=by
   funext j
   have:=h.sz
   by_cases hj:j=i
   ·subst hj;simp [jY,Array.getD,this,hi]
   ·have:¬ i=j:=fun e=>hj e.symm;simp only [jY,if_neg hj,Array.getD_eq_getD_getElem?,Array.getElem?_setIfInBounds,if_neg this]
  have e2:(fun k=>(a.put (some d) x).tmps.getD k undef)=jY (fun k=>a.tmps.getD k undef) d x:=by
   funext j
   have:=h.ts
   by_cases hj:j=d
   ·subst hj;simp [jY,Act.put,Array.getD,this,hd]
   ·have:¬ d=j:=fun e=>hj e.symm;simp only [jY,Act.put,if_neg hj,Array.getD_eq_getD_getElem?,Array.getElem?_setIfInBounds,if_neg this]
  rw [e1,e2];exact hn
theorem xp {ops:Array Oper} (h:(ops.toList.zipIdx.all fun x=>x.1.after.all fun e=>decide (e.on<x.2))=true):∀ (i:Nat) (o:Oper),ops[i]? = some o->∀ e ∈ o.after,e.on<i:=by
 intro i o ho e he;rw [List.all_eq_true]at h
 have:=h (o,i) (by
  rw [List.mem_zipIdx_iff_getElem?]
  simpa using ho)
 simp only [Array.all_eq_true_iff_forall_mem]at this
 simpa using this e he
theorem ww {L:Array Bool} {i:Nat} (h:L.getD i true=false):L.getD i false=false:=by
 rw [Array.getD_eq_getD_getElem?]at h ⊢
 cases hx:L[i]? with
 | none=>rfl
 | some b=>rw [hx]at h;exact h
theorem oO {w w':World} (hb:Bl w w') {a:Addr} {v:Value} (h:w.cell? a=some v):w'.cell? a=some v:=by
 have:a.block<w.heap.size:=by
  unfold World.cell? at h
  cases ho:w.heap[a.block]? with
  | none=>simp [ho]at h
  | some o=>exact aw ho
 exact(hb.cell this).trans h
theorem fQ {e t:TypeId} {z:Value} {bytes:Nat} (w:World) (hinfo:(Tryz.prog.info? e).map (fun i=>(i.zero,i.size,i.bytes))=some (some z,1,bytes)) (ht:Tryz.prog.underlying t=some (.slice e)) (hb:bytes≤64)
 {n:Nat} (hn:n≤16) (hz:z.cells=#[z]:=by rfl):(Instr.makeSlice t (J (n:Int)) (J (n:Int))).run Tryz.prog w=.ok (.slice (some ⟨w.heap.size,0,none⟩) n n) (w.alloc (.cells (madeCells #[z] n) e)):=by
 obtain⟨i,hi,hz',h1,h2⟩:=info_parts hinfo
 have:=run_makeSlice (P:=Tryz.prog) w t e i z ht hi hz' .i64 .i64 n n (by omega) (Int.le_refl _) (by rw [h1];omega) (by
  rw [h2];have:bytes * n≤64 * 16:=Nat.mul_le_mul hb hn;have h3:((bytes * n:Nat):Int)≤1024:=by omega
  rw [Int.natCast_mul]at h3
  omega) (by omega)
 rw [h1,hz]at this
 simpa using this
theorem gL {w0 w1 w2:World} {v:Value} {xs:List Int} (hv:w2.ownsRow w1.heap.size 35 1 v xs.length (xs.map (Value.int .i64))) (h:w0.heap.size≤w1.heap.size):NSides w0 xs v w2:=by
 obtain⟨-,⟨rfl,h0⟩ | ⟨g,cap,cur,rfl,h1,h2,h3,h4,h5,h6⟩⟩:=hv
 ·have:xs = []:=List.length_eq_zero_iff.1 h0;subst this;exact⟨none,0,rfl,fun j x hx=>by simp at hx⟩
 ·refine⟨some ⟨g,0,none⟩,cap,rfl,fun j x hx=>⟨g,0,rfl,by omega,aw h2,⟨_,_,h2⟩,?_⟩⟩;rw [ag h2,Nat.zero_add];have hj:=ji hx;have e:(cur.toList.take (xs.length * 1))[j]? = (xs.map (Value.int .i64))[j]?:=by rw [h6]
  rw [List.getElem?_take,if_pos (by omega),List.getElem?_map,hx]at e
  simpa using e
theorem wV (w:World) (pa:Option Addr) (c:Nat) (xs:List Int) (hpa:fT w pa xs):Calls Tryz.prog 12 #[.slice pa xs.length c] w (lU w xs):=by
 have Hpa:Hid (fT w pa xs):=hpa;clear hpa;obtain⟨n,hn⟩:∃ n,n=xs.length:=⟨_,rfl⟩;have Hn:Hid (n=xs.length):=hn;rw [<- hn];clear hn
 by_cases h16:16≤n
 ·have h16':(16:Int)≤(n:Int):=by omega
  go_enter Tryz.func12,Tryz.ntmps12
  go_wp2_with fail
  go_ret2
  exact .inr ⟨fun h=>by have:=h.1;have:=Hn.out;omega,rfl,rfl⟩
 ·have h16':¬ (16:Int)≤(n:Int):=by omega
  go_enter Tryz.func12,Tryz.ntmps12
  go_wp2_with fail
  go_loop [12] (fun vi=>∃ k:Nat,vi=J k/\k≤n/\Hid (∀ (j:Nat) (p:Int),j<k->xs[j]? = some p->0≤p/\p≤j)) (fun vi=>n - (intOf vi).toNat)
  case atStart=>exact⟨0,rfl,Nat.zero_le _,fun j p h=>by omega⟩
  case round =>
   obtain⟨k,rfl,hkn,Hk⟩:=hrel
   by_cases hk:k<n
   ·obtain⟨x,hx⟩:∃ x,xs[k]? = some x:=⟨_,List.getElem?_eq_getElem (by have:=Hn.out;omega)⟩;have Hx:Hid (xs[k]? = some x):=hx
    obtain⟨b,o,rfl,hc⟩:∃ b o,pa=some ⟨b,o,none⟩/\w.cell? ⟨b,o+k,none⟩=some (.int .i64 x):=by
     rcases Hpa.out with rfl | ⟨b,o,h1,h2⟩
     ·simp at hx
     ·exact⟨b,o,h1,h2 k x hx⟩
    clear hx;have hkz:(k:Int)<(n:Int):=by omega
    by_cases hx0:x<0
    ·go_wp2_with fail
     go_ret2
     exact .inr ⟨fun h=>by have h2:=h.2 k x Hx.out;omega,rfl,rfl⟩
    ·by_cases hxk:(k:Int)<x
     ·go_wp2_with fail
      go_ret2
      exact .inr ⟨fun h=>by have h2:=h.2 k x Hx.out;omega,rfl,rfl⟩
     ·go_wp2_with fail
      go_round
      case rel =>
       refine⟨k+1,by go_num,by omega,fun j p hj hp=>?_⟩
       rcases Nat.lt_succ_iff_lt_or_eq.1 hj with h | rfl
       ·exact Hk.out j p h hp
       ·have:=Hx.out;rw [this]at hp
        cases hp
        exact⟨by omega,by omega⟩
      case measure=>simp [intOf];omega
   ·have htree:Hid (dH xs):=⟨by have:=Hn.out;omega,fun i p hp=>Hk.out i p (by
     have:=ji hp;have:=Hn.out
     omega) hp⟩
    clear Hk
    go_wp2_with fail
    refine ck (by kernel_rfl) (NInv w (.slice pa n c) xs) (xp (by kernel_rfl)) ?_ ?_ ?_
    ·refine⟨rfl,rfl,rfl,?_⟩;have hn:=Hn.out;subst hn;constructor <;> first | exact br.drew | rfl | (intro h;cases h)
    ·rintro L a w1 i o hI ho hL hdep;have hi:i<12:=(Array.getElem?_eq_some_iff.1 ho).1;have hG:L.getD i false=false:=ww hL;have hn:=Hn.out
     match i,hi with
     | 0,_ =>
       simp only [List.getElem?_toArray,List.getElem?_cons_zero,Option.some.injEq]at ho;subst ho;simp only [Region.wanted,↓reduceIte];exact hI.put (i:=0) (d:=28) (by decide) (by decide) (NI.step hI.ni 0 28 _ hG rfl (by decide) (fun _=>hI.ni.a0) (fun h=>absurd h (by decide)) (fun h=>absurd h (by decide)) (fun h=>absurd h (by decide)) (fun h=>absurd h (by decide)) (fun h=>absurd h (by decide)) (fun h=>absurd h (by decide)) (fun h=>absurd h (by decide)) (fun h=>absurd h (by decide)) (fun h=>absurd h (by decide)) (fun h=>absurd h (by decide)) (fun h=>absurd h (by decide)))
     | 1,_ =>
       simp only [List.getElem?_toArray,List.getElem?_cons_zero,List.getElem?_cons_succ,Option.some.injEq]at ho;subst ho;simp only [Region.wanted,↓reduceIte];have g0:L.getD 0 false=true:=hdep ⟨0,.data⟩ (by simp) rfl;have h28:a.tmps.getD 28 undef=.slice pa n c:=hI.ni.k0 g0;unfold Oper.wp;simp [go_sem,callFunc,Act.eval,h28,Tryz.func72]
       rcases Hpa.out with rfl | ⟨b,o,rfl,hc⟩
       ·cases pa with
        | none =>
          refine(fh w1 n c).mono ?_;rintro e _ ⟨rfl,rfl⟩;exact hI.put (i:=1) (d:=29) (by decide) (by decide) (NI.step hI.ni 1 29 _ hG rfl (by decide) (fun h=>absurd h (by decide)) (fun _=>⟨none,0,rfl,fun j x hx=>by simp at hx⟩) (fun h=>absurd h (by decide)) (fun h=>absurd h (by decide)) (fun h=>absurd h (by decide)) (fun h=>absurd h (by decide)) (fun h=>absurd h (by decide)) (fun h=>absurd h (by decide)) (fun h=>absurd h (by decide)) (fun h=>absurd h (by decide)) (fun h=>absurd h (by decide)) (fun h=>absurd h (by decide)))
        | some A =>
          have hn0:n=([]:List Int).length:=hn;subst hn0;refine(dY w1 A c [] (fun j x hx=>by simp at hx) (by simp)).mono ?_;rintro e w2 ⟨v,rfl,hv,hb⟩;have hsz:=hI.ni.b.size;exact hI.put (i:=1) (d:=29) (by decide) (by decide) (NI.step (hI.ni.move hb) 1 29 _ hG rfl (by decide) (fun h=>absurd h (by decide)) (fun _=>gL hv hsz) (fun h=>absurd h (by decide)) (fun h=>absurd h (by decide)) (fun h=>absurd h (by decide)) (fun h=>absurd h (by decide)) (fun h=>absurd h (by decide)) (fun h=>absurd h (by decide)) (fun h=>absurd h (by decide)) (fun h=>absurd h (by decide)) (fun h=>absurd h (by decide)) (fun h=>absurd h (by decide)))
       ·have hcells:∀ (j:Nat) (x:Int),xs[j]? = some x->w1.cell? ⟨b,o+j,none⟩=some (.int .i64 x):=fun j x hx=>oO hI.ni.b (hc j x hx);subst hn;refine(jm w1 b o c xs hcells (by omega)).mono ?_;rintro e w2 ⟨v,rfl,hv,hb⟩;have hsz:=hI.ni.b.size;exact hI.put (i:=1) (d:=29) (by decide) (by decide) (NI.step (hI.ni.move hb) 1 29 _ hG rfl (by decide) (fun h=>absurd h (by decide)) (fun _=>gL hv hsz) (fun h=>absurd h (by decide)) (fun h=>absurd h (by decide)) (fun h=>absurd h (by decide)) (fun h=>absurd h (by decide)) (fun h=>absurd h (by decide)) (fun h=>absurd h (by decide)) (fun h=>absurd h (by decide)) (fun h=>absurd h (by decide)) (fun h=>absurd h (by decide)) (fun h=>absurd h (by decide)))
     | 2,_ =>
       simp only [List.getElem?_toArray,List.getElem?_cons_zero,List.getElem?_cons_succ,Option.some.injEq]at ho;subst ho;simp only [Region.wanted,↓reduceIte];exact hI.put (i:=2) (d:=30) (by decide) (by decide) (NI.step hI.ni 2 30 _ hG rfl (by decide) (fun h=>absurd h (by decide)) (fun h=>absurd h (by decide)) (fun _=>hI.ni.a6) (fun h=>absurd h (by decide)) (fun h=>absurd h (by decide)) (fun h=>absurd h (by decide)) (fun h=>absurd h (by decide)) (fun h=>absurd h (by decide)) (fun h=>absurd h (by decide)) (fun h=>absurd h (by decide)) (fun h=>absurd h (by decide)) (fun h=>absurd h (by decide)))
     | 4,_ =>
       simp only [List.getElem?_toArray,List.getElem?_cons_zero,List.getElem?_cons_succ,Option.some.injEq]at ho;subst ho;simp only [Region.wanted,↓reduceIte];exact hI.put (i:=4) (d:=32) (by decide) (by decide) (NI.step hI.ni 4 32 _ hG rfl (by decide) (fun h=>absurd h (by decide)) (fun h=>absurd h (by decide)) (fun h=>absurd h (by decide)) (fun h=>absurd h (by decide)) (fun _=>hI.ni.a6) (fun h=>absurd h (by decide)) (fun h=>absurd h (by decide)) (fun h=>absurd h (by decide)) (fun h=>absurd h (by decide)) (fun h=>absurd h (by decide)) (fun h=>absurd h (by decide)) (fun h=>absurd h (by decide)))
     | 3,_ =>
       simp only [List.getElem?_toArray,List.getElem?_cons_zero,List.getElem?_cons_succ,Option.some.injEq]at ho;subst ho;simp only [Region.wanted,↓reduceIte];have g0:L.getD 2 false=true:=hdep ⟨2,.data⟩ (by simp) rfl;have h30:a.tmps.getD 30 undef=J ((xs.length:Int)+1):=hI.ni.k2 g0;have hrun:=fQ w1 oo Tryz.underlying92 (by decide) (n:=xs.length+1) (by omega);rw [show ((xs.length+1:Nat):Int)=(xs.length:Int)+1 from by omega]at hrun
       show Oper.upon _ _ _ _ _ (((Instr.makeSlice 92 (a.tmps.getD 30 undef) (a.tmps.getD 30 undef)) >>= fun v=>pure (Next.value v):Sem Next).run Tryz.prog w1);rw [h30];simp only [Sem.run_bind,hrun,Result.andThen,Sem.run_pure,Oper.upon_value];have hsz:=hI.ni.b.size;exact hI.put (i:=3) (d:=31) (by decide) (by decide) (NI.step (hI.ni.move (br.alloc aH _)) 3 31 _ hG rfl (by decide) (fun h=>absurd h (by decide)) (fun h=>absurd h (by decide)) (fun h=>absurd h (by decide)) (fun _=>⟨w1.heap.size,rfl,hsz,by simp,oE (by omega)⟩) (fun h=>absurd h (by decide)) (fun h=>absurd h (by decide)) (fun h=>absurd h (by decide)) (fun h=>absurd h (by decide)) (fun h=>absurd h (by decide)) (fun h=>absurd h (by decide)) (fun h=>absurd h (by decide)) (fun h=>absurd h (by decide)))
     | 5,_ =>
       simp only [List.getElem?_toArray,List.getElem?_cons_zero,List.getElem?_cons_succ,Option.some.injEq]at ho;subst ho;simp only [Region.wanted,↓reduceIte];have g0:L.getD 4 false=true:=hdep ⟨4,.data⟩ (by simp) rfl;have h30:a.tmps.getD 32 undef=J ((xs.length:Int)+1):=hI.ni.k4 g0;have hrun:=fQ w1 iM Tryz.underlying64 (by decide) (n:=xs.length+1) (by omega);rw [show ((xs.length+1:Nat):Int)=(xs.length:Int)+1 from by omega]at hrun
       show Oper.upon _ _ _ _ _ (((Instr.makeSlice 64 (a.tmps.getD 32 undef) (a.tmps.getD 32 undef)) >>= fun v=>pure (Next.value v):Sem Next).run Tryz.prog w1);rw [h30];simp only [Sem.run_bind,hrun,Result.andThen,Sem.run_pure,Oper.upon_value];have hsz:=hI.ni.b.size;exact hI.put (i:=5) (d:=33) (by decide) (by decide) (NI.step (hI.ni.move (br.alloc aH _)) 5 33 _ hG rfl (by decide) (fun h=>absurd h (by decide)) (fun h=>absurd h (by decide)) (fun h=>absurd h (by decide)) (fun h=>absurd h (by decide)) (fun h=>absurd h (by decide)) (fun _=>⟨w1.heap.size,rfl,hsz,by simp,oE (by omega)⟩) (fun h=>absurd h (by decide)) (fun h=>absurd h (by decide)) (fun h=>absurd h (by decide)) (fun h=>absurd h (by decide)) (fun h=>absurd h (by decide)) (fun h=>absurd h (by decide)))
     | 6,_ =>
       simp only [List.getElem?_toArray,List.getElem?_cons_zero,List.getElem?_cons_succ,Option.some.injEq]at ho;subst ho;simp only [Region.wanted,↓reduceIte];have hsz:=hI.ni.b.size
       exact hI.put (i:=6) (d:=34) (by decide) (by decide) (NI.step (hI.ni.move (br.alloc aH _)) 6 34 _ hG rfl (by decide) (fun h=>absurd h (by decide)) (fun h=>absurd h (by decide)) (fun h=>absurd h (by decide)) (fun h=>absurd h (by decide)) (fun h=>absurd h (by decide)) (fun h=>absurd h (by decide)) (fun _=>⟨⟨w1.heap.size,rfl,hsz,HasMap.made w1 _ _⟩,fun g e=>by
        obtain⟨b,h1,h2,h3⟩:=hI.ni.k7 g;have h4:=h3.lt;rw [h1]at e;injection e with e
        injection e with e
        omega⟩) (fun h=>absurd h (by decide)) (fun h=>absurd h (by decide)) (fun h=>absurd h (by decide)) (fun h=>absurd h (by decide)) (fun h=>absurd h (by decide)))
     | 7,_ =>
       simp only [List.getElem?_toArray,List.getElem?_cons_zero,List.getElem?_cons_succ,Option.some.injEq]at ho;subst ho;simp only [Region.wanted,↓reduceIte];have hsz:=hI.ni.b.size
       exact hI.put (i:=7) (d:=35) (by decide) (by decide) (NI.step (hI.ni.move (br.alloc aH _)) 7 35 _ hG rfl (by decide) (fun h=>absurd h (by decide)) (fun h=>absurd h (by decide)) (fun h=>absurd h (by decide)) (fun h=>absurd h (by decide)) (fun h=>absurd h (by decide)) (fun h=>absurd h (by decide)) (fun h=>absurd h (by decide)) (fun _=>⟨⟨w1.heap.size,rfl,hsz,HasMap.made w1 _ _⟩,fun g e=>by
        obtain⟨b,h1,h2,h3⟩:=hI.ni.k6 g;have h4:=h3.lt;rw [h1]at e;injection e with e
        injection e with e
        omega⟩) (fun h=>absurd h (by decide)) (fun h=>absurd h (by decide)) (fun h=>absurd h (by decide)) (fun h=>absurd h (by decide)))
     | 8,_ =>
       simp only [List.getElem?_toArray,List.getElem?_cons_zero,List.getElem?_cons_succ,Option.some.injEq]at ho;subst ho;simp only [Region.wanted,↓reduceIte];have g1:L.getD 1 false=true:=hdep ⟨1,.data⟩ (by simp) rfl;have g3:L.getD 3 false=true:=hdep ⟨3,.data⟩ (by simp) rfl;have g5:L.getD 5 false=true:=hdep ⟨5,.data⟩ (by simp) rfl;have g6:L.getD 6 false=true:=hdep ⟨6,.data⟩ (by simp) rfl;have g7:L.getD 7 false=true:=hdep ⟨7,.data⟩ (by simp) rfl;obtain⟨pa',pc',h29,-⟩:=hI.ni.k1 g1;obtain⟨b31,h31,-⟩:=hI.ni.k3 g3;obtain⟨b33,h33,-⟩:=hI.ni.k5 g5;obtain⟨b34,h34,-⟩:=hI.ni.k6 g6;obtain⟨b35,h35,-⟩:=hI.ni.k7 g7;have h29:a.tmps.getD 29 undef=_:=h29;have h31:a.tmps.getD 31 undef=_:=h31;have h33:a.tmps.getD 33 undef=_:=h33;have h34:a.tmps.getD 34 undef=_:=h34;have h35:a.tmps.getD 35 undef=_:=h35;unfold Oper.wp;simp only [execOp,List.map_toArray,List.map_cons,List.map_nil,Act.eval,h29,h31,h33,h34,h35];simp [go_sem];show NInv _ _ _ _ (a.put (some 36) (.agg #[_,_,_,_,_,_])) _;exact hI.put (i:=8) (d:=36) (by decide) (by decide) (NI.step hI.ni 8 36 _ hG rfl (by decide) (fun h=>absurd h (by decide)) (fun h=>absurd h (by decide)) (fun h=>absurd h (by decide)) (fun h=>absurd h (by decide)) (fun h=>absurd h (by decide)) (fun h=>absurd h (by decide)) (fun h=>absurd h (by decide)) (fun h=>absurd h (by decide)) (fun _=>⟨⟨g1,g3,g5,g6,g7⟩,by simp only [h29,h31,h33,h34,h35]⟩) (fun h=>absurd h (by decide)) (fun h=>absurd h (by decide)) (fun h=>absurd h (by decide)))
     | 9,_ =>
       simp only [List.getElem?_toArray,List.getElem?_cons_zero,List.getElem?_cons_succ,Option.some.injEq]at ho;subst ho;simp only [Region.wanted,↓reduceIte];have g8:L.getD 8 false=true:=hdep ⟨8,.data⟩ (by simp) rfl;have h36:=hI.ni.k8 g8;have hsz:=hI.ni.b.size;obtain⟨g1,g3,g5,g6,g7⟩:=hI.ni.o8 g8;obtain⟨pa',pc',h29,-⟩:=hI.ni.k1 g1;obtain⟨b31,h31,-⟩:=hI.ni.k3 g3;obtain⟨b33,h33,-⟩:=hI.ni.k5 g5;obtain⟨b34,h34,-⟩:=hI.ni.k6 g6;obtain⟨b35,h35,-⟩:=hI.ni.k7 g7;have h29:a.tmps.getD 29 undef=_:=h29;have h31:a.tmps.getD 31 undef=_:=h31;have h33:a.tmps.getD 33 undef=_:=h33;have h34:a.tmps.getD 34 undef=_:=h34;have h35:a.tmps.getD 35 undef=_:=h35;simp only [h29,h31,h33,h34,h35]at h36;unfold Oper.wp;simp [execOp,go_sem,Act.eval,h36];have h31:(fun k=>a.tmps.getD k undef) 31=_:=h31;show NInv _ _ _ _ (a.put (some 37) (P_ w1.heap.size)) _;exact hI.put (i:=9) (d:=37) (by decide) (by decide) (NI.step (hI.ni.move (br.alloc aH _)) 9 37 _ hG rfl (by decide) (fun h=>absurd h (by decide)) (fun h=>absurd h (by decide)) (fun h=>absurd h (by decide)) (fun h=>absurd h (by decide)) (fun h=>absurd h (by decide)) (fun h=>absurd h (by decide)) (fun h=>absurd h (by decide)) (fun h=>absurd h (by decide)) (fun h=>absurd h (by decide)) (fun _=>⟨g8,w1.heap.size,rfl,hsz,by simp only [h29,h31,h33,h34,h35];exact ai _ _⟩) (fun h=>absurd h (by decide)) (fun h=>absurd h (by decide)))
     | 10,_ =>
       simp only [List.getElem?_toArray,List.getElem?_cons_zero,List.getElem?_cons_succ,Option.some.injEq]at ho;subst ho;simp only [Region.wanted,↓reduceIte];have g9:L.getD 9 false=true:=hdep ⟨9,.data⟩ (by simp) rfl;exact hI.put (i:=10) (d:=2) (by decide) (by decide) (NI.step hI.ni 10 2 _ hG rfl (by decide) (fun h=>absurd h (by decide)) (fun h=>absurd h (by decide)) (fun h=>absurd h (by decide)) (fun h=>absurd h (by decide)) (fun h=>absurd h (by decide)) (fun h=>absurd h (by decide)) (fun h=>absurd h (by decide)) (fun h=>absurd h (by decide)) (fun h=>absurd h (by decide)) (fun h=>absurd h (by decide)) (fun _=>⟨g9,rfl⟩) (fun h=>absurd h (by decide)))
     | 11,_ =>
       simp only [List.getElem?_toArray,List.getElem?_cons_zero,List.getElem?_cons_succ,Option.some.injEq]at ho;subst ho;simp only [Region.wanted,↓reduceIte];exact hI.put (i:=11) (d:=3) (by decide) (by decide) (NI.step hI.ni 11 3 _ hG rfl (by decide) (fun h=>absurd h (by decide)) (fun h=>absurd h (by decide)) (fun h=>absurd h (by decide)) (fun h=>absurd h (by decide)) (fun h=>absurd h (by decide)) (fun h=>absurd h (by decide)) (fun h=>absurd h (by decide)) (fun h=>absurd h (by decide)) (fun h=>absurd h (by decide)) (fun h=>absurd h (by decide)) (fun h=>absurd h (by decide)) (fun _=>rfl))
    ·rintro L a w1 hI hall
     obtain⟨p,h2,h3,hW⟩:=hI.ni.world htree.out (fun i hi=>by
      have:=hall i hi;have hs:=hI.sz;simp only [Array.getD_eq_getD_getElem?]at this ⊢;rw [Array.getElem?_eq_getElem (by omega)]at this ⊢
      exact this)
     have h2:a.tmps.getD 2 undef=_:=h2;have h3:a.tmps.getD 3 undef=_:=h3;refine ‹∀ (a:Act) (w:World),Code.wp Tryz.prog Code.ret _ a w->_› a w1 ?_;have hb:=hI.ni.b;refine wp_ret (bodyPost_ret (v:=.tuple #[P_ p,J 0]) ?_ hI.df (show lU w xs _ w1 from Or.inl ⟨htree.out,p,_,rfl,hW,fun b hb=>hb.1,hb⟩));simp only [Array.getD_eq_getD_getElem?]at h2 h3;simp [results,Tryz.results12,go_sem,h2,h3]
end
end Go.Proofs.YthaliljaglldjaaGreat
