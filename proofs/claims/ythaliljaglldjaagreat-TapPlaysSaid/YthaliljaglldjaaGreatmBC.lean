/- Part of the proof. -/
import Derived.Test.YthaliljaglldjaaGreatmAS
import Derived.Laws.Tables
import Derived.Test.YthaliljaglldjaaGreatmAU
namespace Go.Proofs.YthaliljaglldjaaGreat
set_option maxHeartbeats 16000000
set_option maxRecDepth 20000
open Go.RowKit Go.ChangeMaps Go.MapKept
section
variable {w:World} {p:Nat} {M:WM} {F:Nat->Prop}
end
section
structure Alike (N1 N2:WM):Prop where
 par:N2.parents=N1.parents
 last:N2.last=N1.last
 made:N2.made=N1.made
 things:LikeT N1.things N2.things
theorem LikeT.two {l l1 l' l2:List (Int × Th)} (h:LikeT l l') (h1:LikeT l l1) (h2:LikeT l' l2) {i:Nat} {x:Int × Th} (hx:l1[i]? = some x):∃ vl vals,l2[i]? = some (x.1,{ x.2 with vl:=vl,vals:=vals }):=by
 have hi:i<l.length:=by have:=(List.getElem?_eq_some_iff.1 hx).1;have:=h1.1;omega
 obtain⟨vl,vals,e1⟩:=h1.2 i _ (List.getElem?_eq_getElem hi);rw [hx]at e1
 cases e1
 obtain⟨vl',vals',e2⟩:=h.2 i _ (List.getElem?_eq_getElem hi);obtain⟨vl2,vals2,e3⟩:=h2.2 i _ e2;exact⟨vl2,vals2,e3⟩
def ThLike (t t':Th):Prop:=∃ vl vals,t' = { t with vl:=vl,vals:=vals }
theorem LikeT.mem' {l l':List (Int × Th)} (h:LikeT l l') {y:Int × Th} (hy:y ∈ l'):∃ x ∈ l,y.1=x.1/\ThLike x.2 y.2:=by
 obtain⟨i,hi⟩:=List.mem_iff_getElem?.1 hy;have hlt:=(List.getElem?_eq_some_iff.1 hi).1;have hlt':i<l.length:=by rw [<- h.1];exact hlt
 obtain⟨vl,vals,e⟩:=h.2 i _ (List.getElem?_eq_getElem hlt');rw [hi]at e;injection e with e
 exact⟨l[i],List.getElem_mem hlt',by rw [e],vl,vals,by rw [e]⟩
end
section
theorem append_all {w:World} {ops:Array Oper} {rest:List Oper} {o:Oper} {a:Act} {Q:Exit->Act->World->Prop} (hgd:o.guard=none) (s x:Operand) (t e:TypeId) (z:Value) (bytes:Nat)
 (ho:o.op=.call { callee:=.builtin .append,args:=#[s,x],argTypes:=#[t,t] }) (ht:Tryz.prog.underlying t=some (.slice e)) (hinfo:(Tryz.prog.info? e).map (fun i=>(i.zero,i.size,i.bytes))=some (some z,1,bytes)) (hzs:z.cells.size=1) (hb:bytes≤64)
 (A:Addr) (c n:Nat) (vs:List Value) (hs:a.eval s=.slice (some ⟨w.heap.size,0,none⟩) 0 0) (hn:Hid (n=vs.length)) (hx:a.eval x=.slice (some A) n c) (hc:Hid (∀ (j:Nat) (v:Value),vs[j]? = some v->w.cell? (A.add j)=some v)) (h1:Hid (∀ v ∈ vs,v.oneCell'=true)) (hl:Hid (vs.length≤16))
 (h:∀ v' w',Hid (w'.ownsRow w.heap.size e 1 v' n vs)->Hid (Bl w w')->wpList Tryz.prog ops Q rest (a.put o.dst v') w'):wpList Tryz.prog ops Q (o :: rest) a (w.alloc (.cells #[] e)):=by
 obtain⟨i,hi,hz,h2,h3⟩:=info_parts hinfo;have hl:=hl.out;have hn:=hn.out;have hb2:vs.length * bytes≤16 * 64:=Nat.mul_le_mul hl hb
 refine wpList_append_own _ hgd s x t ho w.heap.size e i z 1 bytes ht hi hz h2 h3 hzs (by decide) (.slice (some ⟨w.heap.size,0,none⟩) 0 0) 0 [] hs
  ⟨by simp,.inr ⟨w.heap.size,0,#[],rfl,Nat.le_refl _,blk_new _ _,by omega,by unfold maxLen;omega,by simp,by simp⟩⟩ A n c vs hx (by omega)
  (fun j u hu=>cell_al (hc.out j u hu) _) h1.out (by unfold maxLen;omega) (by rw [hn,Nat.zero_add];omega) (by simp) ?_
 intro v' w' r1 r2 _;have hg:w.grownBy w' (Value.slice (some ⟨w.heap.size,0,none⟩) 0 0).ownBlock:=(World.grownBy_alloc w _ _).trans r2;refine h v' w' (by show World.ownsRow _ _ _ _ _ _ _;simpa using r1) ⟨hg.os,hg.tape,hg.output,hg.size,fun k hk=>hg.block k (by omega) (fun e=>?_)⟩;simp [Value.ownBlock]at e;omega
theorem cloneBool_W (w:World) (b c n:Nat) (vs:List Value) (hn:n=vs.length) (hx:∀ (j:Nat) (v:Value),vs[j]? = some v->w.cell? ⟨b,j,none⟩=some v) (h1:∀ v ∈ vs,v.oneCell'=true) (hl:vs.length≤16) :
 Calls Tryz.prog 132 #[.slice (some ⟨b,0,none⟩) n c] w fun e w'=>∃ v,e=.returned v/\w'.ownsRow w.heap.size 4 1 v n vs/\Bl w w':=by
 have Hx:Hid (∀ (j:Nat) (v:Value),vs[j]? = some v->w.cell? ((⟨b,0,none⟩:Addr).add j)=some v):=fun j v h=>by
  have hadd:(⟨b,0,none⟩:Addr).add j=⟨b,j,none⟩:=by unfold Addr.add;split <;> simp_all
  rw [hadd];exact hx j v h
 have Hn:=(show Hid (n=vs.length)from hn);have H1:=(show Hid _ from h1);have Hl:=(show Hid (vs.length≤16)from hl);clear hn hx h1 hl
 go_enter Tryz.func132,Tryz.ntmps132
 go_wp2_with (at_builtin;refine append_all rfl _ _ 92 4 (.bool false) 1 rfl Tryz.underlying92 infoBool rfl (by decide) ⟨b,0,none⟩ c n vs rfl Hn rfl Hx H1 Hl ?_;intro v w1 HV HB1)
 go_ret
 exact⟨v,rfl,HV.out,HB1.out⟩
theorem cloneInt_W (w:World) (b c n:Nat) (vs:List Value) (hn:n=vs.length) (hx:∀ (j:Nat) (v:Value),vs[j]? = some v->w.cell? ⟨b,j,none⟩=some v) (h1:∀ v ∈ vs,v.oneCell'=true) (hl:vs.length≤16) :
 Calls Tryz.prog 111 #[.slice (some ⟨b,0,none⟩) n c] w fun e w'=>∃ v,e=.returned v/\w'.ownsRow w.heap.size 3 1 v n vs/\Bl w w':=by
 have Hx:Hid (∀ (j:Nat) (v:Value),vs[j]? = some v->w.cell? ((⟨b,0,none⟩:Addr).add j)=some v):=fun j v h=>by
  have hadd:(⟨b,0,none⟩:Addr).add j=⟨b,j,none⟩:=by unfold Addr.add;split <;> simp_all
  rw [hadd];exact hx j v h
 have Hn:=(show Hid (n=vs.length)from hn);have H1:=(show Hid _ from h1);have Hl:=(show Hid (vs.length≤16)from hl);clear hn hx h1 hl
 go_enter Tryz.func111,Tryz.ntmps111
 go_wp2_with (at_builtin;refine append_all rfl _ _ 64 3 (.int .i64 0) 8 rfl Tryz.underlying64 infoInt rfl (by decide) ⟨b,0,none⟩ c n vs rfl Hn rfl Hx H1 Hl ?_;intro v w1 HV HB1)
 go_ret
 exact⟨v,rfl,HV.out,HB1.out⟩
theorem cloneSide_W {w:World} {p:Nat} {M:WM} {F:Nat->Prop} {pa:Option Addr} {pc cg cc mg mc tb fb fn:Nat} {bl:Int->Nat} (hV:WV w p M F pa pc cg cc mg mc tb fb fn bl) (w0 w1:World) (h0:w0.heap.size≤w1.heap.size) (hb:Bl w w1) :
 Calls Tryz.prog 72 #[.slice pa M.parents.length pc] w1 fun e w'=>∃ v,e=.returned v/\NSides w0 M.parents v w'/\Bl w1 w':=by
 have hs:=hV.ok.sides
 cases pa with
 | none =>
   have hp:M.parents = []:=by
    match hM:M.parents with
    | []=>rfl
    | x :: l =>
      obtain⟨b,o,h,-⟩:=hV.pars 0 x (by rw [hM];rfl)
      cases h
   rw [hp];refine(cloneSide_nil w1 _ pc).mono ?_;rintro e _ ⟨rfl,rfl⟩;exact⟨_,rfl,⟨none,0,rfl,fun j x hx=>by simp at hx⟩,Below.refl _ _⟩
 | some A =>
   refine(cloneSide_at w1 A pc M.parents (fun j x hx=>?_) hs).mono ?_
   ·obtain⟨b,o,h1,h2,-,h4⟩:=hV.pars j x hx
    cases h1
    have hadd:(⟨b,o,none⟩:Addr).add j=⟨b,o+j,none⟩:=by unfold Addr.add;split <;> simp_all
    rw [hadd];exact(hb.cell (p:=⟨b,o+j,none⟩) (hV.lt b h2)).trans h4
   ·rintro e w2 ⟨v,rfl,hv,hb2⟩;exact⟨v,rfl,nsides_of hv h0,hb2⟩
def CRow (w0:World) (e:TypeId) (vs:List Value) (v:Value) (w:World):Prop :=
 ∃ g cap,v=.slice (some ⟨g,0,none⟩) vs.length cap/\w0.heap.size≤g/\g<w.heap.size/\Row w g e cap vs
theorem CRow.move {w0:World} {e:TypeId} {vs:List Value} {v:Value} {w w':World} (h:CRow w0 e vs v w) (hb:Bl w w'):CRow w0 e vs v w':=by
 obtain⟨g,cap,h1,h2,h3,h4⟩:=h;exact⟨g,cap,h1,h2,Nat.lt_of_lt_of_le h3 hb.size,h4.of_block (hb.block g h3)⟩
theorem CRow.of {w0 w1 w2:World} {e:TypeId} {vs:List Value} {v:Value} (h0:w0.heap.size≤w1.heap.size) (hn:0<vs.length) (hv:w2.ownsRow w1.heap.size e 1 v vs.length vs):CRow w0 e vs v w2:=by
 obtain⟨-,⟨rfl,h⟩ | ⟨g,cap,cur,rfl,h1,h2,h3,h4,h5,h6⟩⟩:=hv
 ·omega
 ·refine⟨g,cap,rfl,by omega,blk_lt h2,cur,h2,by omega,h3,h4,fun j x hx=>?_⟩;have hj:=(List.getElem?_eq_some_iff.1 hx).1;have e1:(cur.toList.take (vs.length * 1))[j]? = some x:=by rw [h6];exact hx
  rw [List.getElem?_take,if_pos (by omega)]at e1
  simpa using e1
def CPhi (w0:World) (p:Nat) (M:WM) (pa:Option Addr) (pc cg cc mg mc:Nat) (i:Nat) (v:Value) (w:World):Prop :=
 match i with
 | 0 | 1 | 5 | 6 | 10 | 11 | 15 | 16=>v=.pointer (some ⟨p,0,none⟩)
 | 2=>v=.pointer (some ⟨p,0,none⟩)
 | 3=>v=.slice pa M.parents.length pc
 | 4=>NSides w0 M.parents v w
 | 7=>v=.pointer (some ⟨p,1,none⟩)
 | 8=>v=.slice (some ⟨cg,0,none⟩) M.cuts.length cc
 | 9=>CRow w0 4 (M.cuts.map Value.bool) v w
 | 12=>v=.pointer (some ⟨p,5,none⟩)
 | 13=>v=.slice (some ⟨mg,0,none⟩) M.made.length mc
 | 14=>CRow w0 3 (M.made.map (Value.int .i64)) v w
 | 17=>v=.pointer (some ⟨p,4,none⟩)
 | 18=>v=.int .i64 M.last
 | 19=>NMap w0 25 v w
 | 20=>NMap w0 211 v w
 | 21=>∃ v0 v1 v2 v3 v5,v=.agg #[v0,v1,v2,v3,.int .i64 M.last,v5]/\NSides w0 M.parents v0 w/\CRow w0 4 (M.cuts.map Value.bool) v1 w/\NMap w0 25 v2 w/\NMap w0 211 v3 w/\CRow w0 3 (M.made.map (Value.int .i64)) v5 w/\blkOf v2≠blkOf v3
 | 22 | 23=>∃ q v0 v1 v2 v3 v5,v=.pointer (some ⟨q,0,none⟩)/\w0.heap.size≤q/\w.heap[q]? = some (.cells #[v0,v1,v2,v3,.int .i64 M.last,v5] 140 (0,0))/\NSides w0 M.parents v0 w/\CRow w0 4 (M.cuts.map Value.bool) v1 w/\NMap w0 25 v2 w/\NMap w0 211 v3 w/\CRow w0 3 (M.made.map (Value.int .i64)) v5 w/\blkOf v2≠blkOf v3
 | _=>True
theorem CPhi.stab {w0:World} {p:Nat} {M:WM} {pa:Option Addr} {pc cg cc mg mc:Nat}:∀ (i:Nat) (v:Value) (w w':World),Bl w w'->CPhi w0 p M pa pc cg cc mg mc i v w->CPhi w0 p M pa pc cg cc mg mc i v w':=by
 intro i v w w' hR h;unfold CPhi at h ⊢
 split at h <;> first
  | exact h
  | exact NSides.move h hR
  | exact CRow.move h hR
  | exact NMap.move h hR
  | (obtain⟨v0,v1,v2,v3,v5,h0,h1,h2,h3,h4,h5,h6⟩:=h
     exact⟨v0,v1,v2,v3,v5,h0,h1.move hR,h2.move hR,h3.move hR,h4.move hR,h5.move hR,h6⟩)
  | (obtain⟨q,v0,v1,v2,v3,v5,h0,hq,hb,h1,h2,h3,h4,h5,h6⟩:=h
     exact⟨q,v0,v1,v2,v3,v5,h0,hq,below_blk hR hb,h1.move hR,h2.move hR,h3.move hR,h4.move hR,h5.move hR,h6⟩)
  | trivial
end
section
def thV (vs:List Int) (bl:Int->Nat) (key:Value):Option Value :=
 match key with
 | .int .i64 r=>if r ∈ vs then some (.pointer (some ⟨bl r,0,none⟩))else none
 | _=>none
def faV (M:WM) (vs:List Int) (key:Value):Option Value :=
 match key with
 | .agg cs=>(match cs.toList with | [.int .i64 t,.int .u8 s]=>((M.find t s).filter fun r=>decide (r ∈ vs)).map (Value.int .i64) | _=>none)
 | _=>none
def updB (bl:Int->Nat) (x:Int) (g:Nat) (r:Int):Nat:=if r=x then g else bl r
structure CW (w0 w:World) (q:Nat) (M:WM) (pa:Option Addr) (pc g1 cap1 b2 b3 g5 cap5:Nat) (vs:List Int) (bl:Int->Nat):Prop where
 b:Bl w0 w
 hq:w.heap[q]? = some (.cells #[.slice pa M.parents.length pc,.slice (some ⟨g1,0,none⟩) M.cuts.length cap1,.map (some b2),.map (some b3),.int .i64 M.last,.slice (some ⟨g5,0,none⟩) M.made.length cap5] 140 (0,0))
 pars:∀ (j:Nat) (x:Int),M.parents[j]? = some x->∃ b o,pa=some ⟨b,o,none⟩/\w0.heap.size≤b/\(∃ cs fr,w.heap[b]? = some (.cells cs 35 fr))/\w.cell? ⟨b,o+j,none⟩=some (.int .i64 x)
 cut:Row w g1 4 cap1 (M.cuts.map Value.bool)
 mad:Row w g5 3 cap5 (M.made.map (Value.int .i64))
 things:HasMap Tryz.prog 25 w b2 (thV vs bl) vs.length
 facets:MapLe Tryz.prog 211 w b3 (faV M vs) vs.length
 blk:∀ r t,r ∈ vs->M.at r=some t->w.heap[bl r]? = some (.cells (thc t) 46 (0,0))/\w0.heap.size≤bl r
 inj:∀ r r',r ∈ vs->r' ∈ vs->bl r=bl r'->r=r'
 low:w0.heap.size≤q/\w0.heap.size≤g1/\w0.heap.size≤g5/\w0.heap.size≤b2/\w0.heap.size≤b3
 ne:b2≠b3
 nd:vs.Nodup
 sub:∀ r ∈ vs,(M.at r).isSome=true
theorem Rg.obj {w:World} {b r cnt:Nat} {f:Value->Option Value} {L:Int->Bool} (h:Rg w b r f L cnt):∃ o,w.heap[r]? = some o/\(∀ cs e fr,o≠.cells cs e fr)/\∀ es c,o≠.map es c:=by
 obtain⟨D,n,left,⟨es,clock,since,seen,c0,h1,h2,h3,h4,h5,h6⟩,r'⟩:=h;exact⟨_,h5,(fun _ _ _ e=>by cases e),(fun _ _ e=>by cases e)⟩
theorem MapLe.is {P:Program} {k:TypeId} {w:World} {b:Nat} {f:Value->Option Value} {n:Nat} (h:MapLe P k w b f n):∃ es clock,w.heap[b]? = some (.map es clock):=by
 obtain⟨m,-,h⟩:=h;exact h.is
theorem MapLe.of_block {P:Program} {k:TypeId} {w w':World} {b:Nat} {f:Value->Option Value} {n:Nat} (h:MapLe P k w b f n) (hb:w'.heap[b]? = w.heap[b]?):MapLe P k w' b f n:=by
 obtain⟨m,h1,h⟩:=h;exact⟨m,h1,h.of_block hb⟩
section
variable {w0 w w':World} {q:Nat} {M:WM} {pa:Option Addr} {pc g1 cap1 b2 b3 g5 cap5:Nat} {vs:List Int} {bl:Int->Nat}
theorem CW.turn {vs':List Int} {bl':Int->Nat} (h:CW w0 w q M pa pc g1 cap1 b2 b3 g5 cap5 vs bl) (hb:Bl w0 w') (hc:∀ (b:Nat) (cs:Array Value) (e:TypeId) (fr:Nat × Nat),w.heap[b]? = some (Obj.cells cs e fr)->w'.heap[b]? = some (Obj.cells cs e fr))
 (h2:HasMap Tryz.prog 25 w' b2 (thV vs' bl') vs'.length) (h3:MapLe Tryz.prog 211 w' b3 (faV M vs') vs'.length)
 (hblk:∀ r t,r ∈ vs'->M.at r=some t->w'.heap[bl' r]? = some (.cells (thc t) 46 (0,0))/\w0.heap.size≤bl' r) (hinj:∀ r r',r ∈ vs'->r' ∈ vs'->bl' r=bl' r'->r=r') (hnd:vs'.Nodup) (hsub:∀ r ∈ vs',(M.at r).isSome=true) :
 CW w0 w' q M pa pc g1 cap1 b2 b3 g5 cap5 vs' bl' where
 b:=hb
 hq:=hc _ _ _ _ h.hq
 pars j x hx:=by
  obtain⟨b,o,e1,e2,⟨cs,fr,e3⟩,e4⟩:=h.pars j x hx;have e5:=hc _ _ _ _ e3;exact⟨b,o,e1,e2,⟨cs,fr,e5⟩,(World.cell?_of_block (a:=⟨b,o+j,none⟩) (e5.trans e3.symm)).trans e4⟩
 cut:=by
  obtain⟨cur,e1,r⟩:=h.cut;exact⟨cur,hc _ _ _ _ e1,r⟩
 mad:=by
  obtain⟨cur,e1,r⟩:=h.mad;exact⟨cur,hc _ _ _ _ e1,r⟩
 things:=h2
 facets:=h3
 blk:=hblk
 inj:=hinj
 low:=h.low
 ne:=h.ne
 nd:=hnd
 sub:=hsub
theorem CW.same (h:CW w0 w q M pa pc g1 cap1 b2 b3 g5 cap5 vs bl) (hb:Bl w0 w') (hc:∀ (b:Nat) (o:Obj),w.heap[b]? = some o->((∃ cs e fr,o=.cells cs e fr)\/∃ es c,o=.map es c)->w'.heap[b]? = some o):CW w0 w' q M pa pc g1 cap1 b2 b3 g5 cap5 vs bl:=by
 obtain⟨es2,c2,e2⟩:=h.things.is;obtain⟨es3,c3,e3⟩:=h.facets.is
 exact h.turn hb (fun b cs e fr hx=>hc _ _ hx (.inl ⟨_,_,_,rfl⟩)) (h.things.of_block ((hc _ _ e2 (.inr ⟨_,_,rfl⟩)).trans e2.symm)) (h.facets.of_block ((hc _ _ e3 (.inr ⟨_,_,rfl⟩)).trans e3.symm))
  (fun r t hr ht=>⟨hc _ _ (h.blk r t hr ht).1 (.inl ⟨_,_,_,rfl⟩),(h.blk r t hr ht).2⟩) h.inj h.nd h.sub
theorem CW.below (h:CW w0 w q M pa pc g1 cap1 b2 b3 g5 cap5 vs bl) (hb:Bl w w'):CW w0 w' q M pa pc g1 cap1 b2 b3 g5 cap5 vs bl :=
 h.same (h.b.trans (hb.mono h.b.size)) (fun _ _ hx _=>below_blk hb hx)
theorem CW.next {r:Nat} {o:Obj} (h:CW w0 w q M pa pc g1 cap1 b2 b3 g5 cap5 vs bl) (hr:w.heap[r]? = some o) (h1:∀ cs e fr,o≠.cells cs e fr) (h2:∀ es c,o≠.map es c) (h0:w0.heap.size≤r) (hk:Keeps (fun y=>y=r) w w') :
 CW w0 w' q M pa pc g1 cap1 b2 b3 g5 cap5 vs bl :=
 h.same (h.b.trans (Keeps.below hk h.b.size (fun x e=>by subst e;exact h0))) (fun b o' hx ho=>(hk.block b (blk_lt hx) (fun e=>by
  subst e;rw [hr]at hx
  cases hx
  rcases ho with ⟨cs,e,fr,e'⟩ | ⟨es,c,e'⟩
  ·exact h1 _ _ _ e'
  ·exact h2 _ _ e')).trans hx)
theorem CW.none (h:CW w0 w q M pa pc g1 cap1 b2 b3 g5 cap5 vs bl):w.cell? ⟨q,2,none⟩=some (.map (some b2))/\w.cell? ⟨q,3,none⟩=some (.map (some b3)):=by
 constructor
 ·rw [cell_blk h.hq];rfl
 ·rw [cell_blk h.hq];rfl
theorem thV_snoc (x:Int) (g:Nat):thV (vs ++ [x]) (updB bl x g) (.int .i64 x)=some (.pointer (some ⟨g,0,none⟩))/\∀ k,k≠.int .i64 x->thV (vs ++ [x]) (updB bl x g) k=thV vs bl k:=by
 refine⟨by simp [thV,updB],fun k hk=>?_⟩;unfold thV;split
 ·rename_i r
  have hr:r≠x:=fun e=>hk (by rw [e]);simp [updB,hr]
 ·rfl
theorem faV_plain {x:Int} {t:Th} (hM:M.ok) (ht:M.at x=some t) (hk:t.kind≠14):faV M (vs ++ [x])=faV M vs:=by
 funext key
 unfold faV;split
 ·split
  ·rename_i a b hl
   congr 1
   cases hf:M.find a b with
   | none=>rfl
   | some r =>
     obtain⟨u,hu,hk',-⟩:=WM.find_at hM hf;have:r≠x:=fun e=>by subst e;rw [ht]at hu;cases hu;exact hk hk'
     simp [Option.filter,this]
  ·rfl
 ·rfl
theorem faV_facet {x:Int} {t:Th} (hM:M.ok) (ht:M.at x=some t) (hk:t.kind=14):faV M (vs ++ [x]) (fkey t.tgt t.set)=some (.int .i64 x)/\∀ k,k≠fkey t.tgt t.set->faV M (vs ++ [x]) k=faV M vs k:=by
 have hfind:M.find t.tgt t.set=some x:=by
  cases hf:M.find t.tgt t.set with
  | none=>exact(WM.find_none hf ht hk rfl rfl).elim
  | some r =>
    obtain⟨u,hu,h1,h2,h3⟩:=WM.find_at hM hf;exact congrArg some (hM.facet r u x t hu ht h1 hk h2 h3)
 refine⟨by simp [faV,fkey,hfind,Option.filter],fun k hk'=>?_⟩;unfold faV;split
 ·rename_i cs
  split
  ·rename_i a b hl
   congr 1
   cases hf:M.find a b with
   | none=>rfl
   | some r =>
     obtain⟨u,hu,h1,h2,h3⟩:=WM.find_at hM hf
     have:r≠x:=fun e=>by
      subst e;rw [ht]at hu
      cases hu
      apply hk'
      obtain⟨l⟩:=cs;have hl:l = [.int .i64 a,.int .u8 b]:=hl;subst hl;show Value.agg _=fkey _ _;rw [fkey,h2,h3]
     simp [Option.filter,this]
  ·rfl
 ·rfl
theorem CW.add {x:Int} {t:Th} {w2 w3 w4:World} {g:Nat} (h:CW w0 w q M pa pc g1 cap1 b2 b3 g5 cap5 vs bl) (ht:M.at x=some t) (hx:x ∉ vs) (hb:Bl w w2) (hg:w.heap.size≤g) (hgb:w2.heap[g]? = some (.cells (thc t) 46 (0,0)))
 (h3:Turned w2 w3 b2) (hm:HasMap Tryz.prog 25 w3 b2 (thV (vs ++ [x]) (updB bl x g)) (vs.length+1)) (h4:(Turned w3 w4 b3\/w4=w3)/\MapLe Tryz.prog 211 w4 b3 (faV M (vs ++ [x])) (vs.length+1)) :
 CW w0 w4 q M pa pc g1 cap1 b2 b3 g5 cap5 (vs ++ [x]) (updB bl x g):=by
 have hW2:=h.below hb;obtain⟨es2,c2,e2⟩:=hW2.things.is;obtain⟨es3,c3,e3⟩:=hW2.facets.is;have hne:=h.ne;have k3:∀ (b:Nat) (cs:Array Value) (e:TypeId) (fr:Nat × Nat),w2.heap[b]? = some (Obj.cells cs e fr)->w3.heap[b]? = some (Obj.cells cs e fr):=fun b cs e fr hb'=>(h3.block (fun e'=>by subst e';rw [e2]at hb';cases hb')).trans hb';have e3':w3.heap[b3]? = some (.map es3 c3):=(h3.block (fun e=>hne e.symm)).trans e3
 have k4:∀ b,b≠b3->w4.heap[b]? = w3.heap[b]?:=fun b hb'=>by
  rcases h4.1 with h4 | h4
  ·exact h4.block hb'
  ·rw [h4]
 have k4':∀ (b:Nat) (cs:Array Value) (e:TypeId) (fr:Nat × Nat),w3.heap[b]? = some (Obj.cells cs e fr)->w4.heap[b]? = some (Obj.cells cs e fr):=fun b cs e fr hb'=>(k4 b (fun e'=>by subst e';rw [e3']at hb';cases hb')).trans hb';have hB3:Bl w0 w3:=hW2.b.trans (Keeps.below h3.2 hW2.b.size (fun y e=>by subst e;exact h.low.2.2.2.1))
 have hB4:Bl w0 w4:=by
  rcases h4.1 with h4 | h4
  ·exact hB3.trans (Keeps.below h4.2 hB3.size (fun y e=>by subst e;exact h.low.2.2.2.2))
  ·rw [h4];exact hB3
 have hlt:∀ r t,r ∈ vs->M.at r=some t->bl r<w.heap.size:=fun r t hr ht=>blk_lt (h.blk r t hr ht).1;refine hW2.turn hB4 (fun b cs e fr hx'=>k4' _ _ _ _ (k3 _ _ _ _ hx')) (by simpa using hm.of_block (k4 b2 hne)) (by simpa using h4.2) (fun r u hr hu=>?_) (fun r r' hr hr' e=>?_) ?_ (fun r hr=>?_)
 ·by_cases e:r=x
  ·subst e;rw [ht]at hu
   cases hu
   simp only [updB,if_true];exact⟨k4' _ _ _ _ (k3 _ _ _ _ hgb),Nat.le_trans h.b.size hg⟩
  ·simp only [updB,e,if_false];have hr:r ∈ vs:=by simpa [e]using hr
   exact⟨k4' _ _ _ _ (k3 _ _ _ _ (hW2.blk r u hr hu).1),(hW2.blk r u hr hu).2⟩
 ·have key:∀ r,r ∈ vs ++ [x]->r≠x->r ∈ vs/\bl r<w.heap.size:=fun r hr e=>by
   have hr:r ∈ vs:=by simpa [e]using hr
   obtain⟨u,hu⟩:=Option.isSome_iff_exists.1 (h.sub r hr);exact⟨hr,hlt r u hr hu⟩
  by_cases e1:r=x <;> by_cases e2:r'=x
  ·rw [e1,e2]
  ·have:=(key r' hr' e2).2;simp only [updB,e1,e2,if_true,if_false]at e;omega
  ·have:=(key r hr e1).2;simp only [updB,e1,e2,if_true,if_false]at e;omega
  ·simp only [updB,e1,e2,if_false]at e;exact h.inj r r' (key r hr e1).1 (key r' hr' e2).1 e
 ·rw [List.nodup_append];refine⟨h.nd,by simp,fun a ha b hb'=>?_⟩;simp at hb';subst hb';intro e;exact hx (e ▸ ha)
 ·rcases List.mem_append.1 hr with hr | hr
  ·exact h.sub r hr
  ·simp at hr;subst hr;rw [ht];rfl
theorem thV_all (hall:∀ r t,M.at r=some t->r ∈ vs) (hsub:∀ r ∈ vs,(M.at r).isSome=true) (key:Value):thf M bl key=thV vs bl key:=by
 unfold thf thV;split
 ·rename_i r
  cases hr:M.at r with
  | none =>
    have:r ∉ vs:=fun hv=>by
     have:=hsub r hv;rw [hr]at this
     cases this
    simp [this]
  | some t=>simp [hall r t hr]
 ·rename_i hne
  split
  ·exact(hne _ rfl).elim
  ·rfl
theorem faV_all (hM:M.ok) (hall:∀ r t,M.at r=some t->r ∈ vs) (key:Value):faf M key=faV M vs key:=by
 unfold faf faV
 cases key with
 | agg cs =>
   simp only;split
   ·rename_i a b hl
    cases hf:M.find a b with
    | none=>simp [hl,hf]
    | some r =>
      obtain⟨u,hu,-⟩:=WM.find_at hM hf;simp [hl,hf,Option.filter,hall r u hu]
   ·rename_i hne
    split
    ·rename_i hl
     exact(hne _ _ hl).elim
    ·rfl
 | _=>rfl
theorem CW.done (hM:M.ok) (light:∀ r t,M.at r=some t->Deep w (fun _=>False) t) (h:CW w0 w q M pa pc g1 cap1 b2 b3 g5 cap5 vs bl) (hall:∀ r t,M.at r=some t->r ∈ vs) (hlen:vs.length=M.things.length) (hlast:(M.things.length:Int)≤M.last) :
 IsW w q M (fun b=>w0.heap.size≤b/\b<w.heap.size):=by
 obtain⟨m,hm,hfac⟩:=h.facets;refine⟨pa,pc,g1,cap1,g5,cap5,b2,b3,m,bl,?_⟩;have hc:=h.cut;have hd:=h.mad;obtain⟨cur1,e1,-⟩:=h.cut;obtain⟨cur5,e5,-⟩:=h.mad;obtain⟨l1,l2,l3,l4,l5⟩:=h.low
 exact {
  hp:=h.hq
  pars:=fun j x hx=>by
   obtain⟨b,o,a1,a2,⟨cs,fr,a3⟩,a4⟩:=h.pars j x hx;exact⟨b,o,a1,⟨a2,blk_lt a3⟩,⟨cs,fr,a3⟩,a4⟩
  cut:=hc
  mad:=hd
  things:=by
   rw [<- hlen];exact h.things.congr fun key kl hk=>thV_all hall (fun r hr=>h.sub r hr) key
  facets:=hfac.congr fun key kl hk=>faV_all hM hall key
  fnle:=by omega
  blk:=fun r t ht=>⟨(h.blk r t (hall r t ht) ht).1,⟨(h.blk r t (hall r t ht) ht).2,blk_lt (h.blk r t (hall r t ht) ht).1⟩,(light r t ht).of_blocks (fun b cs e fr hF _ _=>hF.elim) (fun b hF=>hF.elim)⟩
  inj:=fun r r' t t' ht ht' e=>h.inj r r' (hall r t ht) (hall r' t' ht') e
  own:=⟨⟨l1,blk_lt h.hq⟩,⟨l2,blk_lt e1⟩,⟨l3,blk_lt e5⟩,⟨l4,h.things.lt⟩,⟨l5,hfac.lt⟩⟩
  tf:=h.ne
  lt:=fun b hb=>hb.2
  ok:=hM }
end
end
end Go.Proofs.YthaliljaglldjaaGreat
