/- Part of the proof. -/
import Derived.Test.YthaliljaglldjaaGreatmBE
namespace Go.Proofs.YthaliljaglldjaaGreat
set_option maxHeartbeats 16000000
set_option maxRecDepth 20000
open Go.RowKit Go.ChangeMaps Go.MapKept
section
structure Alike (N1 N2:WM):Prop where
 par:N2.parents=N1.parents
 last:N2.last=N1.last
 made:N2.made=N1.made
 things:LikeT N1.things N2.things
theorem LikeT.two {l l1 l' l2:List (Int × Th)} (h:LikeT l l') (h1:LikeT l l1) (h2:LikeT l' l2) {i:Nat} {x:Int × Th} (hx:l1[i]? = some x):∃ vl vals,l2[i]? = some (x.1,{ x.2 with vl:=vl,vals:=vals }):=by
 have hi:i<l.length:=by have:=ji hx;have:=h1.1;omega
 obtain⟨vl,vals,e1⟩:=h1.2 i _ (List.getElem?_eq_getElem hi);rw [hx]at e1
 cases e1
 obtain⟨vl',vals',e2⟩:=h.2 i _ (List.getElem?_eq_getElem hi);obtain⟨vl2,vals2,e3⟩:=h2.2 i _ e2;exact⟨vl2,vals2,e3⟩
def ThLike (t t':Th):Prop:=∃ vl vals,t' = { t with vl:=vl,vals:=vals }
theorem LikeT.nil:LikeT [] []:=⟨rfl,fun i x h=>by simp at h⟩
theorem LikeT.snoc1 {l l':List (Int × Th)} (h:LikeT l l') {r:Int} {t t':Th} (ht:ThLike t t'):LikeT (l ++ [(r,t)]) (l' ++ [(r,t')]):=by
 obtain⟨h1,h2⟩:=h;refine⟨by simp [h1],fun i x hx=>?_⟩
 by_cases hi:i<l.length
 ·rw [List.getElem?_append_left hi]at hx;obtain⟨vl,vals,e⟩:=h2 i x hx;exact⟨vl,vals,by rw [List.getElem?_append_left (by omega)];exact e⟩
 ·have hlt:=ji hx;simp at hlt;have e:i=l.length:=by omega
  subst e;simp at hx;subst hx;obtain⟨vl,vals,rfl⟩:=ht;exact⟨vl,vals,by rw [<- h1];simp⟩
theorem bO:∀ {l l':List (Int × Th)},LikeT l l'->∀ r,(l.lookup r=none->l'.lookup r=none)/\∀ t,l.lookup r=some t->∃ t',l'.lookup r=some t'/\ThLike t t'
 | [],l',h,r=>by
   have:l' = []:=List.length_eq_zero_iff.1 h.1;subst this;exact⟨fun _=>rfl,fun t h=>by cases h⟩
 | (k,u) :: l,l',h,r=>by
   obtain⟨vl,vals,e⟩:=h.2 0 (k,u) rfl
   cases l' with
   | nil=>simp at e
   | cons y l' =>
     simp at e;subst e
     have h':LikeT l l':=⟨by have:=h.1;simpa using this,fun i x hx=>by
      have:=h.2 (i+1) x (by simpa using hx)
      simpa using this⟩
     by_cases hr:r=k
     ·subst hr;exact⟨fun h=>by simp at h,fun t ht=>⟨{ u with vl:=vl,vals:=vals },by simp,by simp at ht;subst ht;exact⟨_,_,rfl⟩⟩⟩
     ·have hb:(r==k)=false:=by simpa using hr
      rw [List.lookup_cons,List.lookup_cons,hb];exact bO h' r
theorem Alike.at {M N:WM} (h:Alike M N) (r:Int):(N.at r).isSome=(M.at r).isSome:=by
 obtain⟨h1,h2⟩:=bO h.things r
 cases hm:M.at r with
 | none =>
   have:N.at r=none:=h1 hm;rw [this]
 | some t =>
   obtain⟨t',ht,-⟩:=h2 t hm;have:N.at r=some t':=ht;rw [this];rfl
theorem Alike.known {M N:WM} (h:Alike M N) (v:Val):knownB N v=knownB M v:=by
 unfold knownB
 congr 1
 funext r
 exact h.at r
theorem Alike.mayE {M N:WM} (h:Alike M N) (a:Int) (v:Val):mayE N a v=mayE M a v:=by
 unfold Go.Proofs.YthaliljaglldjaaGreat.mayE;rw [h.known,h.made]
theorem Alike.add {M N:WM} (h:Alike M N) {t t':Th} (ht:ThLike t t'):Alike (M.add t) (N.add t') where
 par:=h.par
 last:=by show N.last+1=M.last+1;rw [h.last]
 made:=by
  obtain⟨vl,vals,rfl⟩:=ht;show (if t.kind=14 then N.made else N.made.set t.home.toNat (N.made.getD t.home.toNat 0+1))=(if t.kind=14 then M.made else M.made.set t.home.toNat (M.made.getD t.home.toNat 0+1))
  rw [h.made]
 things:=by
  show LikeT (M.things ++ [(M.last+1,t)]) (N.things ++ [(N.last+1,t')]);rw [h.last];exact h.things.snoc1 ht
theorem LikeT.mem' {l l':List (Int × Th)} (h:LikeT l l') {y:Int × Th} (hy:y ∈ l'):∃ x ∈ l,y.1=x.1/\ThLike x.2 y.2:=by
 obtain⟨i,hi⟩:=List.mem_iff_getElem?.1 hy;have hlt:=ji hi;have hlt':i<l.length:=by rw [<- h.1];exact hlt
 obtain⟨vl,vals,e⟩:=h.2 i _ (List.getElem?_eq_getElem hlt');rw [hi]at e;injection e with e
 exact⟨l[i],List.getElem_mem hlt',by rw [e],vl,vals,by rw [e]⟩
end
section
theorem pz {w:World} {ops:Array Oper} {rest:List Oper} {o:Oper} {a:Act} {Q:Exit->Act->World->Prop} (hgd:o.guard=none) (s x:Operand) (t e:TypeId) (z:Value) (bytes:Nat)
 (ho:o.op=.call { callee:=.builtin .append,args:=#[s,x],argTypes:=#[t,t] }) (ht:Tryz.prog.underlying t=some (.slice e)) (hinfo:(Tryz.prog.info? e).map (fun i=>(i.zero,i.size,i.bytes))=some (some z,1,bytes)) (hzs:z.cells.size=1) (hb:bytes≤64)
 (A:Addr) (c n:Nat) (vs:List Value) (hs:a.eval s=.slice (some ⟨w.heap.size,0,none⟩) 0 0) (hn:Hid (n=vs.length)) (hx:a.eval x=.slice (some A) n c) (hc:Hid (∀ (j:Nat) (v:Value),vs[j]? = some v->w.cell? (A.add j)=some v)) (h1:Hid (∀ v ∈ vs,v.oneCell'=true)) (hl:Hid (vs.length≤16))
 (h:∀ v' w',Hid (w'.ownsRow w.heap.size e 1 v' n vs)->Hid (Bl w w')->wpList Tryz.prog ops Q rest (a.put o.dst v') w'):wpList Tryz.prog ops Q (o :: rest) a (w.alloc (.cells #[] e)):=by
 obtain⟨i,hi,hz,h2,h3⟩:=info_parts hinfo;have hl:=hl.out;have hn:=hn.out;have hb2:vs.length * bytes≤16 * 64:=Nat.mul_le_mul hl hb
 refine wpList_append_own _ hgd s x t ho w.heap.size e i z 1 bytes ht hi hz h2 h3 hzs (by decide) (.slice (some ⟨w.heap.size,0,none⟩) 0 0) 0 [] hs
  ⟨by simp,.inr ⟨w.heap.size,0,#[],rfl,aH,ai _ _,by omega,by unfold maxLen;omega,by simp,by simp⟩⟩ A n c vs hx (by omega)
  (fun j u hu=>gk (hc.out j u hu) _) h1.out (by unfold maxLen;omega) (by rw [hn,Nat.zero_add];omega) (by simp) ?_
 intro v' w' r1 r2 _;have hg:w.grownBy w' (Value.slice (some ⟨w.heap.size,0,none⟩) 0 0).ownBlock:=(World.grownBy_alloc w _ _).trans r2;refine h v' w' (by show World.ownsRow _ _ _ _ _ _ _;simpa using r1) ⟨hg.os,hg.tape,hg.output,hg.size,fun k hk=>hg.block k (by omega) (fun e=>?_)⟩;simp [Value.ownBlock]at e;omega
theorem pH (w:World) (b c n:Nat) (vs:List Value) (hn:n=vs.length) (hx:∀ (j:Nat) (v:Value),vs[j]? = some v->w.cell? ⟨b,j,none⟩=some v) (h1:∀ v ∈ vs,v.oneCell'=true) (hl:vs.length≤16) :
 Calls Tryz.prog 111 #[.slice (some ⟨b,0,none⟩) n c] w fun e w'=>∃ v,e=.returned v/\w'.ownsRow w.heap.size 3 1 v n vs/\Bl w w':=by
 have Hx:Hid (∀ (j:Nat) (v:Value),vs[j]? = some v->w.cell? ((⟨b,0,none⟩:Addr).add j)=some v):=fun j v h=>by
  have hadd:(⟨b,0,none⟩:Addr).add j=⟨b,j,none⟩:=by unfold Addr.add;split <;> simp_all
  rw [hadd];exact hx j v h
 have Hn:Hid (n=vs.length):=hn;have H1:Hid _:=h1;have Hl:Hid (vs.length≤16):=hl;clear hn hx h1 hl
 go_enter Tryz.func111,Tryz.ntmps111
 go_wp2_with (at_builtin;refine pz rfl _ _ 64 3 (J 0) 8 rfl Tryz.underlying64 iM rfl (by decide) ⟨b,0,none⟩ c n vs rfl Hn rfl Hx H1 Hl ?_;intro v w1 HV HB1)
 go_ret
 exact⟨v,rfl,HV.out,HB1.out⟩
theorem mX {w:World} {p:Nat} {M:WM} {F:Nat->Prop} {pa:Option Addr} {pc cg cc mg mc tb fb fn:Nat} {bl:Int->Nat} (hV:WV w p M F pa pc cg cc mg mc tb fb fn bl) (w0 w1:World) (h0:w0.heap.size≤w1.heap.size) (hb:Bl w w1) :
 Calls Tryz.prog 72 #[.slice pa M.parents.length pc] w1 fun e w'=>∃ v,e=.returned v/\NSides w0 M.parents v w'/\Bl w1 w':=by
 have hs:=hV.ok.sides
 cases pa with
 | none =>
   have hp:M.parents = []:=by
    match hM:M.parents with
    | []=>rfl
    | x :: l =>
      obtain⟨b,o,h,-⟩:=hV.pars 0 x (by rw [hM];rfl)
      cases h
   rw [hp];refine(fh w1 _ pc).mono ?_;rintro e _ ⟨rfl,rfl⟩;exact⟨_,rfl,⟨none,0,rfl,fun j x hx=>by simp at hx⟩,br⟩
 | some A =>
   refine(dY w1 A pc M.parents (fun j x hx=>?_) hs).mono ?_
   ·obtain⟨b,o,h1,h2,-,h4⟩:=hV.pars j x hx
    cases h1
    have hadd:(⟨b,o,none⟩:Addr).add j=⟨b,o+j,none⟩:=by unfold Addr.add;split <;> simp_all
    rw [hadd];exact(hb.cell (p:=⟨b,o+j,none⟩) (hV.lt b h2)).trans h4
   ·rintro e w2 ⟨v,rfl,hv,hb2⟩;exact⟨v,rfl,gL hv h0,hb2⟩
def CRow (w0:World) (e:TypeId) (vs:List Value) (v:Value) (w:World):Prop :=
 ∃ g cap,v=.slice (some ⟨g,0,none⟩) vs.length cap/\w0.heap.size≤g/\g<w.heap.size/\Row w g e cap vs
theorem CRow.move {w0:World} {e:TypeId} {vs:List Value} {v:Value} {w w':World} (h:CRow w0 e vs v w) (hb:Bl w w'):CRow w0 e vs v w':=by
 obtain⟨g,cap,h1,h2,h3,h4⟩:=h;exact⟨g,cap,h1,h2,Nat.lt_of_lt_of_le h3 hb.size,h4.of_block (hb.block g h3)⟩
theorem CRow.of {w0 w1 w2:World} {e:TypeId} {vs:List Value} {v:Value} (h0:w0.heap.size≤w1.heap.size) (hn:0<vs.length) (hv:w2.ownsRow w1.heap.size e 1 v vs.length vs):CRow w0 e vs v w2:=by
 obtain⟨-,⟨rfl,h⟩ | ⟨g,cap,cur,rfl,h1,h2,h3,h4,h5,h6⟩⟩:=hv
 ·omega
 ·refine⟨g,cap,rfl,by omega,aw h2,cur,h2,by omega,h3,h4,fun j x hx=>?_⟩;have hj:=ji hx;have e1:(cur.toList.take (vs.length * 1))[j]? = some x:=by rw [h6];exact hx
  rw [List.getElem?_take,if_pos (by omega)]at e1
  simpa using e1
end
section
section
variable {w0 w w':World} {q:Nat} {M:WM} {pa:Option Addr} {pc g1 cap1 b2 b3 g5 cap5:Nat} {vs:List Int} {bl:Int->Nat}
end
end
section
theorem aB {α:Type} {l:List α} {n:Nat} (h:l.length=n+1):∃ x t,l=x :: t/\t.length=n:=by
 match l,h with
 | x :: t,h=>exact⟨x,t,rfl,by simpa using h⟩
theorem cy {P:Program} {Q:Exit->Act->World->Prop} {R:World->World->Prop} {Φ:Value->World->Prop} {o:Oper} {a:Act} {w w':World} (c:Bool) (v:Value) (hrun:(execOp a.eval o).run P w=.ok (.value v) w') (hR:R w w') (hφ:Φ (o.dst.elim undef fun _=>v) w')
 (hc:c=true->o.dst.isSome=true/\∃ b,dB v=some b/\w.heap.size≤b/\b<w'.heap.size) :
 o.wp P a w (fun a' w'=>∃ v,a'=a.put o.dst v/\R w w'/\Φ (o.dst.elim undef fun _=>v) w'/\(c=true->o.dst.isSome=true/\∃ b,dB v=some b/\w.heap.size≤b/\b<w'.heap.size)) Q:=by
 unfold Oper.wp;rw [hrun];exact⟨v,rfl,hR,hφ,hc⟩
end
end Go.Proofs.YthaliljaglldjaaGreat
