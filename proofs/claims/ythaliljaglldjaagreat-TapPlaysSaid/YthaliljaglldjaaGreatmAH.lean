/- Part of the proof. -/
import Derived.Test.YthaliljaglldjaaGreatmAG
import Derived.ArgAppend
import Derived.Laws.AppendOwnNone
namespace Go.Proofs.YthaliljaglldjaaGreat
open Go.RowKit Go.ChangeMaps Go.MapKept
section
theorem step_g {P:Program} {Q:Exit->Act->World->Prop} {R:World->World->Prop} {Φ:Value->World->Prop} {o:Oper} {a:Act} {w w':World} (v:Value) (hrun:(execOp a.eval o).run P w=.ok (.value v) w') (hR:R w w') (hφ:Φ (o.dst.elim undef fun _=>v) w') :
 o.wp P a w (fun a' w'=>∃ v,a'=a.put o.dst v/\R w w'/\Φ (o.dst.elim undef fun _=>v) w') Q:=by
 unfold Oper.wp;rw [hrun];exact⟨v,rfl,hR,hφ⟩
theorem infoInt':(Tryz.prog.info? 3).map (fun i=>(i.zero,i.size,i.bytes))=some (some (.int .i64 0),1,8):=by kernel_rfl
def yV (B:Nat):Value:=.func (.func 265) #[] #[.pointer (some ⟨B,0,none⟩)]
def WalkC (n:Nat):Prop:=∀ (v:Val) (raw:Value) (w:World) (F:Nat->Prop) (base B m:Nat) (out:List Int) (pl:Value),depV n v->(∀ b,F b->b<base)->SlAt w F raw v.l->PlAt w pl m->m+n≤100->base≤B->RowBox w base B out->out.length+(refsN n v).length≤100000 ->
 Calls Tryz.prog 264 #[.agg (vcs v raw),pl,yV B] w fun e w'=>e=.returned (.bool true)/\RowBox w' base B (out ++ refsN n v)/\Below base w w'/\RefFr w w'
end
section
structure Lies (w:World) (F:Nat->Prop) (t:Th):Prop where
 v:SlAt w F t.vl t.v.l
 vs:SlAt w F t.vals t.vs
 code:t.code=.slice none 0 0
 names:t.names=.slice none 0 0
theorem Deep.lies {w:World} {F:Nat->Prop} {t:Th} (h:Deep w F t):Lies w F t:=⟨h.v.at,h.vs.at,h.code,h.names⟩
theorem append_refs {w:World} {ops:Array Oper} {rest:List Oper} {o:Oper} {a:Act} {Q:Exit->Act->World->Prop} (hgd:o.guard=none) (s x:Operand)
 (ho:o.op=.call { callee:=.builtin .append,args:=#[s,x],argTypes:=#[77,77] }) (base:Nat) (v u:Value) (l m:List Int) (hs:a.eval s=v) (hx:a.eval x=u)
 (hown:w.ownsRow base 25 1 v l.length (l.map (Value.int .i64))) (B:Nat) (hnew:w.ownsRow B 25 1 u m.length (m.map (Value.int .i64))) (hn:l.length+m.length≤1000000) (hbase:base≤w.heap.size)
 (h:∀ v' w',w'.ownsRow base 25 1 v' (l ++ m).length ((l ++ m).map (Value.int .i64))->Below base w w'->wpList Tryz.prog ops Q rest (a.put o.dst v') w'):wpList Tryz.prog ops Q (o :: rest) a w:=by
 obtain⟨i,hi,hz,h1,h2⟩:=info_parts infoRef
 rcases hnew with ⟨hl,⟨rfl,h0⟩ | ⟨g,cap,cur,rfl,hg,hb,hc,hm,hcs,ht⟩⟩
 ·have hm0:m = []:=List.length_eq_zero_iff.1 h0;subst hm0;refine wpList_append_own_none hgd s x 77 ho base 25 i 1 Tryz.underlying77 hi v l.length _ hs hown hx ?_;exact h v w (by simpa using hown) (Below.refl _ _)
 ·refine wpList_append_own _ hgd s x 77 ho base 25 i (.int .i64 0) 1 8 Tryz.underlying77 hi hz h1 h2 rfl (by decide) v l.length _ hs hown ⟨g,0,none⟩ m.length cap (m.map (Value.int .i64)) hx (by simp) (fun j y hj=>?_) (fun y hy=>?_) (by unfold maxLen;omega) (by omega) hbase ?_
  ·rw [show (⟨g,0,none⟩:Addr).add j=⟨g,j,none⟩ by rw [Addr.add_lit,Nat.zero_add],cell_blk hb,← Array.getElem?_toList];rw [<- ht,List.getElem?_take]at hj;split at hj
   ·exact hj
   ·cases hj
  ·simp only [List.mem_map]at hy;obtain⟨z,-,rfl⟩:=hy;rfl
  ·intro v' w' r1 r2 _;exact h v' w' (by simpa using r1) ⟨r2.os,r2.tape,r2.output,r2.size,fun k hk=>r2.block k (by omega) (fun e=>by have:=hown.lt k e.symm;omega)⟩
theorem row_mono {w:World} {base base' s n:Nat} {e:TypeId} {v:Value} {xs:List Value} (h:w.ownsRow base e s v n xs) (hb:base'≤base):w.ownsRow base' e s v n xs:=by
 obtain⟨h1,h2⟩:=h;refine⟨h1,?_⟩
 rcases h2 with h2 | ⟨g,cap,cur,h3,h4,h5⟩
 ·exact .inl h2
 ·exact .inr ⟨g,cap,cur,h3,by omega,h5⟩
theorem row_on {w w':World} {base s n:Nat} {e:TypeId} {v:Value} {xs:List Value} (h:w.ownsRow base e s v n xs) (hb:Bl w w'):w'.ownsRow base e s v n xs:=by
 obtain⟨h1,h2⟩:=h;refine⟨h1,?_⟩
 rcases h2 with h2 | ⟨g,cap,cur,h3,h4,h5,h6⟩
 ·exact .inl h2
 ·exact .inr ⟨g,cap,cur,h3,h4,below_blk hb h5,h6⟩
variable {w:World} {p:Nat} {M:WM} {F:Nat->Prop}
end
end Go.Proofs.YthaliljaglldjaaGreat
