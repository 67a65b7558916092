/- Part of the proof. -/
import Derived.ProofKit
import Derived.OpenShut
import Derived.ChangeSame
import Derived.ChangeSlices
import Derived.Carry
import Derived.RowKit
import Derived.Test.YthaliljaglldjaaGreatmBF
import Derived.Deep.AppendLies
import Derived.Deep.RegionLaw
namespace Go.Proofs.YthaliljaglldjaaGreat
set_option maxHeartbeats 16000000
set_option maxRecDepth 100000
open Go.ChangeShapes Go.WideShapes Go.ChangeAt Go.RowKit
section
def eD (k:IntKind) (w:World) (pa:Option Addr) (xs:List Int):Prop :=
 xs = []\/∃ b o,pa=some ⟨b,o,none⟩/\b<w.heap.size/\∀ (j:Nat) (x:Int),xs[j]? = some x->w.cell? ⟨b,o+j,none⟩=some (.int k x)
end
end Go.Proofs.YthaliljaglldjaaGreat
namespace Go.Proofs.YthaliljaglldjaaGreat
set_option maxHeartbeats 16000000
set_option maxRecDepth 100000
open Go.RowKit Go.ChangeMaps Go.MapKept
section
theorem oU:(Tryz.prog.info? 67).map (·.size)=some 5:=by kernel_rfl
def zJ (a:Value):Sem Next:=do pure (.value (← Instr.loadAt 67 a))
def zt (a x:Value):Sem Next:=do Instr.storeAt 67 a x;pure .skip
@[go_sem ↓] theorem execOp_ldA (ρ:Operand->Value) (d:Option Tmp) (a:Operand) (ty:TypeId) (pos:String) (af:Array Edge) (g:Option (Nat × Bool)) :
 execOp ρ { dst:=d,op:=.load 67 a,type:=ty,pos:=pos,after:=af,guard:=g } = zJ (ρ a):=rfl
@[go_sem ↓] theorem execOp_stA (ρ:Operand->Value) (d:Option Tmp) (a x:Operand) (ty:TypeId) (pos:String) (af:Array Edge) (g:Option (Nat × Bool)) :
 execOp ρ { dst:=d,op:=.store 67 a x,type:=ty,pos:=pos,after:=af,guard:=g } = zt (ρ a) (ρ x):=rfl
theorem qX {w:World} {b:Nat} {cs:Array Value} {fr:Nat × Nat} (hg:w.heap[b]? = some (.cells cs 67 fr)) (hs:cs.size=5):(zJ (P_ b)).run Tryz.prog w=.ok (.value (.agg cs)) w:=by
 have:=cA hg Tryz.underlying67 rfl (by rw [hs];exact oU);simp only [zJ,Sem.run_bind,this,Result.andThen,Sem.run_pure]
theorem jk {w:World} {b:Nat} {c c':Array Value} (hg:w.heap[b]? = some (.cells c 67 (0,0))) (hs:c.size=5) (hs':c'.size=5) (h1:c'.all (·.oneCell')=true) :
 (zt (P_ b) (.agg c')).run Tryz.prog w=.ok .skip (w.setRow b c'):=by
 have:=bI (P:=Tryz.prog) hg (by rw [hs'];exact oU) (by rw [hs,hs']) h1;simp only [zt,Sem.run_bind,this,Result.andThen,Sem.run_pure]
theorem vH {P:Program} {Q:Exit->Act->World->Prop} {o:Oper} {a:Act} {w w':World} (hrun:(execOp a.eval o).run P w=.ok .skip w') (hd:o.dst=none) (hq:Q .normal a w'):o.wp P a w (fun a' w'=>Q .normal a' w') Q:=by
 unfold Oper.wp;rw [hrun];show Q .normal (a.put o.dst undef) w';rw [hd];exact hq
def TPhi (w0:World) (p:Nat) (M:WM) (pa:Option Addr) (pc mg mc:Nat) (i:Nat) (v:Value) (w:World):Prop :=
 match i with
 | 0 | 1 | 2 | 5 | 6 | 9 | 10=>v=P_ p
 | 3=>v=.slice pa M.parents.length pc
 | 4=>NSides w0 M.parents v w
 | 7=>v=R_ p 4
 | 8=>v=J M.last
 | 11=>v=R_ p 5
 | 12=>v=.slice (some ⟨mg,0,none⟩) M.made.length mc
 | 13=>CRow w0 3 (M.made.map (Value.int .i64)) v w
 | 14=>∃ v0 v4,v=.agg #[v0,S_,S_,J M.last,v4]/\NSides w0 M.parents v0 w/\CRow w0 3 (M.made.map (Value.int .i64)) v4 w
 | 15=>∃ q,v=P_ q/\w0.heap.size+1≤q/\w.heap[q]? = some (.cells #[S_,S_,S_,J 0,S_] 67 (0,0))
 | _=>True
theorem TPhi.stab {w0:World} {p:Nat} {M:WM} {pa:Option Addr} {pc mg mc:Nat}:∀ (i:Nat) (v:Value) (w w':World),Bl w w'->TPhi w0 p M pa pc mg mc i v w->TPhi w0 p M pa pc mg mc i v w':=by
 intro i v w w' hR h;unfold TPhi at h ⊢
 split at h <;> first
  | exact h
  | exact NSides.move h hR
  | exact CRow.move h hR
  | (obtain⟨v0,v4,h0,h1,h2⟩:=h
     exact⟨v0,v4,h0,h1.move hR,h2.move hR⟩)
  | (obtain⟨q,h0,hq,hb⟩:=h
     exact⟨q,h0,hq,ae hR hb⟩)
  | trivial
structure TS0 (w0 w1:World) (b0 q:Nat) (M:WM) (v0 v4:Value):Prop where
 ql:w0.heap.size+1≤q/\q<b0
 hb0:b0≤w1.heap.size
 below:Bl w0 w1
 r0:w1.heap[w0.heap.size]? = some (.cells #[S_,S_,S_,J 0,S_] 67 (0,0))
 s:∃ pa pc,v0=.slice pa M.parents.length pc/\∀ w',(∀ b,b<b0->b≠q->b≠w0.heap.size->w'.heap[b]? = w1.heap[b]?)->b0≤w'.heap.size->eD .i64 w' pa M.parents
 m:∃ pa pc,v4=.slice pa M.made.length pc/\∀ w',(∀ b,b<b0->b≠q->b≠w0.heap.size->w'.heap[b]? = w1.heap[b]?)->b0≤w'.heap.size->eD .i64 w' pa M.made
theorem TS0.of {w0 w1:World} {q:Nat} {M:WM} {v0 v4:Value} (hq:w0.heap.size+1≤q) (hb:Bl w0 w1) (hr:w1.heap[w0.heap.size]? = some (.cells #[S_,S_,S_,J 0,S_] 67 (0,0)))
 (hqb:w1.heap[q]? = some (.cells #[S_,S_,S_,J 0,S_] 67 (0,0))) (h0:NSides w0 M.parents v0 w1) (h4:CRow w0 3 (M.made.map (Value.int .i64)) v4 w1) (xs:Array Value) :
 TS0 w0 (w1.setRow q xs) w1.heap.size q M v0 v4:=by
 have hset:∀ b,b≠q->(w1.setRow q xs).heap[b]? = w1.heap[b]?:=fun b hb=>by
  simp [World.setRow,Array.getElem?_modify,Ne.symm hb]
 have hsz:(w1.setRow q xs).heap.size=w1.heap.size:=by simp [World.setRow]
 obtain⟨pa,pc,rfl,hs⟩:=h0;obtain⟨g,cap,rfl,hg0,hg1,cur,hc1,hc2,hc3,hc4,hc5⟩:=h4;refine⟨⟨hq,aw hqb⟩,by rw [hsz];exact aH,Below.setRow hb (by omega) _,(hset _ (by omega)).trans hr,⟨pa,pc,rfl,fun w' hk hz=>?_⟩,⟨some ⟨g,0,none⟩,cap,by simp,fun w' hk hz=>?_⟩⟩
 ·by_cases hp:M.parents = []
  ·exact .inl hp
  ·right
   obtain⟨x,hx⟩:=List.exists_mem_of_ne_nil _ hp;obtain⟨j,hj⟩:=List.mem_iff_getElem?.1 hx;obtain⟨b,o,e,h1,h2,⟨cs,fr,h3⟩,-⟩:=hs j x hj;have hbq:b≠q:=fun e=>by rw [e,hqb]at h3;cases h3
   have hb0:b≠w0.heap.size:=fun e=>by rw [e,hr]at h3;cases h3
   refine⟨b,o,e,Nat.lt_of_lt_of_le h2 hz,fun j x hx=>?_⟩;obtain⟨b',o',e',-,-,-,h4⟩:=hs j x hx;rw [e]at e'
   cases e'
   exact(World.cell?_of_block (a:=⟨b,o+j,none⟩) ((hk b h2 hbq hb0).trans (hset b hbq))).trans h4
 ·right
  have hgq:g≠q:=fun e=>by rw [e,hqb]at hc1;cases hc1
  have hg0':g≠w0.heap.size:=fun e=>by rw [e,hr]at hc1;cases hc1
  refine⟨g,0,rfl,Nat.lt_of_lt_of_le hg1 hz,fun j x hx=>?_⟩;rw [ag (((hk g hg1 hgq hg0').trans (hset g hgq)).trans hc1),Nat.zero_add];exact hc5 j _ (by rw [List.getElem?_map,hx];rfl)
theorem fz (W:World) (b i:Nat) (v:Value):W.grownBy (W.setCell ⟨b,i,none⟩ v) (some b) :=
 ⟨rfl,rfl,rfl,by simp [World.setCell],fun k _ hk=>Below.heap_setCell _ _ _ k (fun e=>hk (by rw [e]))⟩
theorem oA {w:World} {base base' n n' s s':Nat} {e e':TypeId} {v v':Value} {xs xs':List Value} (hne:e≠e') (h:w.ownsRow base e s v n xs) (h':w.ownsRow base' e' s' v' n' xs'):v.ownBlock=none\/v.ownBlock≠v'.ownBlock:=by
 rcases h.2 with ⟨rfl,-⟩ | ⟨g,cap,cur,rfl,-,hb,-⟩
 ·exact .inl rfl
 ·right
  rcases h'.2 with ⟨rfl,-⟩ | ⟨g',cap',cur',rfl,-,hb',-⟩
  ·simp [Value.ownBlock]
  ·simp only [Value.ownBlock,ne_eq,Option.some.injEq];rintro rfl;rw [hb]at hb'
   cases hb'
   exact hne rfl
theorem po {w:World} {base n s q:Nat} {e:TypeId} {v:Value} {xs:List Value} (h:w.ownsRow base e s v n xs) (hq:q<base):v.ownBlock=none\/v.ownBlock≠some q:=by
 rcases h.2 with ⟨rfl,-⟩ | ⟨g,cap,cur,rfl,hg,-⟩
 ·exact .inl rfl
 ·right
  simp only [Value.ownBlock,ne_eq,Option.some.injEq];omega
theorem sf (w:World) (cs:List Value) (e:TypeId) (j:Nat) (u:Value) (h:cs[j]? = some u):(w.alloc (.cells cs.toArray e)).cell? ((⟨w.heap.size,0,none⟩:Addr).add j)=some u:=by
 have hadd:(⟨w.heap.size,0,none⟩:Addr).add j=⟨w.heap.size,j,none⟩:=by unfold Addr.add;split <;> simp_all
 rw [hadd,ag (ai w _)]
 simpa using h
theorem gP {w w':World} {base s n:Nat} {e:TypeId} {v:Value} {xs:List Value} (h:w.ownsRow base e s v n xs) (hb:Bl w w'):w'.ownsRow base e s v n xs :=
 h.kept (row:=none) ⟨hb.os,hb.tape,hb.output,hb.size,fun k hk _=>hb.block k hk⟩ (by cases v.ownBlock <;> simp)
theorem se {W:World} {base n:Nat} {e:TypeId} {v:Value} {xs:List Value} (h:W.ownsRow base e 1 v n xs) :
 ∃ a cap,v=.slice a n cap/\∀ k,k<n->∃ g,a=some ⟨g,0,none⟩/\base≤g/\g<W.heap.size/\W.cell? ⟨g,k,none⟩=xs[k]?:=by
 rcases h.2 with ⟨rfl,h0⟩ | ⟨g,cap,cur,rfl,h1,h2,-⟩
 ·subst h0;exact⟨none,0,rfl,fun k hk=>by omega⟩
 ·exact⟨_,cap,rfl,fun k hk=>⟨g,rfl,h1,aw h2,h.cellAt k (by omega)⟩⟩
theorem ch {k:IntKind} {w w':World} {pa:Option Addr} {xs:List Int} (h:eD k w pa xs) (hb:Bl w w'):eD k w' pa xs:=by
 rcases h with h | ⟨b,o,h1,h2,h3⟩
 ·exact .inl h
 ·exact .inr ⟨b,o,h1,Nat.lt_of_lt_of_le h2 hb.size,fun j x hx=>(hb.cell (p:=⟨b,o+j,none⟩) h2).trans (h3 j x hx)⟩
theorem fc {w:World} {base:Nat} {e:TypeId} {v:Value} {xs:List Int} (h:w.ownsRow base e 1 v xs.length (xs.map (Value.int .i64))):∃ pa cap,v=.slice pa xs.length cap/\eD .i64 w pa xs:=by
 obtain⟨a,cap,e,hc⟩:=se h;refine⟨a,cap,e,?_⟩
 match xs,hc with
 | [],_=>exact .inl rfl
 | x :: l,hc =>
   obtain⟨g,h1,h2,h3,-⟩:=hc 0 (by simp);refine .inr ⟨g,0,h1,h3,fun j y hy=>?_⟩;obtain⟨g',h1',-,-,h4⟩:=hc j (ji hy);rw [h1]at h1'
   cases h1'
   rw [Nat.zero_add,h4,List.getElem?_map,hy];rfl
end
section
structure TG (wA W:World) (b0 q:Nat) (M:WM) (v0 v4:Value) (k:Nat) (w:World):Prop where
 b:Bl wA w
 kp:∀ b,b<b0->b≠q->w.heap[b]? = W.heap[b]?
 sz:b0≤w.heap.size
 r:∃ vT l,w.heap[q]? = some (.cells #[v0,S_,vT,J M.last,v4] 67 (0,0))/\RowE w b0 (fun b=>b0≤b) vT l/\LikeT (M.things.take k) l
section
variable {wA W w w':World} {b0 q:Nat} {M:WM} {v0 v4:Value} {k:Nat}
theorem TG.below (h:TG wA W b0 q M v0 v4 k w) (hb:Bl w w'):TG wA W b0 q M v0 v4 k w':=by
 obtain⟨vT,l,h1,h2,h3⟩:=h.r;exact⟨h.b.trans (hb.mono h.b.size),fun b hb' hne=>(hb.block b (Nat.lt_of_lt_of_le hb' h.sz)).trans (h.kp b hb' hne),Nat.le_trans h.sz hb.size,vT,l,ae hb h1,h2.below hb,h3⟩
theorem TG.thing {vT v':Value} {l:List (Int × Th)} {x:Int × Th} {vl vals:Value} (h:TG wA W b0 q M v0 v4 k w) (hA:wA.heap.size≤q) (hq:q<b0) (hv:w.heap[q]? = some (.cells #[v0,S_,vT,J M.last,v4] 67 (0,0)))
 (hx:M.things[k]? = some x) (hE:RowE w' b0 (fun b=>b0≤b) v' (l ++ [(x.1,{ x.2 with vl:=vl,vals:=vals })])) (hL:LikeT (M.things.take k) l) (hk:Keeps (fun b=>b0≤b) w w'):TG wA W b0 q M v0 v4 (k+1) (w'.setCell ⟨q,2,none⟩ v'):=by
 have hAb:wA.heap.size≤b0:=by omega
 have hb:Bl wA w':=h.b.trans (hk.below h.b.size fun b hb=>Nat.le_trans hAb hb);have hv':=hk.none hv (by show ¬ b0≤q;omega);have hs:=aA hv' 2 v';have hks:=Keeps.setCell (S:=fun b=>b=q) w' ⟨q,2,none⟩ v' rfl;refine⟨hb.setCell (p:=⟨q,2,none⟩) hA _,fun b hb hne=>(Below.heap_setCell _ _ _ _ hne).trans ((hk.block b (Nat.lt_of_lt_of_le hb h.sz) (by show ¬ b0≤b;omega)).trans (h.kp b hb hne)),?_,v',_,hs,⟨ownsRow_keeps hE.row hks fun b hb e=>by have:=(hE.own b hb).1;omega,fun y hy=>((hE.deep y hy).keeps hks fun b hb _ e=>by have:=hb.1;omega).mono fun b hb=>hb.1⟩,?_⟩
 ·have:=h.sz;have:=hk.size;simp [World.setCell];omega
 ·rw [List.take_add_one,hx];exact hL.snoc
end
theorem mH {ops:Array Oper} {o:Oper} {a:Act} {w w5:World} {K:Act->World->Prop} {Q:Exit->Act->World->Prop} {E:Prop} {b0 n:Nat} {v:Value} {xs:List Value} {y:Int × Th} {s x:Operand} (hgd:o.guard=none)
 (ho:o.op=.call { callee:=.builtin .append,args:=#[s,x],argTypes:=#[65,65] }) (hs:a.eval s=v) (hx:a.eval x=.slice (some ⟨w5.heap.size,0,none⟩) 1 1) (hw:w=w5.alloc (.cells (bL y).toArray 117))
 (hown:w5.ownsRow b0 117 17 v n xs) (h1:∀ u ∈ bL y,u.oneCell'=true) (hn:n≤1000000) (hb:b0≤w5.heap.size)
 (h:∀ g cap w',w'.ownsRow b0 117 17 (.slice (some ⟨g,0,none⟩) (n+1) cap) (n+1) (xs ++ bL y)->(w5.alloc (.cells (bL y).toArray 117)).grownBy w' v.ownBlock->(v.ownBlock=some g\/g=w5.heap.size+1)->K (a.put o.dst (.slice (some ⟨g,0,none⟩) (n+1) cap)) w') :
 if Region.wanted o (yielded ops a.tmps)=true then Oper.wp Tryz.prog o a w K Q else E:=by
 subst hw;obtain⟨i,hi,hz,h2,h3⟩:=info_parts kT
 refine step_append_lies _ hgd s x 65 ho b0 117 i (.agg oP) 17 200 Tryz.underlyingLEntry hi hz h2 h3 rfl (by decide) v n xs hs (hown.alloc _) ⟨w5.heap.size,0,none⟩ 1 1 (bL y) hx rfl (sf w5 (bL y) 117) h1 (by decide) (by unfold maxLen;omega) (by omega) (by simp;omega) (w5.heap.size+1) (by simp)
  fun g cap w' r1 r2 r3 _=>h g cap w' r1 r2 r3
theorem TG.app {wA W w5 w6:World} {b0 q n g capg base m g6 cap6 k:Nat} {M:WM} {v0 v4 vT vl vals:Value} {l:List (Int × Th)} {x:Int × Th} {rs:List Value} {B5:Nat} (hm:l.length=m) (h:TG wA W b0 q M v0 v4 k w5) (hA:wA.heap.size≤q) (hq:q<b0) (hv:w5.heap[q]? = some (.cells #[v0,S_,vT,J M.last,v4] 67 (0,0))) (h3:RowE w5 b0 (fun b=>b0≤b) vT l) (hL:LikeT (M.things.take k) l) (hx:M.things[k]? = some x)
 (hD:DeepR w5 (fun b=>B5≤b) { x.2 with vl:=vl,vals:=vals }) (hB5:b0≤B5) (hown:∀ b,vT.ownBlock=some b->b<B5)
 (hR:w5.ownsRow base 25 1 (.slice (some ⟨g,0,none⟩) n capg) n rs) (hbase:b0≤base) (r1:w6.ownsRow b0 117 17 (.slice (some ⟨g6,0,none⟩) (m+1) cap6) (m+1) (bB l ++ bL (x.1,{ x.2 with vl:=vl,vals:=vals }))) (r2:(w5.alloc (.cells (bL (x.1,{ x.2 with vl:=vl,vals:=vals })).toArray 117)).grownBy w6 vT.ownBlock) (r3:vT.ownBlock=some g6\/g6=w5.heap.size+1) :
 TG wA W b0 q M v0 v4 (k+1) (w6.setCell ⟨q,2,none⟩ (.slice (some ⟨g6,0,none⟩) (m+1) cap6))/\(w6.setCell ⟨q,2,none⟩ (.slice (some ⟨g6,0,none⟩) (m+1) cap6)).ownsRow base 25 1 (.slice (some ⟨g,0,none⟩) n capg) n rs/\w6.cell? ⟨q,2,none⟩=some vT/\w6.frozen? ⟨q,2,none⟩=false:=by
 subst hm;have ha:Bl w5 (w5.alloc (.cells (bL (x.1,{ x.2 with vl:=vl,vals:=vals })).toArray 117)):=br.alloc aH _
 have hka:Keeps (fun b=>vT.ownBlock=some b) (w5.alloc (.cells (bL (x.1,{ x.2 with vl:=vl,vals:=vals })).toArray 117)) w6:=⟨r2.os,r2.tape,r2.output,r2.size,fun k hk hne=>r2.block k hk (fun e=>hne e.symm)⟩
 have h3a:=h3.below ha;have hDa:=hD.on ha
 have hE:RowE w6 b0 (fun b=>b0≤b) (.slice (some ⟨g6,0,none⟩) (l.length+1) cap6) (l ++ [(x.1,{ x.2 with vl:=vl,vals:=vals })]):=by
  refine h3a.more (y:=(x.1,{ x.2 with vl:=vl,vals:=vals })) (hDa.mono fun b hb=>⟨Nat.le_trans hB5 hb,fun e=>by have:=hown b e;omega⟩) (fun b hb=>hb) ?_ hka ?_
  ·rw [iW,List.length_append];exact r1
  ·rcases r3 with r3 | r3
   ·exact .inl (by rw [r3];rfl)
   ·exact .inr (by rw [r3];simp [Value.ownBlock])
 have hk6:Keeps (fun b=>b0≤b) w5 w6:=(Keeps.of_below ha).trans (hka.mono fun b _ e=>(h3.own b e).1) (fun _ _ h=>h) (fun _ _ h=>h);have hq6:=hk6.none hv (by show ¬ b0≤q;omega);refine⟨h.thing hA hq hv hx hE hL hk6,?_,by rw [ag hq6];rfl,av hq6 2⟩;exact((gP hR ha).kept r2 (oA (by decide) (gP hR ha) h3a.row)).kept (fz w6 q 2 _) (po hR (by omega))
def ToldG (M:WM) (v:Value) (w:World):Prop :=
 ∃ pP cP pT cT pM cM l,v=.agg #[.slice pP M.parents.length cP,S_,.slice pT l.length cT,J M.last,.slice pM M.made.length cM]/\eD .i64 w pP M.parents/\eD .i64 w pM M.made/\LikeT M.things l /\
   (∀ (i:Nat) (x:Int × Th),l[i]? = some x->∃ g,pT=some ⟨g,0,none⟩/\g<w.heap.size/\∀ k v,(bL x)[k]? = some v->w.cell? ⟨g,i * 17+k,none⟩=some v)/\∀ x ∈ l,DeepR w (fun b=>b<w.heap.size) x.2
theorem ToldG.below {M:WM} {v:Value} {w w':World} (h:ToldG M v w) (hb:Bl w w'):ToldG M v w':=by
 obtain⟨pP,cP,pT,cT,pM,cM,l,rfl,h1,h2,h3,h4,h5⟩:=h;refine⟨pP,cP,pT,cT,pM,cM,l,rfl,ch h1 hb,ch h2 hb,h3,fun i x hx=>?_,fun x hx=>((h5 x hx).on hb).mono fun b h=>Nat.lt_of_lt_of_le h hb.size⟩;obtain⟨g,e,hg,hc⟩:=h4 i x hx;exact⟨g,e,Nat.lt_of_lt_of_le hg hb.size,fun k v hv=>(World.cell?_of_block (a:=⟨g,i * 17+k,none⟩) (hb.block g hg)).trans (hc k v hv)⟩
theorem nA {w:World} {base:Nat} {G:Nat->Prop} {u:Value} {l:List (Int × Th)} (h:RowE w base G u l) :
 ∃ p c,u=.slice p l.length c/\∀ (i:Nat) (x:Int × Th),l[i]? = some x->∃ g,p=some ⟨g,0,none⟩/\g<w.heap.size/\∀ k v,(bL x)[k]? = some v->w.cell? ⟨g,i * 17+k,none⟩=some v:=by
 obtain⟨⟨h1,⟨rfl,h0⟩ | ⟨g,cap,cur,rfl,hg,hb,hc,hm,hcs,ht⟩⟩,-⟩:=h
 ·have:l = []:=List.length_eq_zero_iff.1 h0;subst this;exact⟨none,0,rfl,fun i x hx=>by simp at hx⟩
 ·refine⟨_,cap,rfl,fun i x hx=>⟨g,rfl,aw hb,fun k v hv=>?_⟩⟩;have h2:=jn hx hv;rw [<- ht,List.getElem?_take]at h2;split at h2
  ·rw [ag hb,← Array.getElem?_toList];exact h2
  ·cases h2
theorem kY {w:World} {base:Nat} {G:Nat->Prop} {u:Value} {l:List (Int × Th)} (h:RowE w base G u l):∀ x ∈ l,DeepR w (fun b=>b<w.heap.size) x.2:=fun x hx =>
 ⟨(SlAt.lt (h.deep x hx).v).mono fun _ h=>h.2,(SlAt.lt (h.deep x hx).vs).mono fun _ h=>h.2,(h.deep x hx).code,(h.deep x hx).names⟩
theorem Told7.toG {w:World} {B:Nat} {N:WM} {v:Value} (h:Told7 w B N v):ToldG N v w:=by
 obtain⟨sP,sT,sM,l,rfl,rP,rT,lk,rM⟩:=h;obtain⟨pP,cP,e1,h1⟩:=fc rP;obtain⟨pM,cM,e2,h2⟩:=fc rM;obtain⟨pT,cT,e3,h3⟩:=nA rT;subst e1 e2 e3;exact⟨pP,cP,pT,cT,pM,cM,l,rfl,h1,h2,lk,h3,kY rT⟩
theorem TG.told {w0 wA W w:World} {b0 q n:Nat} {M:WM} {v0 v4 vT:Value} {l:List (Int × Th)} (hT:TS0 w0 W b0 q M v0 v4) (h:TG wA W b0 q M v0 v4 n w) (hb:Bl w0 w) (hE:RowE w b0 (fun b=>b0≤b) vT l) (hL:LikeT M.things l) (xs:Array Value) :
 ToldG M (.agg #[v0,S_,vT,J M.last,v4]) (w.setRow w0.heap.size xs)/\Bl w0 (w.setRow w0.heap.size xs):=by
 have hset:∀ b,b≠w0.heap.size->(w.setRow w0.heap.size xs).heap[b]? = w.heap[b]?:=fun b hb=>by
  simp [World.setRow,Array.getElem?_modify,Ne.symm hb]
 have hsz:(w.setRow w0.heap.size xs).heap.size=w.heap.size:=by simp [World.setRow]
 have hkeep:∀ b,b<b0->b≠q->b≠w0.heap.size->(w.setRow w0.heap.size xs).heap[b]? = W.heap[b]?:=fun b hb hq h0=>(hset b h0).trans (h.kp b hb hq);have hk:Keeps (fun b=>b=w0.heap.size) w (w.setRow w0.heap.size xs):=⟨rfl,rfl,rfl,by rw [hsz];exact aH,fun k _ hk=>hset k hk⟩;have hlt:w0.heap.size<b0:=by have:=hT.ql;omega
 obtain⟨pa,pc,rfl,hs⟩:=hT.s;obtain⟨pd,cd,rfl,hm⟩:=hT.m;have hE':RowE (w.setRow w0.heap.size xs) b0 (fun b=>b0≤b) vT l:=⟨ownsRow_keeps hE.row hk fun b hb e=>by have:=(hE.own b hb).1;omega,fun y hy=>((hE.deep y hy).keeps hk fun b hb _ e=>by have:=hb.1;omega).mono fun b hb=>hb.1⟩;obtain⟨pT,cT,rfl,ht⟩:=nA hE';exact⟨⟨_,_,_,_,_,_,l,rfl,hs _ hkeep (by rw [hsz];exact h.sz),hm _ hkeep (by rw [hsz];exact h.sz),hL,ht,kY hE'⟩,Below.setRow hb aH _⟩
def vU (M:WM):Prop:=∀ r t,M.at r=some t->ay t.v=true/\(∀ v ∈ t.vs,ay v=true)/\t.vs.length≤1000
theorem yj {w:World} {p:Nat} {M:WM} {F:Nat->Prop} (hW:IsW w p M F) (light:vU M) (hcut:∀ x ∈ M.cuts,x=false) (hsm:M.things.length≤1000000) :
 Calls Tryz.prog 25 #[P_ p] w fun e w'=>∃ v,e=.returned v/\ToldG M v w'/\Bl w w':=by
 have hWA:=hW.below (w':=w.alloc (.cells #[S_,S_,S_,J 0,S_] 67)) (br.alloc aH _);have HWA:Hid _:=hWA;have HL:Hid (vU M):=light;have HCut:Hid (∀ x ∈ M.cuts,x=false):=hcut;obtain⟨pa,pc,cg,cc,mg,mc,tb,fb,fn,bl,hV⟩:=hWA;have HV:Hid _:=hV;have HA:Hid ((w.alloc (.cells #[S_,S_,S_,J 0,S_] 67)).heap[w.heap.size]? = some (.cells #[S_,S_,S_,J 0,S_] 67 (0,0))):=ai w _;have HBA:Hid (Bl w (w.alloc (.cells #[S_,S_,S_,J 0,S_] 67))):=br.alloc aH _;have HSA:Hid ((w.alloc (.cells #[S_,S_,S_,J 0,S_] 67)).heap.size=w.heap.size+1):=by show _=_;simp
 clear hW light hV hcut
 go_enter Tryz.func25,Tryz.ntmps25
 go_wp2_with fail
 refine(eF HWA.out).mono ?_;rintro e _ ⟨rfl,rfl⟩
 go_wp2_with fail
 revert HWA HV HA HBA HSA;generalize w.alloc _=wA;intro HWA HV HA HBA HSA;refine iA (by kernel_rfl) _ rfl (by kernel_rfl) (by kernel_rfl) (fun a b=>Bl a b) (TPhi w p M pa pc mg mc) (fun _=>false) (fun w'=>Bl wA w') (fun j v w w'=>TPhi.stab j v w w') (fun _ _ h=>h.size) below_drew (fun a b h hR=>h.trans (hR.mono h.size)) ?_ ?_
 ·intro i o a w1 ho hC hG;have hi:i<16:=ji ho;have hV:=HV.out.below hC;have hCw:w.heap.size≤w1.heap.size:=by have:=HSA.out;have:=hC.size;omega
  match i,hi with
  | 0,_ =>
    cases ho
    have h0:a.tmps.getD 0 undef=P_ p:=hG.fr 0 (by simp);exact cy _ (P_ p) (by rw [<- h0];rfl) br rfl (fun h=>by cases h)
  | 1,_ =>
    cases ho
    have h1:a.tmps.getD 11 undef=P_ p:=gd hG 0 rfl;exact cy _ (P_ p) (by simp [execOp,go_sem,Act.eval,h1]) br rfl (fun h=>by cases h)
  | 2,_ =>
    cases ho
    have h1:a.tmps.getD 12 undef=P_ p:=gd hG 1 rfl;exact cy _ (P_ p) (by simp [execOp,go_sem,Act.eval,h1]) br rfl (fun h=>by cases h)
  | 3,_ =>
    cases ho
    have h1:a.tmps.getD 13 undef=P_ p:=gd hG 2 rfl;have hc:=hV.c0;exact cy _ (.slice pa M.parents.length pc) (by simp [execOp,go_sem,Act.eval,h1,hc]) br rfl (fun h=>by cases h)
  | 4,_ =>
    cases ho
    have h1:a.tmps.getD 14 undef=.slice pa M.parents.length pc:=gd hG 3 rfl;unfold Oper.wp;simp [go_sem,callFunc,Act.eval,Tryz.func72,h1];refine(mX HV.out w w1 hCw hC).mono ?_;rintro e w2 ⟨v,rfl,hv,hb⟩;exact⟨v,rfl,hb,hv⟩
  | 5,_ =>
    cases ho
    have h0:a.tmps.getD 0 undef=P_ p:=hG.fr 0 (by simp);exact cy _ (P_ p) (by rw [<- h0];rfl) br rfl (fun h=>by cases h)
  | 6,_ =>
    cases ho
    have h1:a.tmps.getD 16 undef=P_ p:=gd hG 5 rfl;exact cy _ (P_ p) (by simp [execOp,go_sem,Act.eval,h1]) br rfl (fun h=>by cases h)
  | 7,_ =>
    cases ho
    have h1:a.tmps.getD 17 undef=P_ p:=gd hG 6 rfl;exact cy _ (R_ p 4) (by simp [execOp,go_sem,Act.eval,h1]) br rfl (fun h=>by cases h)
  | 8,_ =>
    cases ho
    have h1:a.tmps.getD 18 undef=R_ p 4:=gd hG 7 rfl;have hc:=hV.c4;exact cy _ (J M.last) (by simp [execOp,go_sem,Act.eval,h1,hc]) br rfl (fun h=>by cases h)
  | 9,_ =>
    cases ho
    have h0:a.tmps.getD 0 undef=P_ p:=hG.fr 0 (by simp);exact cy _ (P_ p) (by rw [<- h0];rfl) br rfl (fun h=>by cases h)
  | 10,_ =>
    cases ho
    have h1:a.tmps.getD 20 undef=P_ p:=gd hG 9 rfl;exact cy _ (P_ p) (by simp [execOp,go_sem,Act.eval,h1]) br rfl (fun h=>by cases h)
  | 11,_ =>
    cases ho
    have h1:a.tmps.getD 21 undef=P_ p:=gd hG 10 rfl;exact cy _ (R_ p 5) (by simp [execOp,go_sem,Act.eval,h1]) br rfl (fun h=>by cases h)
  | 12,_ =>
    cases ho
    have h1:a.tmps.getD 22 undef=R_ p 5:=gd hG 11 rfl;have hc:=hV.c5;exact cy _ (.slice (some ⟨mg,0,none⟩) M.made.length mc) (by simp [execOp,go_sem,Act.eval,h1,hc]) br rfl (fun h=>by cases h)
  | 13,_ =>
    cases ho
    have h1:a.tmps.getD 23 undef=.slice (some ⟨mg,0,none⟩) M.made.length mc:=gd hG 12 rfl;unfold Oper.wp;simp [go_sem,callFunc,Act.eval,Tryz.func111,h1];refine(pH w1 mg mc _ (M.made.map (Value.int .i64)) (by simp) (fun j v h=>hV.mad.cell h) (fun v h=>by obtain⟨x,-,rfl⟩:=List.mem_map.1 h;rfl) (by have:=hV.ok.made;have:=hV.ok.sides;simp;omega)).mono ?_;rintro e w2 ⟨v,rfl,hv,hb⟩;exact⟨v,rfl,hb,CRow.of hCw (by have:=hV.ok.made;simp;omega) (by simpa using hv)⟩
  | 14,_ =>
    cases ho
    have h15:NSides w M.parents (a.tmps.getD 15 undef) w1:=gd hG 4 rfl;have h24:CRow w 3 (M.made.map (Value.int .i64)) (a.tmps.getD 24 undef) w1:=gd hG 13 rfl;have h19:a.tmps.getD 19 undef=J M.last:=gd hG 8 rfl;obtain⟨pa',pc',e15,-⟩:=id h15;obtain⟨g24,cap24,e24,-⟩:=id h24;refine cy _ (.agg #[a.tmps.getD 15 undef,S_,S_,J M.last,a.tmps.getD 24 undef]) ?_ br ⟨_,_,rfl,h15,h24⟩ (fun h=>by cases h);simp only [execOp,List.map_toArray,List.map_cons,List.map_nil,Act.eval,e15,e24,h19];simp [go_sem]
  | 15,_ =>
    cases ho
    exact cy _ (P_ w1.heap.size) (w':=w1.alloc (.cells #[S_,S_,S_,J 0,S_] 67)) (by simp [execOp,go_sem]) (br.alloc aH _) ⟨w1.heap.size,rfl,by have:=HSA.out;have:=hC.size;omega,ai _ _⟩ (fun h=>by cases h)
 ·intro a w1 hC hdf hsz hfr hphi hne;obtain⟨q,h3,hq,hqb⟩:=hphi 15 _ rfl;obtain⟨v0,v4,h25,c0,c4⟩:=hphi 14 _ rfl;have h0:a.tmps.getD 0 undef=P_ p:=hfr 0 (by simp);have h2:a.tmps.getD 2 undef=P_ w.heap.size:=hfr 2 (by simp);have h3:a.tmps.getD 3 undef=P_ q:=h3;have h25:a.tmps.getD 25 undef=.agg #[v0,S_,S_,J M.last,v4]:=h25;have HT:Hid _:=TS0.of hq (HBA.out.trans (hC.mono HBA.out.size)) (ae hC HA.out) hqb c0 c4 #[v0,S_,S_,J M.last,v4];have HQ:Hid ((w1.setRow q #[v0,S_,S_,J M.last,v4]).heap[q]? = some (.cells #[v0,S_,S_,J M.last,v4] 67 (0,0))):=ah hqb
  have hone:(#[v0,S_,S_,J M.last,v4]:Array Value).all (·.oneCell')=true:=by
   obtain⟨_,_,rfl,-⟩:=c0;obtain⟨_,_,rfl,-⟩:=c4;simp [go_sem]
  have hst:=jk hqb rfl rfl hone
  have hst':(zt (a.tmps.getD 3 undef) (a.tmps.getD 25 undef)).run Tryz.prog w1=.ok .skip (w1.setRow q #[v0,S_,S_,J M.last,v4]):=by
   rw [h3,h25];exact hst
  refine vH hst' rfl ?_;clear hst';clear hphi hne hst hone hqb c0 c4 h25;refine ‹∀ (a:Act) (w:World),Code.wp Tryz.prog _ _ a w->_› a _ ?_;obtain⟨⟨l⟩,ds⟩:=a;have hdf:ds = []:=hdf;subst hdf;have hsz:l.length=68+1:=hsz;clear hfr;obtain⟨t0,l0,rfl,g0⟩:=aB hsz;obtain⟨t1,l1,rfl,g1⟩:=aB g0;obtain⟨t2,l2,rfl,g2⟩:=aB g1;obtain⟨t3,l3,rfl,g3⟩:=aB g2;obtain⟨t4,l4,rfl,g4⟩:=aB g3;obtain⟨t5,l5,rfl,g5⟩:=aB g4;obtain⟨t6,l6,rfl,g6⟩:=aB g5;obtain⟨t7,l7,rfl,g7⟩:=aB g6;obtain⟨t8,l8,rfl,g8⟩:=aB g7;obtain⟨t9,l9,rfl,g9⟩:=aB g8;obtain⟨t10,l10,rfl,g10⟩:=aB g9;obtain⟨t11,l11,rfl,g11⟩:=aB g10;obtain⟨t12,l12,rfl,g12⟩:=aB g11;obtain⟨t13,l13,rfl,g13⟩:=aB g12;obtain⟨t14,l14,rfl,g14⟩:=aB g13;obtain⟨t15,l15,rfl,g15⟩:=aB g14;obtain⟨t16,l16,rfl,g16⟩:=aB g15;obtain⟨t17,l17,rfl,g17⟩:=aB g16;obtain⟨t18,l18,rfl,g18⟩:=aB g17;obtain⟨t19,l19,rfl,g19⟩:=aB g18;obtain⟨t20,l20,rfl,g20⟩:=aB g19;obtain⟨t21,l21,rfl,g21⟩:=aB g20;obtain⟨t22,l22,rfl,g22⟩:=aB g21;obtain⟨t23,l23,rfl,g23⟩:=aB g22;obtain⟨t24,l24,rfl,g24⟩:=aB g23;obtain⟨t25,l25,rfl,g25⟩:=aB g24;obtain⟨t26,l26,rfl,g26⟩:=aB g25;obtain⟨t27,l27,rfl,g27⟩:=aB g26;obtain⟨t28,l28,rfl,g28⟩:=aB g27;obtain⟨t29,l29,rfl,g29⟩:=aB g28;obtain⟨t30,l30,rfl,g30⟩:=aB g29;obtain⟨t31,l31,rfl,g31⟩:=aB g30;obtain⟨t32,l32,rfl,g32⟩:=aB g31;obtain⟨t33,l33,rfl,g33⟩:=aB g32;obtain⟨t34,l34,rfl,g34⟩:=aB g33;obtain⟨t35,l35,rfl,g35⟩:=aB g34;obtain⟨t36,l36,rfl,g36⟩:=aB g35;obtain⟨t37,l37,rfl,g37⟩:=aB g36;obtain⟨t38,l38,rfl,g38⟩:=aB g37;obtain⟨t39,l39,rfl,g39⟩:=aB g38;obtain⟨t40,l40,rfl,g40⟩:=aB g39;obtain⟨t41,l41,rfl,g41⟩:=aB g40;obtain⟨t42,l42,rfl,g42⟩:=aB g41;obtain⟨t43,l43,rfl,g43⟩:=aB g42;obtain⟨t44,l44,rfl,g44⟩:=aB g43;obtain⟨t45,l45,rfl,g45⟩:=aB g44;obtain⟨t46,l46,rfl,g46⟩:=aB g45;obtain⟨t47,l47,rfl,g47⟩:=aB g46;obtain⟨t48,l48,rfl,g48⟩:=aB g47;obtain⟨t49,l49,rfl,g49⟩:=aB g48;obtain⟨t50,l50,rfl,g50⟩:=aB g49;obtain⟨t51,l51,rfl,g51⟩:=aB g50;obtain⟨t52,l52,rfl,g52⟩:=aB g51;obtain⟨t53,l53,rfl,g53⟩:=aB g52;obtain⟨t54,l54,rfl,g54⟩:=aB g53;obtain⟨t55,l55,rfl,g55⟩:=aB g54;obtain⟨t56,l56,rfl,g56⟩:=aB g55;obtain⟨t57,l57,rfl,g57⟩:=aB g56;obtain⟨t58,l58,rfl,g58⟩:=aB g57;obtain⟨t59,l59,rfl,g59⟩:=aB g58;obtain⟨t60,l60,rfl,g60⟩:=aB g59;obtain⟨t61,l61,rfl,g61⟩:=aB g60;obtain⟨t62,l62,rfl,g62⟩:=aB g61;obtain⟨t63,l63,rfl,g63⟩:=aB g62;obtain⟨t64,l64,rfl,g64⟩:=aB g63;obtain⟨t65,l65,rfl,g65⟩:=aB g64;obtain⟨t66,l66,rfl,g66⟩:=aB g65;obtain⟨t67,l67,rfl,g67⟩:=aB g66;obtain⟨t68,l68,rfl,g68⟩:=aB g67;obtain rfl:l68 = []:=List.length_eq_zero_iff.1 g68;have h0:t0=P_ p:=h0;have h2:t2=P_ w.heap.size:=h2;have h3:t3=P_ q:=h3;subst h0 h2 h3;clear hdf hsz g0 g1 g2 g3 g4 g5 g6 g7 g8 g9 g10 g11 g12 g13 g14 g15 g16 g17 g18 g19 g20 g21 g22 g23 g24 g25 g26 g27 g28 g29 g30 g31 g32 g33 g34 g35 g36 g37 g38 g39 g40 g41 g42 g43 g44 g45 g46 g47 g48 g49 g50 g51 g52 g53 g54 g55 g56 g57 g58 g59 g60 g61 g62 g63 g64 g65 g66 g67 g68 h0 h2 h3;change Code.wp _ _ _ ({ tmps:=#[P_ p,t1,P_ w.heap.size,P_ q,t4,t5,t6,t7,t8,t9,t10,t11,t12,t13,t14,t15,t16,t17,t18,t19,t20,t21,t22,t23,t24,t25,t26,t27,t28,t29,t30,t31,t32,t33,t34,t35,t36,t37,t38,t39,t40,t41,t42,t43,t44,t45,t46,t47,t48,t49,t50,t51,t52,t53,t54,t55,t56,t57,t58,t59,t60,t61,t62,t63,t64,t65,t66,t67,t68],defers:=[] }:Act) _;have hBW:Bl wA (w1.setRow q #[v0,S_,S_,J M.last,v4]):=Below.setRow hC (by have:=HSA.out;omega) _
  have HTA:Hid (TG wA (w1.setRow q #[v0,S_,S_,J M.last,v4]) w1.heap.size q M v0 v4 0 (w1.setRow q #[v0,S_,S_,J M.last,v4])) :=
   ⟨hBW,fun _ _ _=>rfl,HT.out.hb0,_,[],HQ.out,RowE.nil _ _ _,rfl,fun i x hx=>by simp at hx⟩
  have c1:=(HV.out.below hBW).c1;have HAq:Hid (wA.heap.size≤q/\q<w1.heap.size):=⟨by have:=HSA.out;omega,HT.out.ql.2⟩;clear hBW hC hq HQ;revert HTA HT c1 HAq;generalize w1.setRow _ _=W;generalize w1.heap.size=b0;intro HT HTA c1 HAq;obtain⟨nc,hnc⟩:∃ nc,nc=M.cuts.length:=⟨_,rfl⟩;have Hnc:Hid (nc=M.cuts.length/\nc≤16):=⟨hnc,by have:=HV.out.ok.cuts;have:=HV.out.ok.sides;omega⟩;have hnc16:nc≤16:=Hnc.out.2;rw [<- hnc]at c1;clear hnc
  go_wp2_with fail
  clear c1
  go_loopw [31] (fun vi wr=>∃ k:Nat,vi=J k/\k≤nc/\W=wr) (fun vi _=>nc - (intOf vi).toNat)
  case atStart=>exact⟨0,rfl,by omega,rfl⟩
  case round =>
   obtain⟨k,rfl,hk,rfl⟩:=hrel
   by_cases hkn:k<nc
   ·have hkz:(k:Int)<(nc:Int):=by omega
    obtain⟨x,hx⟩:∃ x,M.cuts[k]? = some x:=⟨_,List.getElem?_eq_getElem (by have:=Hnc.out.1;omega)⟩;have hcx:W.cell? ⟨cg,k,none⟩=some (.bool x):=(HV.out.below HTA.out.b).cut.cell (by rw [List.getElem?_map,hx];rfl);obtain rfl:=HCut.out x (List.mem_of_getElem? hx);clear hx
    go_wp2_with fail
    go_roundw
    case rel=>exact⟨k+1,by go_num,by omega,by first | rfl | trivial⟩
    case measure =>
     simp [intOf];omega
   ·have hkz:¬ (k:Int)<(nc:Int):=by omega
    obtain rfl:k=nc:=by omega
    have HWr:Hid (IsW W p M F):=⟨_,_,_,_,_,_,_,_,_,_,HV.out.below HTA.out.b⟩
    go_wp2_with fail
    refine(yt HWr.out).mono ?_;rintro e w5 ⟨g,capg,rfl,hR,hb5⟩;have HR5:Hid (w5.ownsRow W.heap.size 25 1 (.slice (some ⟨g,0,none⟩) M.things.length capg) M.things.length ((M.things.map (·.1)).map (Value.int .i64))):=hR;have HT5:Hid (TG wA W b0 q M v0 v4 0 w5):=HTA.out.below hb5;have Hbase:Hid (b0≤W.heap.size):=HTA.out.sz;obtain⟨n,hn⟩:∃ n,n=M.things.length:=⟨_,rfl⟩;have Hn:Hid (n=M.things.length):=hn;rw [<- hn]at hsm HR5 ⊢;clear hR hb5 HTA HWr hn;revert HR5 Hbase;generalize hbs:W.heap.size=base;intro Hbase HR5;clear hbs
    go_wp2_with fail
    go_loopw [47] (fun vi wx=>∃ k:Nat,vi=J k/\k≤n/\Hid (TG wA W b0 q M v0 v4 k wx)/\Hid (wx.ownsRow base 25 1 (.slice (some ⟨g,0,none⟩) n capg) n ((M.things.map (·.1)).map (Value.int .i64)))) (fun vi _=>n - (intOf vi).toNat)
    case atStart=>exact⟨0,rfl,by omega,HT5,HR5⟩
    case round =>
     clear HT5 HR5;obtain⟨i,rfl,hi,HT5,HR5⟩:=hrel
     by_cases hin:i<n
     ·have hiz:(i:Int)<(n:Int):=by omega
      obtain⟨⟨r,t⟩,hx⟩:∃ x,M.things[i]? = some x:=⟨_,List.getElem?_eq_getElem (by have:=Hn.out;omega)⟩;have hat:M.at r=some t:=HV.out.ok.at_of_mem (List.mem_of_getElem? hx);have HMy:Hid (ay t.v=true/\(∀ v ∈ t.vs,ay v=true)/\t.vs.length≤1024):=⟨(HL.out r t hat).1,(HL.out r t hat).2.1,Nat.le_trans (HL.out r t hat).2.2 (by decide)⟩;have hrw:=HV.out.ok.at_wf hat
      have hcx:wr.cell? ⟨g,i,none⟩=some (.int .i64 r):=by
       have:=HR5.out.cellAt i (by omega);rw [this];simp [hx]
      have HVd:=HV.out.below (HT5.out.b.trans (below_drew.mono HT5.out.b.size));have c2:=HVd.c2;have hlk:=HVd.look hrw;rw [hat]at hlk;simp only [Option.map_some]at hlk;have hld:=aD (HVd.blk r _ hat).1 rfl
      have HOwn:Hid (Calls Tryz.prog 80 #[.agg (aF t)] wr.drew fun e w'=>∃ vl' vals',e=.returned (.agg (aF { t with vl:=vl',vals:=vals' }))/\Below wr.drew.heap.size wr.drew w'/\Deep w' (fun b=>wr.drew.heap.size≤b) { t with vl:=vl',vals:=vals' }) :=
       (eL t (HVd.blk r _ hat).2.2.lies HMy.out.1 HMy.out.2.1 HMy.out.2.2).mono fun e w' ⟨vl',vals',h1,h2,h3,_⟩=>⟨vl',vals',h1,h2,h3⟩
      obtain⟨vT,l,r1,r2,r3⟩:=HT5.out.r;have HR:Hid _:=And.intro r1 (And.intro r2 r3);have cT:wr.cell? ⟨q,2,none⟩=some vT:=by rw [ag r1];rfl
      have Hlen:Hid (l.length=i):=by show _=_;rw [r3.1,List.length_take];have:=Hn.out;omega
      have Hx:Hid (M.things[i]? = some (r,t)):=hx;obtain⟨kd,hm,⟨vk,vn,vstr,vlist,vr⟩,raw,vs,vals,nn,lo,tg,bi,s,fu,code,names⟩:=t;have hDp:=(HVd.blk r _ hat).2.2;obtain⟨pv,cv,hv⟩:=hDp.v.form;obtain⟨ps,cs,hvals⟩:=hDp.vs.form;have hcd:=hDp.code;have hnm:=hDp.names;simp only at hv hvals hcd hnm;subst hv hvals hcd hnm;simp only [aF]at hld HOwn;clear hx hat hrw HVd r1 r2 r3 hDp HMy
      go_wp2_with fail
      go_region_law (first
       | (go_simp
          go_at_call 80
          refine Calls.mono HOwn.out ?_;rintro e w5 ⟨vl',vals',rfl,hb5,hD5⟩;obtain⟨pv',cv',hv'⟩:=hD5.v.form;obtain⟨ps',cs',hvals'⟩:=hD5.vs.form;simp only at hv' hvals';subst hv' hvals';have hbb:Bl wr w5:=below_drew.trans hb5;have HT6:Hid (TG wA W b0 q M v0 v4 i w5):=HT5.out.below hbb
          have HX5:Hid (w5.heap[q]? = some (.cells #[v0,S_,vT,J M.last,v4] 67 (0,0))/\RowE w5 b0 (fun b=>b0≤b) vT l/\LikeT (M.things.take i) l/\w5.ownsRow base 25 1 (.slice (some ⟨g,0,none⟩) n capg) n ((M.things.map (·.1)).map (Value.int .i64))/\w5.ownsRow b0 117 17 vT i (bB l)):=by
           have h2:=HR.out.2.1.below hbb;exact⟨ae hbb HR.out.1,h2,HR.out.2.2,gP HR5.out hbb,by have:=h2.row;rw [Hlen.out]at this;exact this⟩
          have HD5:Hid (DeepR w5 (fun b=>wr.heap.size≤b) ⟨kd,hm,⟨vk,vn,vstr,vlist,vr⟩,.slice pv' vlist.length cv',vs,.slice ps' vs.length cs',nn,lo,tg,bi,s,fu,S_,S_⟩/\b0≤wr.heap.size/\∀ b,vT.ownBlock=some b->b<wr.heap.size):=⟨⟨hD5.v.at,hD5.vs.at,rfl,rfl⟩,HT5.out.sz,fun b e=>(HR.out.2.1.own b e).2⟩;have cT5:w5.cell? ⟨q,2,none⟩=some vT:=by rw [ag HX5.out.1];rfl
          have cT6:(w5.alloc (.cells #[J r,U kd,J hm,U vk,J vn,.string vstr,.slice pv' vlist.length cv',J vr,.slice ps' vs.length cs',J nn,J lo,J tg,J bi,U s,.bool fu,S_,S_] 117)).cell? ⟨q,2,none⟩=some vT:=gk cT5 _;dsimp only
          clear hD5 hb5 hbb)
       | (apply mH (w5:=w5) (b0:=b0) (n:=i) (v:=vT) (xs:=bB l) (y:=(r,⟨kd,hm,⟨vk,vn,vstr,vlist,vr⟩,.slice pv' vlist.length cv',vs,.slice ps' vs.length cs',nn,lo,tg,bi,s,fu,S_,S_⟩))
          ·exact rfl
          ·exact rfl
          ·exact rfl
          ·exact rfl
          ·exact rfl
          ·exact HX5.out.2.2.2.2
          ·simp [bL,aF,go_sem]
          ·omega
          ·exact HT6.out.sz
          intro g6 cap6 w6 r1 r2 r3;obtain⟨hA6,hR6,cz6,fz6⟩:=TG.app Hlen.out HT6.out HAq.out.1 HAq.out.2 HX5.out.1 HX5.out.2.1 HX5.out.2.2.1 Hx.out HD5.out.1 HD5.out.2.1 HD5.out.2.2 HX5.out.2.2.2.1 Hbase.out r1 r2 r3;have HA6:Hid _:=hA6;have HR6:Hid _:=hR6
          clear hA6 hR6 r1 r2 r3))
      all_goals
       clear HX5 HT6 HR cz6 fz6 cT5 cT6 HD5 HOwn
       go_wp2_with fail
       go_roundw
       case rel=>exact⟨i+1,by go_num,by omega,HA6,HR6⟩
       case measure =>
        simp [intOf];omega
     ·have hiz:¬ (i:Int)<(n:Int):=by omega
      obtain rfl:i=n:=by omega
      have hT:=HT5.out;obtain⟨vT,l,r1,r2,r3⟩:=hT.r;rw [List.take_of_length_le (by have:=Hn.out;omega)]at r3;have hb:=HBA.out.trans (hT.b.mono HBA.out.size);have hTd:=TG.told HT.out hT hb r2 r3 #[v0,S_,vT,J M.last,v4];have HTd:Hid _:=hTd;have hr0:wr.heap[w.heap.size]? = some (.cells #[S_,S_,S_,J 0,S_] 67 (0,0)):=(hT.kp _ (by have:=HT.out.ql;omega) (by have:=HT.out.ql;omega)).trans HT.out.r0
      have hone:(#[v0,S_,vT,J M.last,v4]:Array Value).all (·.oneCell')=true:=by
       obtain⟨_,_,rfl,-⟩:=HT.out.s;obtain⟨_,_,rfl,-⟩:=HT.out.m;obtain⟨_,_,rfl⟩:=r2.form;simp [go_sem]
      have hld:=qX r1 rfl;have hst:=jk hr0 rfl rfl hone;have HG:Hid _:=ah (c':=#[v0,S_,vT,J M.last,v4]) hr0;clear hT r1 r2 r3 hb hTd hr0 hone HT5 HR5
      go_wp2_with fail
      refine bodyPost_ret (results_cell_row (P:=Tryz.prog) rfl _ _ _ 67 _ _ _ rfl HG.out Tryz.underlying67 rfl oU) rfl ⟨_,rfl,HTd.out.1,HTd.out.2⟩
end
section
theorem tK (w:World) (sides:Int) (h:Int) (hh:0≤h/\h<sides) :
 Calls Tryz.prog 81 #[.agg (wr 10 h 0 0 0 0 0 0 0 false),J sides] w fun e w'=>e=.returned (.bool true)/\Bl w w':=by
 have hh1:¬ h<0:=by omega
 have hh2:¬ h ≥ sides:=by omega
 clear hh;have H5:Hid _:=cV w (wr 10 h 0 0 0 0 0 0 0 false) (wr 10 h 0 0 0 0 0 0 0 false)
 go_enter Tryz.func81,Tryz.ntmps81
 go_upto_region 32 with fail
 go_cut [] (fun wx=>Hid (Bl w wx/\wx.heap[w.heap.size]? = some (.cells (wr 10 h 0 0 0 0 0 0 0 false) 46 (0,0))/\wx.heap[w.heap.size+1]? = some (.cells (wr 10 h 0 0 0 0 0 0 0 false) 46 (0,0))))
 case first =>
  go_region
  all_goals
   go_wp2_with fail
   go_meet
   case rel=>first | exact H5.out _ (.inr rfl) | exact H5.out _ (.inl rfl)
 have H5:=hcut;clear hcut;generalize wc=w5 at *;have aa:=aq H5.out.2.1;have bb:=aq H5.out.2.2
 go_upto_region 51 with fail
 clear aa bb;have aa:=aq H5.out.2.1;have bb:=aq H5.out.2.2
 go_wp2_with fail
 refine(dP w5).mono ?_;rintro e w6 ⟨rfl,hb6⟩;have H6:Hid (Bl w w6/\_/\_):=⟨H5.out.1.trans (hb6.mono H5.out.1.size),ae hb6 H5.out.2.1,ae hb6 H5.out.2.2⟩;clear hb6 H5;clear aa bb;have aa:=aq H6.out.2.1;have bb:=aq H6.out.2.2
 go_wp2_with fail
 refine(dk w6).mono ?_;rintro e w7 ⟨rfl,hb7⟩;have H7:Hid (Bl w w7/\_/\_):=⟨H6.out.1.trans (hb7.mono H6.out.1.size),ae hb7 H6.out.2.1,ae hb7 H6.out.2.2⟩;clear hb7 H6;clear aa bb;have aa:=aq H7.out.2.1;have bb:=aq H7.out.2.2
 go_wp2_with fail
 go_ret
 exact⟨rfl,H7.out.1⟩
end
end Go.Proofs.YthaliljaglldjaaGreat
