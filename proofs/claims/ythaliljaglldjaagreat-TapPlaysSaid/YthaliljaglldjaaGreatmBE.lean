/- Part of the proof. -/
import Derived.Test.YthaliljaglldjaaGreatmBD
import Derived.Test.YthaliljaglldjaaGreatmAT
namespace Go.Proofs.YthaliljaglldjaaGreat
set_option maxHeartbeats 16000000
set_option maxRecDepth 100000
open Go.RowKit Go.ChangeMaps Go.MapKept
section
structure TG (wA W:World) (b0 q:Nat) (M:WM) (v0 v4:Value) (k:Nat) (w:World):Prop where
 b:Bl wA w
 kp:∀ b,b<b0->b≠q->w.heap[b]? = W.heap[b]?
 sz:b0≤w.heap.size
 r:∃ vT l,w.heap[q]? = some (.cells #[v0,.slice none 0 0,vT,.int .i64 M.last,v4] 67 (0,0))/\RowE w b0 (fun b=>b0≤b) vT l/\LikeT (M.things.take k) l
section
variable {wA W w w':World} {b0 q:Nat} {M:WM} {v0 v4:Value} {k:Nat}
theorem TG.below (h:TG wA W b0 q M v0 v4 k w) (hb:Bl w w'):TG wA W b0 q M v0 v4 k w':=by
 obtain⟨vT,l,h1,h2,h3⟩:=h.r;exact⟨h.b.trans (hb.mono h.b.size),fun b hb' hne=>(hb.block b (Nat.lt_of_lt_of_le hb' h.sz)).trans (h.kp b hb' hne),Nat.le_trans h.sz hb.size,vT,l,below_blk hb h1,h2.below hb,h3⟩
theorem TG.thing {vT v':Value} {l:List (Int × Th)} {x:Int × Th} {vl vals:Value} (h:TG wA W b0 q M v0 v4 k w) (hA:wA.heap.size≤q) (hq:q<b0) (hv:w.heap[q]? = some (.cells #[v0,.slice none 0 0,vT,.int .i64 M.last,v4] 67 (0,0)))
 (hx:M.things[k]? = some x) (hE:RowE w' b0 (fun b=>b0≤b) v' (l ++ [(x.1,{ x.2 with vl:=vl,vals:=vals })])) (hL:LikeT (M.things.take k) l) (hk:Keeps (fun b=>b0≤b) w w'):TG wA W b0 q M v0 v4 (k+1) (w'.setCell ⟨q,2,none⟩ v'):=by
 have hAb:wA.heap.size≤b0:=by omega
 have hb:Bl wA w':=h.b.trans (hk.below h.b.size fun b hb=>Nat.le_trans hAb hb);have hv':=hk.none hv (by show ¬ b0≤q;omega);have hs:=blk_setCell hv' 2 v';have hks:=Keeps.setCell (S:=fun b=>b=q) w' ⟨q,2,none⟩ v' rfl;refine⟨hb.setCell (p:=⟨q,2,none⟩) hA _,fun b hb hne=>(Below.heap_setCell _ _ _ _ hne).trans ((hk.block b (Nat.lt_of_lt_of_le hb h.sz) (by show ¬ b0≤b;omega)).trans (h.kp b hb hne)),?_,v',_,hs,⟨ownsRow_keeps hE.row hks fun b hb e=>by have:=(hE.own b hb).1;omega,fun y hy=>((hE.deep y hy).keeps hks fun b hb _ e=>by have:=hb.1;omega).mono fun b hb=>hb.1⟩,?_⟩
 ·have:=h.sz;have:=hk.size;simp [World.setCell];omega
 ·rw [List.take_add_one,hx];exact hL.snoc
end
theorem step_entryG {ops:Array Oper} {o:Oper} {a:Act} {w w5:World} {K:Act->World->Prop} {Q:Exit->Act->World->Prop} {E:Prop} {b0 n:Nat} {v:Value} {xs:List Value} {y:Int × Th} {s x:Operand} (hgd:o.guard=none)
 (ho:o.op=.call { callee:=.builtin .append,args:=#[s,x],argTypes:=#[65,65] }) (hs:a.eval s=v) (hx:a.eval x=.slice (some ⟨w5.heap.size,0,none⟩) 1 1) (hw:w=w5.alloc (.cells (entc y).toArray 117))
 (hown:w5.ownsRow b0 117 17 v n xs) (h1:∀ u ∈ entc y,u.oneCell'=true) (hn:n≤1000000) (hb:b0≤w5.heap.size)
 (h:∀ g cap w',w'.ownsRow b0 117 17 (.slice (some ⟨g,0,none⟩) (n+1) cap) (n+1) (xs ++ entc y)->(w5.alloc (.cells (entc y).toArray 117)).grownBy w' v.ownBlock->(v.ownBlock=some g\/g=w5.heap.size+1)->K (a.put o.dst (.slice (some ⟨g,0,none⟩) (n+1) cap)) w') :
 if Region.wanted o (yielded ops a.tmps)=true then Oper.wp Tryz.prog o a w K Q else E:=by
 subst hw;obtain⟨i,hi,hz,h2,h3⟩:=info_parts infoEntry
 refine step_append_lies _ hgd s x 65 ho b0 117 i (.agg zEntry) 17 200 Tryz.underlyingLEntry hi hz h2 h3 rfl (by decide) v n xs hs (hown.alloc _) ⟨w5.heap.size,0,none⟩ 1 1 (entc y) hx rfl (new_cells w5 (entc y) 117) h1 (by decide) (by unfold maxLen;omega) (by omega) (by simp;omega) (w5.heap.size+1) (by simp)
  fun g cap w' r1 r2 r3 _=>h g cap w' r1 r2 r3
theorem TG.app {wA W w5 w6:World} {b0 q n g capg base m g6 cap6 k:Nat} {M:WM} {v0 v4 vT vl vals:Value} {l:List (Int × Th)} {x:Int × Th} {rs:List Value} {B5:Nat} (hm:l.length=m) (h:TG wA W b0 q M v0 v4 k w5) (hA:wA.heap.size≤q) (hq:q<b0) (hv:w5.heap[q]? = some (.cells #[v0,.slice none 0 0,vT,.int .i64 M.last,v4] 67 (0,0))) (h3:RowE w5 b0 (fun b=>b0≤b) vT l) (hL:LikeT (M.things.take k) l) (hx:M.things[k]? = some x)
 (hD:DeepR w5 (fun b=>B5≤b) { x.2 with vl:=vl,vals:=vals }) (hB5:b0≤B5) (hown:∀ b,vT.ownBlock=some b->b<B5)
 (hR:w5.ownsRow base 25 1 (.slice (some ⟨g,0,none⟩) n capg) n rs) (hbase:b0≤base) (r1:w6.ownsRow b0 117 17 (.slice (some ⟨g6,0,none⟩) (m+1) cap6) (m+1) (eflat l ++ entc (x.1,{ x.2 with vl:=vl,vals:=vals }))) (r2:(w5.alloc (.cells (entc (x.1,{ x.2 with vl:=vl,vals:=vals })).toArray 117)).grownBy w6 vT.ownBlock) (r3:vT.ownBlock=some g6\/g6=w5.heap.size+1) :
 TG wA W b0 q M v0 v4 (k+1) (w6.setCell ⟨q,2,none⟩ (.slice (some ⟨g6,0,none⟩) (m+1) cap6))/\(w6.setCell ⟨q,2,none⟩ (.slice (some ⟨g6,0,none⟩) (m+1) cap6)).ownsRow base 25 1 (.slice (some ⟨g,0,none⟩) n capg) n rs/\w6.cell? ⟨q,2,none⟩=some vT/\w6.frozen? ⟨q,2,none⟩=false:=by
 subst hm;have ha:Bl w5 (w5.alloc (.cells (entc (x.1,{ x.2 with vl:=vl,vals:=vals })).toArray 117)):=(Below.refl _ _).alloc (Nat.le_refl _) _
 have hka:Keeps (fun b=>vT.ownBlock=some b) (w5.alloc (.cells (entc (x.1,{ x.2 with vl:=vl,vals:=vals })).toArray 117)) w6:=⟨r2.os,r2.tape,r2.output,r2.size,fun k hk hne=>r2.block k hk (fun e=>hne e.symm)⟩
 have h3a:=h3.below ha;have hDa:=hD.on ha
 have hE:RowE w6 b0 (fun b=>b0≤b) (.slice (some ⟨g6,0,none⟩) (l.length+1) cap6) (l ++ [(x.1,{ x.2 with vl:=vl,vals:=vals })]):=by
  refine h3a.more (y:=(x.1,{ x.2 with vl:=vl,vals:=vals })) (hDa.mono fun b hb=>⟨Nat.le_trans hB5 hb,fun e=>by have:=hown b e;omega⟩) (fun b hb=>hb) ?_ hka ?_
  ·rw [eflat_snoc,List.length_append];exact r1
  ·rcases r3 with r3 | r3
   ·exact .inl (by rw [r3];rfl)
   ·exact .inr (by rw [r3];simp [Value.ownBlock])
 have hk6:Keeps (fun b=>b0≤b) w5 w6:=(Keeps.of_below ha).trans (hka.mono fun b _ e=>(h3.own b e).1) (fun _ _ h=>h) (fun _ _ h=>h);have hq6:=hk6.none hv (by show ¬ b0≤q;omega);refine⟨h.thing hA hq hv hx hE hL hk6,?_,by rw [cell_blk hq6];rfl,frozen_blk hq6 2⟩;exact((row_below hR ha).kept r2 (row_ne_rowS (by decide) (row_below hR ha) h3a.row)).kept (grownBy_setCell_at w6 q 2 _) (row_ne_blk hR (by omega))
def ToldG (M:WM) (v:Value) (w:World):Prop :=
 ∃ pP cP pT cT pM cM l,v=.agg #[.slice pP M.parents.length cP,.slice none 0 0,.slice pT l.length cT,.int .i64 M.last,.slice pM M.made.length cM]/\IntArg .i64 w pP M.parents/\IntArg .i64 w pM M.made/\LikeT M.things l /\
   (∀ (i:Nat) (x:Int × Th),l[i]? = some x->∃ g,pT=some ⟨g,0,none⟩/\g<w.heap.size/\∀ k v,(entc x)[k]? = some v->w.cell? ⟨g,i * 17+k,none⟩=some v)/\∀ x ∈ l,DeepR w (fun b=>b<w.heap.size) x.2
theorem ToldG.below {M:WM} {v:Value} {w w':World} (h:ToldG M v w) (hb:Bl w w'):ToldG M v w':=by
 obtain⟨pP,cP,pT,cT,pM,cM,l,rfl,h1,h2,h3,h4,h5⟩:=h;refine⟨pP,cP,pT,cT,pM,cM,l,rfl,intArg_below h1 hb,intArg_below h2 hb,h3,fun i x hx=>?_,fun x hx=>((h5 x hx).on hb).mono fun b h=>Nat.lt_of_lt_of_le h hb.size⟩;obtain⟨g,e,hg,hc⟩:=h4 i x hx;exact⟨g,e,Nat.lt_of_lt_of_le hg hb.size,fun k v hv=>(World.cell?_of_block (a:=⟨g,i * 17+k,none⟩) (hb.block g hg)).trans (hc k v hv)⟩
theorem rowE_ent {w:World} {base:Nat} {G:Nat->Prop} {u:Value} {l:List (Int × Th)} (h:RowE w base G u l) :
 ∃ p c,u=.slice p l.length c/\∀ (i:Nat) (x:Int × Th),l[i]? = some x->∃ g,p=some ⟨g,0,none⟩/\g<w.heap.size/\∀ k v,(entc x)[k]? = some v->w.cell? ⟨g,i * 17+k,none⟩=some v:=by
 obtain⟨⟨h1,⟨rfl,h0⟩ | ⟨g,cap,cur,rfl,hg,hb,hc,hm,hcs,ht⟩⟩,-⟩:=h
 ·have:l = []:=List.length_eq_zero_iff.1 h0;subst this;exact⟨none,0,rfl,fun i x hx=>by simp at hx⟩
 ·refine⟨_,cap,rfl,fun i x hx=>⟨g,rfl,blk_lt hb,fun k v hv=>?_⟩⟩;have h2:=eflat_at hx hv;rw [<- ht,List.getElem?_take]at h2;split at h2
  ·rw [cell_blk hb,← Array.getElem?_toList];exact h2
  ·cases h2
theorem rowE_deep {w:World} {base:Nat} {G:Nat->Prop} {u:Value} {l:List (Int × Th)} (h:RowE w base G u l):∀ x ∈ l,DeepR w (fun b=>b<w.heap.size) x.2:=fun x hx =>
 ⟨(SlAt.lt (h.deep x hx).v).mono fun _ h=>h.2,(SlAt.lt (h.deep x hx).vs).mono fun _ h=>h.2,(h.deep x hx).code,(h.deep x hx).names⟩
theorem Told7.toG {w:World} {B:Nat} {N:WM} {v:Value} (h:Told7 w B N v):ToldG N v w:=by
 obtain⟨sP,sT,sM,l,rfl,rP,rT,lk,rM⟩:=h;obtain⟨pP,cP,e1,h1⟩:=intArg_of_row rP;obtain⟨pM,cM,e2,h2⟩:=intArg_of_row rM;obtain⟨pT,cT,e3,h3⟩:=rowE_ent rT;subst e1 e2 e3;exact⟨pP,cP,pT,cT,pM,cM,l,rfl,h1,h2,lk,h3,rowE_deep rT⟩
theorem TG.told {w0 wA W w:World} {b0 q n:Nat} {M:WM} {v0 v4 vT:Value} {l:List (Int × Th)} (hT:TS0 w0 W b0 q M v0 v4) (h:TG wA W b0 q M v0 v4 n w) (hb:Bl w0 w) (hE:RowE w b0 (fun b=>b0≤b) vT l) (hL:LikeT M.things l) (xs:Array Value) :
 ToldG M (.agg #[v0,.slice none 0 0,vT,.int .i64 M.last,v4]) (w.setRow w0.heap.size xs)/\Bl w0 (w.setRow w0.heap.size xs):=by
 have hset:∀ b,b≠w0.heap.size->(w.setRow w0.heap.size xs).heap[b]? = w.heap[b]?:=fun b hb=>by
  simp [World.setRow,Array.getElem?_modify,Ne.symm hb]
 have hsz:(w.setRow w0.heap.size xs).heap.size=w.heap.size:=by simp [World.setRow]
 have hkeep:∀ b,b<b0->b≠q->b≠w0.heap.size->(w.setRow w0.heap.size xs).heap[b]? = W.heap[b]?:=fun b hb hq h0=>(hset b h0).trans (h.kp b hb hq);have hk:Keeps (fun b=>b=w0.heap.size) w (w.setRow w0.heap.size xs):=⟨rfl,rfl,rfl,by rw [hsz];exact Nat.le_refl _,fun k _ hk=>hset k hk⟩;have hlt:w0.heap.size<b0:=by have:=hT.ql;omega
 obtain⟨pa,pc,rfl,hs⟩:=hT.s;obtain⟨pd,cd,rfl,hm⟩:=hT.m;have hE':RowE (w.setRow w0.heap.size xs) b0 (fun b=>b0≤b) vT l:=⟨ownsRow_keeps hE.row hk fun b hb e=>by have:=(hE.own b hb).1;omega,fun y hy=>((hE.deep y hy).keeps hk fun b hb _ e=>by have:=hb.1;omega).mono fun b hb=>hb.1⟩;obtain⟨pT,cT,rfl,ht⟩:=rowE_ent hE';exact⟨⟨_,_,_,_,_,_,l,rfl,hs _ hkeep (by rw [hsz];exact h.sz),hm _ hkeep (by rw [hsz];exact h.sz),hL,ht,rowE_deep hE'⟩,Below.setRow hb (Nat.le_refl _) _⟩
def GMay (M:WM):Prop:=∀ r t,M.at r=some t->∃ k h n l tg bi s fu,t=lt k h 0 0 n l tg bi s fu
theorem Tell_G {w:World} {p:Nat} {M:WM} {F:Nat->Prop} (hW:IsW w p M F) (light:GMay M) (hcut:∀ x ∈ M.cuts,x=false) (hsm:M.things.length≤1000000) :
 Calls Tryz.prog 25 #[.pointer (some ⟨p,0,none⟩)] w fun e w'=>∃ v,e=.returned v/\ToldG M v w'/\Bl w w':=by
 have hWA:=hW.below (w':=w.alloc (.cells #[.slice none 0 0,.slice none 0 0,.slice none 0 0,.int .i64 0,.slice none 0 0] 67)) ((Below.refl _ _).alloc (Nat.le_refl _) _);have HWA:=(show Hid _ from hWA);have HL:=(show Hid (GMay M)from light);have HCut:=(show Hid (∀ x ∈ M.cuts,x=false)from hcut);obtain⟨pa,pc,cg,cc,mg,mc,tb,fb,fn,bl,hV⟩:=hWA;have HV:=(show Hid _ from hV);have HA:Hid ((w.alloc (.cells #[.slice none 0 0,.slice none 0 0,.slice none 0 0,.int .i64 0,.slice none 0 0] 67)).heap[w.heap.size]? = some (.cells #[.slice none 0 0,.slice none 0 0,.slice none 0 0,.int .i64 0,.slice none 0 0] 67 (0,0))):=blk_new w _;have HBA:Hid (Bl w (w.alloc (.cells #[.slice none 0 0,.slice none 0 0,.slice none 0 0,.int .i64 0,.slice none 0 0] 67))):=(Below.refl _ _).alloc (Nat.le_refl _) _;have HSA:Hid ((w.alloc (.cells #[.slice none 0 0,.slice none 0 0,.slice none 0 0,.int .i64 0,.slice none 0 0] 67)).heap.size=w.heap.size+1):=by show _=_;simp
 clear hW light hV hcut
 go_enter Tryz.func25,Tryz.ntmps25
 go_wp2_with fail
 refine(none_W HWA.out).mono ?_;rintro e _ ⟨rfl,rfl⟩
 go_wp2_with fail
 revert HWA HV HA HBA HSA;generalize w.alloc _=wA;intro HWA HV HA HBA HSA;refine wp_region_growT (by kernel_rfl) _ rfl (by kernel_rfl) (by kernel_rfl) (fun a b=>Bl a b) (TPhi w p M pa pc mg mc) (fun _=>false) (fun w'=>Bl wA w') (fun j v w w'=>TPhi.stab j v w w') (fun _ _ h=>h.size) below_drew (fun a b h hR=>h.trans (hR.mono h.size)) ?_ ?_
 ·intro i o a w1 ho hC hG;have hi:i<16:=(List.getElem?_eq_some_iff.1 ho).1;have hV:=HV.out.below hC;have hCw:w.heap.size≤w1.heap.size:=by have:=HSA.out;have:=hC.size;omega
  match i,hi with
  | 0,_ =>
    cases ho
    have h0:a.tmps.getD 0 undef=.pointer (some ⟨p,0,none⟩):=hG.fr 0 (by simp);exact step_v _ (.pointer (some ⟨p,0,none⟩)) (by rw [<- h0];rfl) (Below.refl _ _) rfl (fun h=>by cases h)
  | 1,_ =>
    cases ho
    have h1:a.tmps.getD 11 undef=.pointer (some ⟨p,0,none⟩):=hG.dep ⟨0,.data⟩ (by simp) rfl _ rfl;exact step_v _ (.pointer (some ⟨p,0,none⟩)) (by simp [execOp,go_sem,Act.eval,h1]) (Below.refl _ _) rfl (fun h=>by cases h)
  | 2,_ =>
    cases ho
    have h1:a.tmps.getD 12 undef=.pointer (some ⟨p,0,none⟩):=hG.dep ⟨1,.data⟩ (by simp) rfl _ rfl;exact step_v _ (.pointer (some ⟨p,0,none⟩)) (by simp [execOp,go_sem,Act.eval,h1]) (Below.refl _ _) rfl (fun h=>by cases h)
  | 3,_ =>
    cases ho
    have h1:a.tmps.getD 13 undef=.pointer (some ⟨p,0,none⟩):=hG.dep ⟨2,.data⟩ (by simp) rfl _ rfl;have hc:=hV.c0;exact step_v _ (.slice pa M.parents.length pc) (by simp [execOp,go_sem,Act.eval,h1,hc]) (Below.refl _ _) rfl (fun h=>by cases h)
  | 4,_ =>
    cases ho
    have h1:a.tmps.getD 14 undef=.slice pa M.parents.length pc:=hG.dep ⟨3,.data⟩ (by simp) rfl _ rfl;unfold Oper.wp;simp [go_sem,callFunc,Act.eval,Tryz.func72,h1];refine(cloneSide_W HV.out w w1 hCw hC).mono ?_;rintro e w2 ⟨v,rfl,hv,hb⟩;exact⟨v,rfl,hb,hv⟩
  | 5,_ =>
    cases ho
    have h0:a.tmps.getD 0 undef=.pointer (some ⟨p,0,none⟩):=hG.fr 0 (by simp);exact step_v _ (.pointer (some ⟨p,0,none⟩)) (by rw [<- h0];rfl) (Below.refl _ _) rfl (fun h=>by cases h)
  | 6,_ =>
    cases ho
    have h1:a.tmps.getD 16 undef=.pointer (some ⟨p,0,none⟩):=hG.dep ⟨5,.data⟩ (by simp) rfl _ rfl;exact step_v _ (.pointer (some ⟨p,0,none⟩)) (by simp [execOp,go_sem,Act.eval,h1]) (Below.refl _ _) rfl (fun h=>by cases h)
  | 7,_ =>
    cases ho
    have h1:a.tmps.getD 17 undef=.pointer (some ⟨p,0,none⟩):=hG.dep ⟨6,.data⟩ (by simp) rfl _ rfl;exact step_v _ (.pointer (some ⟨p,4,none⟩)) (by simp [execOp,go_sem,Act.eval,h1]) (Below.refl _ _) rfl (fun h=>by cases h)
  | 8,_ =>
    cases ho
    have h1:a.tmps.getD 18 undef=.pointer (some ⟨p,4,none⟩):=hG.dep ⟨7,.data⟩ (by simp) rfl _ rfl;have hc:=hV.c4;exact step_v _ (.int .i64 M.last) (by simp [execOp,go_sem,Act.eval,h1,hc]) (Below.refl _ _) rfl (fun h=>by cases h)
  | 9,_ =>
    cases ho
    have h0:a.tmps.getD 0 undef=.pointer (some ⟨p,0,none⟩):=hG.fr 0 (by simp);exact step_v _ (.pointer (some ⟨p,0,none⟩)) (by rw [<- h0];rfl) (Below.refl _ _) rfl (fun h=>by cases h)
  | 10,_ =>
    cases ho
    have h1:a.tmps.getD 20 undef=.pointer (some ⟨p,0,none⟩):=hG.dep ⟨9,.data⟩ (by simp) rfl _ rfl;exact step_v _ (.pointer (some ⟨p,0,none⟩)) (by simp [execOp,go_sem,Act.eval,h1]) (Below.refl _ _) rfl (fun h=>by cases h)
  | 11,_ =>
    cases ho
    have h1:a.tmps.getD 21 undef=.pointer (some ⟨p,0,none⟩):=hG.dep ⟨10,.data⟩ (by simp) rfl _ rfl;exact step_v _ (.pointer (some ⟨p,5,none⟩)) (by simp [execOp,go_sem,Act.eval,h1]) (Below.refl _ _) rfl (fun h=>by cases h)
  | 12,_ =>
    cases ho
    have h1:a.tmps.getD 22 undef=.pointer (some ⟨p,5,none⟩):=hG.dep ⟨11,.data⟩ (by simp) rfl _ rfl;have hc:=hV.c5;exact step_v _ (.slice (some ⟨mg,0,none⟩) M.made.length mc) (by simp [execOp,go_sem,Act.eval,h1,hc]) (Below.refl _ _) rfl (fun h=>by cases h)
  | 13,_ =>
    cases ho
    have h1:a.tmps.getD 23 undef=.slice (some ⟨mg,0,none⟩) M.made.length mc:=hG.dep ⟨12,.data⟩ (by simp) rfl _ rfl;unfold Oper.wp;simp [go_sem,callFunc,Act.eval,Tryz.func111,h1];refine(cloneInt_W w1 mg mc _ (M.made.map (Value.int .i64)) (by simp) (fun j v h=>hV.mad.cell h) (fun v h=>by obtain⟨x,-,rfl⟩:=List.mem_map.1 h;rfl) (by have:=hV.ok.made;have:=hV.ok.sides;simp;omega)).mono ?_;rintro e w2 ⟨v,rfl,hv,hb⟩;exact⟨v,rfl,hb,CRow.of hCw (by have:=hV.ok.made;simp;omega) (by simpa using hv)⟩
  | 14,_ =>
    cases ho
    have h15:NSides w M.parents (a.tmps.getD 15 undef) w1:=hG.dep ⟨4,.data⟩ (by simp) rfl _ rfl;have h24:CRow w 3 (M.made.map (Value.int .i64)) (a.tmps.getD 24 undef) w1:=hG.dep ⟨13,.data⟩ (by simp) rfl _ rfl;have h19:a.tmps.getD 19 undef=.int .i64 M.last:=hG.dep ⟨8,.data⟩ (by simp) rfl _ rfl;obtain⟨pa',pc',e15,-⟩:=id h15;obtain⟨g24,cap24,e24,-⟩:=id h24;refine step_v _ (.agg #[a.tmps.getD 15 undef,.slice none 0 0,.slice none 0 0,.int .i64 M.last,a.tmps.getD 24 undef]) ?_ (Below.refl _ _) ⟨_,_,rfl,h15,h24⟩ (fun h=>by cases h);simp only [execOp,List.map_toArray,List.map_cons,List.map_nil,Act.eval,e15,e24,h19];simp [go_sem]
  | 15,_ =>
    cases ho
    exact step_v _ (.pointer (some ⟨w1.heap.size,0,none⟩)) (w':=w1.alloc (.cells #[.slice none 0 0,.slice none 0 0,.slice none 0 0,.int .i64 0,.slice none 0 0] 67)) (by simp [execOp,go_sem]) ((Below.refl _ _).alloc (Nat.le_refl _) _) ⟨w1.heap.size,rfl,by have:=HSA.out;have:=hC.size;omega,blk_new _ _⟩ (fun h=>by cases h)
 ·intro a w1 hC hdf hsz hfr hphi hne;obtain⟨q,h3,hq,hqb⟩:=hphi 15 _ rfl;obtain⟨v0,v4,h25,c0,c4⟩:=hphi 14 _ rfl;have h0:a.tmps.getD 0 undef=.pointer (some ⟨p,0,none⟩):=hfr 0 (by simp);have h2:a.tmps.getD 2 undef=.pointer (some ⟨w.heap.size,0,none⟩):=hfr 2 (by simp);have h3:a.tmps.getD 3 undef=.pointer (some ⟨q,0,none⟩):=h3;have h25:a.tmps.getD 25 undef=.agg #[v0,.slice none 0 0,.slice none 0 0,.int .i64 M.last,v4]:=h25;have HT:=(show Hid _ from TS0.of hq (HBA.out.trans (hC.mono HBA.out.size)) (below_blk hC HA.out) hqb c0 c4 #[v0,.slice none 0 0,.slice none 0 0,.int .i64 M.last,v4]);have HQ:Hid ((w1.setRow q #[v0,.slice none 0 0,.slice none 0 0,.int .i64 M.last,v4]).heap[q]? = some (.cells #[v0,.slice none 0 0,.slice none 0 0,.int .i64 M.last,v4] 67 (0,0))):=heap_setRow_at hqb
  have hone:(#[v0,.slice none 0 0,.slice none 0 0,.int .i64 M.last,v4]:Array Value).all (·.oneCell')=true:=by
   obtain⟨_,_,rfl,-⟩:=c0;obtain⟨_,_,rfl,-⟩:=c4;simp [go_sem]
  have hst:=storeA_blk hqb rfl rfl hone
  have hst':(stA (a.tmps.getD 3 undef) (a.tmps.getD 25 undef)).run Tryz.prog w1=.ok .skip (w1.setRow q #[v0,.slice none 0 0,.slice none 0 0,.int .i64 M.last,v4]):=by
   rw [h3,h25];exact hst
  refine step_st hst' rfl ?_;clear hst';clear hphi hne hst hone hqb c0 c4 h25;refine ‹∀ (a:Act) (w:World),Code.wp Tryz.prog _ _ a w->_› a _ ?_;obtain⟨⟨l⟩,ds⟩:=a;have hdf:ds = []:=hdf;subst hdf;have hsz:l.length=68+1:=hsz;clear hfr;obtain⟨t0,l0,rfl,g0⟩:=len_cons hsz;obtain⟨t1,l1,rfl,g1⟩:=len_cons g0;obtain⟨t2,l2,rfl,g2⟩:=len_cons g1;obtain⟨t3,l3,rfl,g3⟩:=len_cons g2;obtain⟨t4,l4,rfl,g4⟩:=len_cons g3;obtain⟨t5,l5,rfl,g5⟩:=len_cons g4;obtain⟨t6,l6,rfl,g6⟩:=len_cons g5;obtain⟨t7,l7,rfl,g7⟩:=len_cons g6;obtain⟨t8,l8,rfl,g8⟩:=len_cons g7;obtain⟨t9,l9,rfl,g9⟩:=len_cons g8;obtain⟨t10,l10,rfl,g10⟩:=len_cons g9;obtain⟨t11,l11,rfl,g11⟩:=len_cons g10;obtain⟨t12,l12,rfl,g12⟩:=len_cons g11;obtain⟨t13,l13,rfl,g13⟩:=len_cons g12;obtain⟨t14,l14,rfl,g14⟩:=len_cons g13;obtain⟨t15,l15,rfl,g15⟩:=len_cons g14;obtain⟨t16,l16,rfl,g16⟩:=len_cons g15;obtain⟨t17,l17,rfl,g17⟩:=len_cons g16;obtain⟨t18,l18,rfl,g18⟩:=len_cons g17;obtain⟨t19,l19,rfl,g19⟩:=len_cons g18;obtain⟨t20,l20,rfl,g20⟩:=len_cons g19;obtain⟨t21,l21,rfl,g21⟩:=len_cons g20;obtain⟨t22,l22,rfl,g22⟩:=len_cons g21;obtain⟨t23,l23,rfl,g23⟩:=len_cons g22;obtain⟨t24,l24,rfl,g24⟩:=len_cons g23;obtain⟨t25,l25,rfl,g25⟩:=len_cons g24;obtain⟨t26,l26,rfl,g26⟩:=len_cons g25;obtain⟨t27,l27,rfl,g27⟩:=len_cons g26;obtain⟨t28,l28,rfl,g28⟩:=len_cons g27;obtain⟨t29,l29,rfl,g29⟩:=len_cons g28;obtain⟨t30,l30,rfl,g30⟩:=len_cons g29;obtain⟨t31,l31,rfl,g31⟩:=len_cons g30;obtain⟨t32,l32,rfl,g32⟩:=len_cons g31;obtain⟨t33,l33,rfl,g33⟩:=len_cons g32;obtain⟨t34,l34,rfl,g34⟩:=len_cons g33;obtain⟨t35,l35,rfl,g35⟩:=len_cons g34;obtain⟨t36,l36,rfl,g36⟩:=len_cons g35;obtain⟨t37,l37,rfl,g37⟩:=len_cons g36;obtain⟨t38,l38,rfl,g38⟩:=len_cons g37;obtain⟨t39,l39,rfl,g39⟩:=len_cons g38;obtain⟨t40,l40,rfl,g40⟩:=len_cons g39;obtain⟨t41,l41,rfl,g41⟩:=len_cons g40;obtain⟨t42,l42,rfl,g42⟩:=len_cons g41;obtain⟨t43,l43,rfl,g43⟩:=len_cons g42;obtain⟨t44,l44,rfl,g44⟩:=len_cons g43;obtain⟨t45,l45,rfl,g45⟩:=len_cons g44;obtain⟨t46,l46,rfl,g46⟩:=len_cons g45;obtain⟨t47,l47,rfl,g47⟩:=len_cons g46;obtain⟨t48,l48,rfl,g48⟩:=len_cons g47;obtain⟨t49,l49,rfl,g49⟩:=len_cons g48;obtain⟨t50,l50,rfl,g50⟩:=len_cons g49;obtain⟨t51,l51,rfl,g51⟩:=len_cons g50;obtain⟨t52,l52,rfl,g52⟩:=len_cons g51;obtain⟨t53,l53,rfl,g53⟩:=len_cons g52;obtain⟨t54,l54,rfl,g54⟩:=len_cons g53;obtain⟨t55,l55,rfl,g55⟩:=len_cons g54;obtain⟨t56,l56,rfl,g56⟩:=len_cons g55;obtain⟨t57,l57,rfl,g57⟩:=len_cons g56;obtain⟨t58,l58,rfl,g58⟩:=len_cons g57;obtain⟨t59,l59,rfl,g59⟩:=len_cons g58;obtain⟨t60,l60,rfl,g60⟩:=len_cons g59;obtain⟨t61,l61,rfl,g61⟩:=len_cons g60;obtain⟨t62,l62,rfl,g62⟩:=len_cons g61;obtain⟨t63,l63,rfl,g63⟩:=len_cons g62;obtain⟨t64,l64,rfl,g64⟩:=len_cons g63;obtain⟨t65,l65,rfl,g65⟩:=len_cons g64;obtain⟨t66,l66,rfl,g66⟩:=len_cons g65;obtain⟨t67,l67,rfl,g67⟩:=len_cons g66;obtain⟨t68,l68,rfl,g68⟩:=len_cons g67;obtain rfl:l68 = []:=List.length_eq_zero_iff.1 g68;have h0:t0=.pointer (some ⟨p,0,none⟩):=h0;have h2:t2=.pointer (some ⟨w.heap.size,0,none⟩):=h2;have h3:t3=.pointer (some ⟨q,0,none⟩):=h3;subst h0 h2 h3;clear hdf hsz g0 g1 g2 g3 g4 g5 g6 g7 g8 g9 g10 g11 g12 g13 g14 g15 g16 g17 g18 g19 g20 g21 g22 g23 g24 g25 g26 g27 g28 g29 g30 g31 g32 g33 g34 g35 g36 g37 g38 g39 g40 g41 g42 g43 g44 g45 g46 g47 g48 g49 g50 g51 g52 g53 g54 g55 g56 g57 g58 g59 g60 g61 g62 g63 g64 g65 g66 g67 g68 h0 h2 h3;change Code.wp _ _ _ ({ tmps:=#[.pointer (some ⟨p,0,none⟩),t1,.pointer (some ⟨w.heap.size,0,none⟩),.pointer (some ⟨q,0,none⟩),t4,t5,t6,t7,t8,t9,t10,t11,t12,t13,t14,t15,t16,t17,t18,t19,t20,t21,t22,t23,t24,t25,t26,t27,t28,t29,t30,t31,t32,t33,t34,t35,t36,t37,t38,t39,t40,t41,t42,t43,t44,t45,t46,t47,t48,t49,t50,t51,t52,t53,t54,t55,t56,t57,t58,t59,t60,t61,t62,t63,t64,t65,t66,t67,t68],defers:=[] }:Act) _;have hBW:Bl wA (w1.setRow q #[v0,.slice none 0 0,.slice none 0 0,.int .i64 M.last,v4]):=Below.setRow hC (by have:=HSA.out;omega) _
  have HTA:Hid (TG wA (w1.setRow q #[v0,.slice none 0 0,.slice none 0 0,.int .i64 M.last,v4]) w1.heap.size q M v0 v4 0 (w1.setRow q #[v0,.slice none 0 0,.slice none 0 0,.int .i64 M.last,v4])) :=
   ⟨hBW,fun _ _ _=>rfl,HT.out.hb0,_,[],HQ.out,RowE.nil _ _ _,rfl,fun i x hx=>by simp at hx⟩
  have c1:=(HV.out.below hBW).c1;have HAq:Hid (wA.heap.size≤q/\q<w1.heap.size):=⟨by have:=HSA.out;omega,HT.out.ql.2⟩;clear hBW hC hq HQ;revert HTA HT c1 HAq;generalize w1.setRow _ _=W;generalize w1.heap.size=b0;intro HT HTA c1 HAq;obtain⟨nc,hnc⟩:∃ nc,nc=M.cuts.length:=⟨_,rfl⟩;have Hnc:=(show Hid (nc=M.cuts.length/\nc≤16)from⟨hnc,by have:=HV.out.ok.cuts;have:=HV.out.ok.sides;omega⟩);have hnc16:nc≤16:=Hnc.out.2;rw [<- hnc]at c1;clear hnc
  go_wp2_with fail
  clear c1
  go_loopw [31] (fun vi wr=>∃ k:Nat,vi=.int .i64 k/\k≤nc/\W=wr) (fun vi _=>nc - (intOf vi).toNat)
  case atStart=>exact⟨0,rfl,by omega,rfl⟩
  case round =>
   obtain⟨k,rfl,hk,rfl⟩:=hrel
   by_cases hkn:k<nc
   ·have hkz:(k:Int)<(nc:Int):=by omega
    obtain⟨x,hx⟩:∃ x,M.cuts[k]? = some x:=⟨_,List.getElem?_eq_getElem (by have:=Hnc.out.1;omega)⟩;have hcx:W.cell? ⟨cg,k,none⟩=some (.bool x):=(HV.out.below HTA.out.b).cut.cell (by rw [List.getElem?_map,hx];rfl);obtain rfl:=HCut.out x (List.mem_of_getElem? hx);clear hx
    go_wp2_with fail
    go_roundw
    case rel=>exact⟨k+1,by go_num,by omega,by first | rfl | trivial⟩
    case measure =>
     simp [intOf];omega
   ·have hkz:¬ (k:Int)<(nc:Int):=by omega
    obtain rfl:k=nc:=by omega
    have HWr:=(show Hid (IsW W p M F)from⟨_,_,_,_,_,_,_,_,_,_,HV.out.below HTA.out.b⟩)
    go_wp2_with fail
    refine(refs_W HWr.out).mono ?_;rintro e w5 ⟨g,capg,rfl,hR,hb5⟩;have HR5:=(show Hid (w5.ownsRow W.heap.size 25 1 (.slice (some ⟨g,0,none⟩) M.things.length capg) M.things.length ((M.things.map (·.1)).map (Value.int .i64)))from hR);have HT5:Hid (TG wA W b0 q M v0 v4 0 w5):=HTA.out.below hb5;have Hbase:=(show Hid (b0≤W.heap.size)from HTA.out.sz);obtain⟨n,hn⟩:∃ n,n=M.things.length:=⟨_,rfl⟩;have Hn:=(show Hid (n=M.things.length)from hn);rw [<- hn]at hsm HR5 ⊢;clear hR hb5 HTA HWr hn;revert HR5 Hbase;generalize hbs:W.heap.size=base;intro Hbase HR5;clear hbs
    go_wp2_with fail
    go_loopw [47] (fun vi wx=>∃ k:Nat,vi=.int .i64 k/\k≤n/\Hid (TG wA W b0 q M v0 v4 k wx)/\Hid (wx.ownsRow base 25 1 (.slice (some ⟨g,0,none⟩) n capg) n ((M.things.map (·.1)).map (Value.int .i64)))) (fun vi _=>n - (intOf vi).toNat)
    case atStart=>exact⟨0,rfl,by omega,HT5,HR5⟩
    case round =>
     clear HT5 HR5;obtain⟨i,rfl,hi,HT5,HR5⟩:=hrel
     by_cases hin:i<n
     ·have hiz:(i:Int)<(n:Int):=by omega
      obtain⟨⟨r,t⟩,hx⟩:∃ x,M.things[i]? = some x:=⟨_,List.getElem?_eq_getElem (by have:=Hn.out;omega)⟩;have hat:M.at r=some t:=HV.out.ok.at_of_mem (List.mem_of_getElem? hx);have HMy:=(show Hid (∃ k h n l tg bi s fu,t=lt k h 0 0 n l tg bi s fu)from HL.out r t hat);have hrw:=HV.out.ok.at_wf hat
      have hcx:wr.cell? ⟨g,i,none⟩=some (.int .i64 r):=by
       have:=HR5.out.cellAt i (by omega);rw [this];simp [hx]
      have HVd:=HV.out.below (HT5.out.b.trans (below_drew.mono HT5.out.b.size));have c2:=HVd.c2;have hlk:=HVd.look hrw;rw [hat]at hlk;simp only [Option.map_some]at hlk;have hld:=loadWhat_blk (HVd.blk r _ hat).1 rfl
      have HOwn:Hid (Calls Tryz.prog 80 #[.agg (thc t)] wr.drew fun e w'=>∃ vl' vals',e=.returned (.agg (thc { t with vl:=vl',vals:=vals' }))/\Below wr.drew.heap.size wr.drew w'/\Deep w' (fun b=>wr.drew.heap.size≤b) { t with vl:=vl',vals:=vals' }) :=
       by
        obtain⟨k,h,n,l,tg,bi,s,fu,e⟩:=HMy.out;rw [e];exact(ownWhat_W wr.drew k h 0 0 n l tg bi s fu (.inl ⟨rfl,rfl⟩)).mono fun e w' h=>⟨.slice none 0 0,.slice none 0 0,h.1,h.2,deep_lt _ _ _ _ _ _ _ _ _ _ _ _⟩
      obtain⟨vT,l,r1,r2,r3⟩:=HT5.out.r;have HR:=(show Hid _ from And.intro r1 (And.intro r2 r3));have cT:wr.cell? ⟨q,2,none⟩=some vT:=by rw [cell_blk r1];rfl
      have Hlen:Hid (l.length=i):=by show _=_;rw [r3.1,List.length_take];have:=Hn.out;omega
      have Hx:=(show Hid (M.things[i]? = some (r,t))from hx);obtain⟨kd,hm,⟨vk,vn,vstr,vlist,vr⟩,raw,vs,vals,nn,lo,tg,bi,s,fu,code,names⟩:=t;have hDp:=(HVd.blk r _ hat).2.2;obtain⟨pv,cv,hv⟩:=hDp.v.form;obtain⟨ps,cs,hvals⟩:=hDp.vs.form;have hcd:=hDp.code;have hnm:=hDp.names;simp only at hv hvals hcd hnm;subst hv hvals hcd hnm;simp only [thc]at hld HOwn;clear hx hat hrw HVd r1 r2 r3 hDp HMy
      go_wp2_with fail
      go_region_law (first
       | (go_simp
          go_at_call 80
          refine Calls.mono HOwn.out ?_;rintro e w5 ⟨vl',vals',rfl,hb5,hD5⟩;obtain⟨pv',cv',hv'⟩:=hD5.v.form;obtain⟨ps',cs',hvals'⟩:=hD5.vs.form;simp only at hv' hvals';subst hv' hvals';have hbb:Bl wr w5:=below_drew.trans hb5;have HT6:Hid (TG wA W b0 q M v0 v4 i w5):=HT5.out.below hbb
          have HX5:Hid (w5.heap[q]? = some (.cells #[v0,.slice none 0 0,vT,.int .i64 M.last,v4] 67 (0,0))/\RowE w5 b0 (fun b=>b0≤b) vT l/\LikeT (M.things.take i) l/\w5.ownsRow base 25 1 (.slice (some ⟨g,0,none⟩) n capg) n ((M.things.map (·.1)).map (Value.int .i64))/\w5.ownsRow b0 117 17 vT i (eflat l)):=by
           have h2:=HR.out.2.1.below hbb;exact⟨below_blk hbb HR.out.1,h2,HR.out.2.2,row_below HR5.out hbb,by have:=h2.row;rw [Hlen.out]at this;exact this⟩
          have HD5:Hid (DeepR w5 (fun b=>wr.heap.size≤b) ⟨kd,hm,⟨vk,vn,vstr,vlist,vr⟩,.slice pv' vlist.length cv',vs,.slice ps' vs.length cs',nn,lo,tg,bi,s,fu,.slice none 0 0,.slice none 0 0⟩/\b0≤wr.heap.size/\∀ b,vT.ownBlock=some b->b<wr.heap.size):=⟨⟨hD5.v.at,hD5.vs.at,rfl,rfl⟩,HT5.out.sz,fun b e=>(HR.out.2.1.own b e).2⟩;have cT5:w5.cell? ⟨q,2,none⟩=some vT:=by rw [cell_blk HX5.out.1];rfl
          have cT6:(w5.alloc (.cells #[.int .i64 r,.int .u8 kd,.int .i64 hm,.int .u8 vk,.int .i64 vn,.string vstr,.slice pv' vlist.length cv',.int .i64 vr,.slice ps' vs.length cs',.int .i64 nn,.int .i64 lo,.int .i64 tg,.int .i64 bi,.int .u8 s,.bool fu,.slice none 0 0,.slice none 0 0] 117)).cell? ⟨q,2,none⟩=some vT:=cell_al cT5 _;dsimp only
          clear hD5 hb5 hbb)
       | (apply step_entryG (w5:=w5) (b0:=b0) (n:=i) (v:=vT) (xs:=eflat l) (y:=(r,⟨kd,hm,⟨vk,vn,vstr,vlist,vr⟩,.slice pv' vlist.length cv',vs,.slice ps' vs.length cs',nn,lo,tg,bi,s,fu,.slice none 0 0,.slice none 0 0⟩))
          ·exact rfl
          ·exact rfl
          ·exact rfl
          ·exact rfl
          ·exact rfl
          ·exact HX5.out.2.2.2.2
          ·simp [entc,thc,go_sem]
          ·omega
          ·exact HT6.out.sz
          intro g6 cap6 w6 r1 r2 r3;obtain⟨hA6,hR6,cz6,fz6⟩:=TG.app Hlen.out HT6.out HAq.out.1 HAq.out.2 HX5.out.1 HX5.out.2.1 HX5.out.2.2.1 Hx.out HD5.out.1 HD5.out.2.1 HD5.out.2.2 HX5.out.2.2.2.1 Hbase.out r1 r2 r3;have HA6:=(show Hid _ from hA6);have HR6:=(show Hid _ from hR6)
          clear hA6 hR6 r1 r2 r3))
      all_goals
       clear HX5 HT6 HR cz6 fz6 cT5 cT6 HD5 HOwn
       go_wp2_with fail
       go_roundw
       case rel=>exact⟨i+1,by go_num,by omega,HA6,HR6⟩
       case measure =>
        simp [intOf];omega
     ·have hiz:¬ (i:Int)<(n:Int):=by omega
      obtain rfl:i=n:=by omega
      have hT:=HT5.out;obtain⟨vT,l,r1,r2,r3⟩:=hT.r;rw [List.take_of_length_le (by have:=Hn.out;omega)]at r3;have hb:=HBA.out.trans (hT.b.mono HBA.out.size);have hTd:=TG.told HT.out hT hb r2 r3 #[v0,.slice none 0 0,vT,.int .i64 M.last,v4];have HTd:=(show Hid _ from hTd);have hr0:wr.heap[w.heap.size]? = some (.cells #[.slice none 0 0,.slice none 0 0,.slice none 0 0,.int .i64 0,.slice none 0 0] 67 (0,0)):=(hT.kp _ (by have:=HT.out.ql;omega) (by have:=HT.out.ql;omega)).trans HT.out.r0
      have hone:(#[v0,.slice none 0 0,vT,.int .i64 M.last,v4]:Array Value).all (·.oneCell')=true:=by
       obtain⟨_,_,rfl,-⟩:=HT.out.s;obtain⟨_,_,rfl,-⟩:=HT.out.m;obtain⟨_,_,rfl⟩:=r2.form;simp [go_sem]
      have hld:=loadA_blk r1 rfl;have hst:=storeA_blk hr0 rfl rfl hone;have HG:=(show Hid _ from heap_setRow_at (c':=#[v0,.slice none 0 0,vT,.int .i64 M.last,v4]) hr0);clear hT r1 r2 r3 hb hTd hr0 hone HT5 HR5
      go_wp2_with fail
      refine bodyPost_ret (results_cell_row (P:=Tryz.prog) rfl _ _ _ 67 _ _ _ rfl HG.out Tryz.underlying67 rfl sizeAW) rfl ⟨_,rfl,HTd.out.1,HTd.out.2⟩
end
section
theorem IsR.keeps {w w':World} {q:Nat} {M:WM} {G S:Nat->Prop} (h:IsR w q M G) (hk:Keeps S w w') (hS:∀ b,G b->¬ S b):IsR w' q M G:=by
 obtain⟨sP,sC,sT,sM,h⟩:=h;have hG:=h.own
 exact⟨sP,sC,sT,sM,{
  blk:=hk.none h.blk (hS _ (hG q (.inl rfl)))
  rp:=ownsRow_keeps h.rp hk fun b hb=>hS b (hG b (.inr (.inl hb)))
  rc:=ownsRow_keeps h.rc hk fun b hb=>hS b (hG b (.inr (.inr (.inl hb))))
  rt:=ownsRow_keeps h.rt hk fun b hb=>hS b (hG b (.inr (.inr (.inr (.inl hb)))))
  rm:=ownsRow_keeps h.rm hk fun b hb=>hS b (hG b (.inr (.inr (.inr (.inr hb)))))
  own:=h.own
  lt:=fun b hb=>Nat.lt_of_lt_of_le (h.lt b hb) hk.size
  deep:=fun r t ht=>((h.deep r t ht).keeps hk fun b hb _=>hS b hb.1).mono fun b hb=>hb.1
  apq:=h.apq
  app:=h.app
  apc:=h.apc
  apt:=h.apt }⟩
theorem IsR.lt {w:World} {q:Nat} {M:WM} {G:Nat->Prop} (h:IsR w q M G):∀ b,G b->b<w.heap.size:=by
 obtain⟨sP,sC,sT,sM,h⟩:=h;exact h.lt
structure Both (w:World) (p q:Nat) (M N:WM) (F G:Nat->Prop):Prop where
 W:IsW w p M F
 R:IsR w q N G
 ap:∀ b,F b->¬ G b
 al:Alike M N
 one:∀ x ∈ N.things,(thc x.2).all (·.oneCell')=true
 may:GMay M
 wfs:∀ x ∈ M.things,x.2.v.wf/\(listV x.2.vs).wf
 cutM:∀ x ∈ M.cuts,x=false
 cutN:∀ b ∈ N.cuts.drop 1,b=false
 cutL:(N.cuts.drop 1).length=N.parents.length
 kp:∀ r t,M.at r=some t->t.kind=11->t.tgt≤M.last
section
variable {w w':World} {p q:Nat} {M N:WM} {F G:Nat->Prop}
theorem Both.lenM (h:Both w p q M N F G):(M.things.length:Int)≤M.last:=h.W.ok.len_le
theorem Both.good (h:Both w p q M N F G) (hl:M.last≤100000):RGood N where
 ok:=⟨by have:=h.lenM;have:=h.al.things.1;omega,fun x hx=>by
  obtain⟨y,hy,e1,vl,vals,e2⟩:=h.al.things.mem' hx;have hk:=(h.W.ok.wf y.1 y.2 (h.W.ok.at_of_mem hy)).kind
  exact⟨h.one x hx,by rw [e2];exact hk.1,by rw [e2];show y.2.kind≤255;omega⟩⟩
 last:=by rw [h.al.last];exact h.W.ok.last
 mades:=fun i x hx=>h.W.ok.mades i x (by rw [<- h.al.made];exact hx)
theorem Both.rmay (h:Both w p q M N F G):RMay N:=fun x hx=>by
 obtain⟨y,hy,-,vl,vals,e2⟩:=h.al.things.mem' hx;obtain⟨k,hh,n,l,tg,bi,s,fu,e3⟩:=h.may y.1 y.2 (h.W.ok.at_of_mem hy);rw [e2,e3];exact⟨depV_may (by rfl),fun v hv=>(by cases hv),Nat.zero_le _⟩
end
end
section
variable {w:World} {q:Nat} {M:WM} {G:Nat->Prop}
def LaidR (w:World) (q:Nat) (M:WM) (G:Nat->Prop) (r:Int) (t:Th) (e:Ending) (w':World):Prop :=
 e=.returned (.int .i64 0)/\∃ G',IsR w' q (M.set r t) G'/\Grew G w G' w'
theorem Grew.both {F F' F'':Nat->Prop} {a b c:World} (h:Grew F a F' b) (k:Grew F' b F'' c):Grew F a F'' c :=
 ⟨(h.then_keeps k.1).1,fun x hx=>(k.2 x hx).elim (fun h'=>h.2 x h') fun h'=>.inr (Nat.le_trans h.1.size h')⟩
end
end Go.Proofs.YthaliljaglldjaaGreat
