/- Part of the proof. -/
import Derived.Test.YthaliljaglldjaaGreatmAI
namespace Go.Proofs.YthaliljaglldjaaGreat
set_option maxHeartbeats 16000000
set_option maxRecDepth 20000
open Go.RowKit Go.ChangeMaps Go.MapKept
section
theorem keepsRow (w:World) (b:Nat) (c:Array Value):Keeps (fun z=>z=b) w (w.setRow b c):=⟨rfl,rfl,rfl,by simp [World.setRow],fun k _ hk=>heap_setRow_other _ _ _ _ hk⟩
theorem Keeps.none {S:Nat->Prop} {a b:World} (h:Keeps S a b) {k:Nat} {o:Obj} (hk:a.heap[k]? = some o) (hS:¬ S k):b.heap[k]? = some o:=(h.block k (blk_lt hk) hS).trans hk
end
section
theorem SlAt.of_row {w:World} {base:Nat} {F:Nat->Prop} {u:Value} {l:List Val} {raw:Nat->Value} (hrow:w.ownsRow base 27 5 u l.length (vflat l raw)) (hr:∀ i v,l[i]? = some v->SlAt w F (raw i) v.l) :
 SlAt w (fun y=>F y\/base≤y) u l:=by
 obtain⟨h1,⟨rfl,h0⟩ | ⟨g,cap,cur,rfl,hg,hb,hc,hm,hcs,ht⟩⟩:=hrow
 ·have:l = []:=List.length_eq_zero_iff.1 h0;subst this;exact SlAt.nil _ _ _ _
 ·refine SlAt.mk _ _ _ raw (fun i v hv=>?_) (fun i v hv=>(hr i v hv).mono fun _ h=>.inl h)
  have key:∀ k x,(vcs v (raw i))[k]? = some x->w.cell? ⟨g,0+5 * i+k,none⟩=some x:=fun k x hx=>by
   have h2:=vflat_at hv hx;rw [<- ht,List.getElem?_take]at h2;split at h2
   ·rw [cell_blk hb,show 0+5 * i+k=i * 5+k by omega,← Array.getElem?_toList];exact h2
   ·cases h2
  exact⟨g,0,rfl,.inr hg,key 0 _ rfl,key 1 _ rfl,key 2 _ rfl,key 3 _ rfl,key 4 _ rfl⟩
theorem vflat_snoc (l:List Val) (raw:Nat->Value) (v:Val) (rv:Value):vflat (l ++ [v]) (fun i=>if i<l.length then raw i else rv)=vflat l raw ++ (vcs v rv).toList:=by
 unfold vflat;rw [List.zipIdx_append,List.flatMap_append]
 have h1:(l.zipIdx.flatMap fun x=>(vcs x.1 (if x.2<l.length then raw x.2 else rv)).toList)=l.zipIdx.flatMap fun x=>(vcs x.1 (raw x.2)).toList:=by
  simp only [List.flatMap_def]
  congr 1
  refine List.map_congr_left fun x hx=>?_;have:=List.mem_zipIdx hx;rw [if_pos (by omega)]
 rw [h1];simp
end
section
def RowV (w:World) (base:Nat) (u:Value) (l:List Val):Prop :=
 ∃ raw:Nat->Value,w.ownsRow base 27 5 u l.length (vflat l raw)/\∀ i v,l[i]? = some v->SlAt w (fun b=>base≤b/\u.ownBlock≠some b) (raw i) v.l
theorem RowV.nil (w:World) (base:Nat):RowV w base (.slice none 0 0) []:=⟨fun _=>.slice none 0 0,World.ownsRow_nil _ _ _ _,fun i v h=>by simp at h⟩
theorem RowV.below {w w':World} {base:Nat} {u:Value} {l:List Val} (h:RowV w base u l) (hb:Bl w w'):RowV w' base u l:=by
 obtain⟨raw,⟨h1,h2⟩,h3⟩:=h;exact⟨raw,⟨h1,h2.imp id fun⟨g,cap,cur,e1,e2,e3,e4⟩=>⟨g,cap,cur,e1,e2,below_blk hb e3,e4⟩⟩,fun i v hv=>(h3 i v hv).on hb⟩
theorem RowV.at {w:World} {base:Nat} {u:Value} {l:List Val} (h:RowV w base u l):SlAt w (fun y=>base≤y) u l:=by
 obtain⟨raw,h1,h2⟩:=h;exact(SlAt.of_row h1 h2).mono fun y hy=>hy.elim (fun h=>h.1) id
theorem RowV.own {w:World} {base:Nat} {u:Value} {l:List Val} (h:RowV w base u l):∀ b,u.ownBlock=some b->base≤b/\b<w.heap.size:=fun b hb=>by
 obtain⟨raw,⟨h1,⟨rfl,-⟩ | ⟨g,cap,cur,rfl,h2,h3,-⟩⟩,-⟩:=h
 ·cases hb
 ·cases hb
  exact⟨h2,blk_lt h3⟩
theorem append_valR {w:World} {ops:Array Oper} {rest:List Oper} {o:Oper} {a:Act} {Q:Exit->Act->World->Prop} (hgd:o.guard=none) (s x:Operand)
 (ho:o.op=.call { callee:=.builtin .append,args:=#[s,x],argTypes:=#[24,24] }) (base:Nat)
 (u:Value) (l:List Val) (hs:a.eval s=u) (hown:Hid (RowV w base u l)) (y:Val) (raw:Value) (hy:Hid (SlAt w (fun b=>base≤b/\u.ownBlock≠some b) raw y.l)) (hx:a.eval x=.slice (some ⟨w.heap.size,0,none⟩) 1 1)
 (hn:Hid ((l.length:Int)≤1000)) (hbase:Hid (base≤w.heap.size))
 (h:∀ v' w',Hid (RowV w' base v' (l ++ [y]))->Hid (Keeps (fun b=>u.ownBlock=some b) w w')->wpList Tryz.prog ops Q rest (a.put o.dst v') w'):wpList Tryz.prog ops Q (o :: rest) a (w.alloc (.cells (vcs y raw) 27)):=by
 obtain⟨i,hi,hz,h1,h2⟩:=info_parts infoVal;have hn':=hn.out;obtain⟨rw0,hrow,hel⟩:=hown.out;have hyo:=hy.out;obtain⟨p,c,e⟩:=hyo.form
 have hone:∀ t ∈ (vcs y raw).toList,t.oneCell'=true:=by
  intro t ht;rw [e]at ht;simp [vcs]at ht
  rcases ht with rfl | rfl | rfl | rfl | rfl <;> rfl
 refine wpList_append_own_at _ hgd s x 24 ho base 27 i (.agg zV) 5 64 Tryz.underlying24 hi hz h1 h2 rfl (by decide) u l.length _ hs (hrow.alloc _) ⟨w.heap.size,0,none⟩ 1 1 (vcs y raw).toList hx (by simp [vcs]) (fun j t hj=>by
  rw [Addr.add_lit,Nat.zero_add,cell_blk (blk_new w _)]
  simpa using hj) hone (by unfold maxLen;omega) (by omega) (by have:=hbase.out;simp;omega) ?_
 intro v' w' r1 r2 _ r4;have hg:w.grownBy w' u.ownBlock:=(World.grownBy_alloc w _ _).trans r2;have hk:Keeps (fun b=>u.ownBlock=some b) w w':=⟨hg.os,hg.tape,hg.output,hg.size,fun k hk hne=>hg.block k hk (fun e=>hne e.symm)⟩;refine h v' w' ?_ hk;refine⟨fun k=>if k<l.length then rw0 k else raw,?_,fun k v hv=>?_⟩
 ·rw [vflat_snoc,List.length_append];exact r1
 ·have keep:∀ {rv:Value} {vl:List Val},SlAt w (fun b=>base≤b/\u.ownBlock≠some b) rv vl->SlAt w' (fun b=>base≤b/\v'.ownBlock≠some b) rv vl:=fun hS =>
   ((SlAt.lt hS).keeps hk (fun b h1 h2=>h2.1.2 h1)).mono fun b hb=>⟨hb.1.1,fun e'=>by
     rcases r4 with r4 | r4
     ·exact hb.1.2 (r4 ▸ e')
     ·rw [r4]at e';simp at e';have:=hb.2
      omega⟩
  show SlAt w' _ (if k<l.length then rw0 k else raw) v.l
  by_cases hkl:k<l.length
  ·rw [if_pos hkl];rw [List.getElem?_append_left hkl]at hv;exact keep (hel k v hv)
  ·rw [if_neg hkl]
   have:k=l.length:=by
    have:=(List.getElem?_eq_some_iff.1 hv).1;simp at this;omega
   subst this;simp at hv;subst hv;exact keep hyo
end
section
theorem execOp_ldV7a (ρ:Operand->Value) (ty:TypeId) (pos:String) (af:Array Edge) (g:Option (Nat × Bool)) :
 execOp ρ { dst:=some 17,op:=.load 27 (.tmp 16),type:=ty,pos:=pos,after:=af,guard:=g } = ldV (ρ (.tmp 16)):=rfl
theorem execOp_ldV7b (ρ:Operand->Value) (ty:TypeId) (pos:String) (af:Array Edge) (g:Option (Nat × Bool)) :
 execOp ρ { dst:=some 23,op:=.load 27 (.tmp 1),type:=ty,pos:=pos,after:=af,guard:=g } = ldV (ρ (.tmp 1)):=rfl
theorem results_rv (w:World) (b:Nat) (v:Value) (ts:Array Value) {x0 x1 x2 x3 x4:Value} (h:w.heap[b]? = some (.cells #[x0,x1,x2,x3,x4] 27 (0,0))) (h2:ts[2]? = some (.pointer (some ⟨b,0,none⟩))) (hv:v=.agg #[x0,x1,x2,x3,x4]) :
 (results Tryz.f207 ts).run Tryz.prog w=.ok v w:=by
 obtain⟨⟨c0,c1,c2,c3,c4⟩,-⟩:=cells5 h;simp [results,Tryz.results207,go_sem,c0,c1,c2,c3,c4,h2,hv]
def RvPost (w:World) (v:Val) (e:Ending) (w':World):Prop:=∃ raw',e=.returned (.agg (vcs v raw'))/\Bl w w'/\SlAt w' (fun b=>w.heap.size≤b) raw' v.l/\(v.l = []->raw'=.slice none 0 0)
def RvC (n:Nat):Prop:=∀ (v:Val) (raw:Value) (w:World) (F:Nat->Prop),depV n v->SlAt w F raw v.l->Calls Tryz.prog 207 #[.agg (vcs v raw)] w (RvPost w v)
structure RvR (w:World) (A:Array Value) (u:Value) (l:List Val) (wr:World):Prop where
 bel:Bl w wr
 box:wr.heap[w.heap.size]? = some (.cells A 27 (0,0))
 res:wr.heap[w.heap.size+1]? = some (.cells zV 27 (0,0))
 row:RowV wr (w.heap.size+2) u l
 nil:l = []->u=.slice none 0 0
theorem RvR.below {w wr w':World} {A:Array Value} {u:Value} {l:List Val} (h:RvR w A u l wr) (hb:Bl wr w'):RvR w A u l w' :=
 ⟨h.bel.trans (hb.mono h.bel.size),below_blk hb h.box,below_blk hb h.res,h.row.below hb,h.nil⟩
theorem RvR.more {w wr w':World} {A:Array Value} {u u':Value} {l:List Val} {y:Val} (h:RvR w A u l wr) (hk:Keeps (fun b=>u.ownBlock=some b) wr w') (hr:RowV w' (w.heap.size+2) u' (l ++ [y])):RvR w A u' (l ++ [y]) w' :=
 ⟨h.bel.trans (hk.below h.bel.size fun b hb=>by have:=(h.row.own b hb).1;omega),hk.none h.box (fun e=>by have:=(h.row.own _ e).1;omega),hk.none h.res (fun e=>by have:=(h.row.own _ e).1;omega),hr,fun e=>by simp at e⟩
theorem RvR.form {w wr:World} {A:Array Value} {u:Value} {l:List Val} (h:RvR w A u l wr):∃ p c,u=.slice p l.length c:=SlAt.form h.row.at
attribute [local go_sem ↓] execOp_ldV7a execOp_ldV7b execOp_stV in
theorem rv_step (n:Nat) (ih:∀ m,n=m+1->RvC m):RvC n:=by
 intro v raw w F hd hS;obtain⟨pa,c,rfl⟩:=hS.form;obtain⟨kind,nn,s,l,r⟩:=v
 have hlen:l.length≤512:=by
  cases n with
  | zero=>rw [show l = []from hd];simp
  | succ m=>exact hd.1
 have hrec:∀ x ∈ l,∀ raw w F,SlAt w F raw x.l->Calls Tryz.prog 207 #[.agg (vcs x raw)] w (RvPost w x):=fun x hx raw w F h=>by
  cases n with
  | zero=>rw [show l = []from hd]at hx;cases hx
  | succ m=>exact ih m rfl x raw w F (hd.2 x hx) h
 have HS:=(show Hid (∀ w',Bl w w'->SlAt w' F (.slice pa l.length c) l)from fun w' hb=>hS.on hb);have IH:=(show Hid _ from hrec);have HL:Hid (l.length≤512):=hlen
 have H0:Hid (RvR w #[.int .u8 kind,.int .i64 nn,.string s,.slice pa l.length c,.int .i64 r] (.slice none 0 0) [] ((w.alloc (.cells #[.int .u8 kind,.int .i64 nn,.string s,.slice pa l.length c,.int .i64 r] 27)).alloc (.cells zV 27))) :=
  ⟨((Below.refl _ w).alloc (Nat.le_refl _) _).alloc (by simp) _,blk2_old w _ _,blk2_new w _ _,RowV.nil _ _,fun _=>rfl⟩
 clear hS hd ih hrec hlen;simp only [vcs]
 go_enter Tryz.func207,Tryz.ntmps207
 go_upto_region 3 with fail
 go_loopw [3,4] (fun vu vi wr=>∃ i:Nat,vi=.int .i64 i/\i≤l.length/\Hid (RvR w #[.int .u8 kind,.int .i64 nn,.string s,.slice pa l.length c,.int .i64 r] vu (l.take i) wr)) (fun _ vi _=>l.length - (intOf vi).toNat)
 case atStart=>exact⟨0,rfl,Nat.zero_le _,H0.out⟩
 case round =>
  clear H0;obtain⟨i,rfl,hi,HR⟩:=hrel;obtain⟨⟨a0,a1,a2,a3,a4⟩,f0,f1,f2,f3,f4⟩:=cells5 HR.out.box
  by_cases hil:i<l.length
  ·have hiz:(i:Int)<(l.length:Int):=by omega
   obtain⟨y,hy⟩:∃ y,l[i]? = some y:=⟨_,List.getElem?_eq_getElem hil⟩;obtain⟨b,o,cq,raw,hpe,hrg,hlt,-,hSx⟩:=(HS.out wr HR.out.bel).range hy;have hpa:pa=some ⟨b,o,none⟩:=by injection hpe
   subst hpa;have HN:Hid (l.take (i+1)=l.take i ++ [y]):=by show _=_;rw [List.take_add_one,hy];rfl
   have HC:=(show Hid _ from IH.out y (List.mem_of_getElem? hy) raw wr F hSx);obtain⟨yk,yn,ys,yl,yr⟩:=y;obtain⟨pa2,c2,rfl⟩:=hSx.form;have hld0:=loadV_mid hrg rfl;have hld:(ldV (.pointer (some ⟨b,o+i * 5,none⟩))).run Tryz.prog wr=.ok (.value (.agg #[.int .u8 yk,.int .i64 yn,.string ys,.slice pa2 yl.length c2,.int .i64 yr])) wr:=hld0;have hwi:wrap64 ((i:Int)+1)=(i:Int)+1:=by have:=HL.out;unfold wrap64;omega
   simp only [vcs]at HC;clear hld0 hy hrg hSx hlt hpe
   go_wp2_with fail
   refine Calls.mono HC.out ?_;rintro e w5 ⟨raw',rfl,hb5,hs5,-⟩;obtain⟨pr,cr,rfl⟩:=hs5.form;have HR5:=(show Hid _ from HR.out.below hb5);have HY:Hid (SlAt w5 (fun b=>w.heap.size+2≤b/\u3.ownBlock≠some b) (.slice pr yl.length cr) yl):=hs5.mono fun z hz=>⟨by have:=blk_lt HR.out.res;omega,fun e=>by have:=(HR.out.row.own z e).2;omega⟩;have HRW:=(show Hid (RowV w5 (w.heap.size+2) u3 (l.take i))from HR5.out.row);have HNn:Hid (((l.take i).length:Int)≤1000):=by show _≤_;have:=HL.out;rw [List.length_take];omega
   have HBs:Hid (w.heap.size+2≤w5.heap.size):=by have:=blk_lt HR5.out.res;exact this
   clear hb5 hs5 HR HC hld a0 a1 a2 a3 a4 f0 f1 f2 f3 f4;simp only [vcs]
   go_wp2_with (at_builtin;refine append_valR rfl _ _ rfl (w.heap.size+2) u3 (l.take i) rfl HRW ⟨yk,yn,ys,yl,yr⟩ (.slice pr yl.length cr) HY rfl HNn HBs ?_;intro v' w7 hrow hk
                have HR7:=(show Hid (RvR w _ v' (l.take (i+1)) w7)from HN.out ▸ HR5.out.more hk.out hrow.out)
                clear hrow hk HR5 HRW HY HBs HNn)
   go_roundw
   case rel=>exact⟨i+1,by go_num,by omega,HR7.out⟩
   case measure=>rw [hwi];simp [intOf];omega
  ·have hiz:¬ (i:Int)<(l.length:Int):=by omega
   obtain rfl:i=l.length:=by omega
   have hkk:¬ (l.length:Int)<(l.length:Int):=by omega
   have HR:=HR.out;rw [List.take_length]at HR;obtain⟨p8,c8,rfl⟩:=HR.form;have hg:=HR.box;have hgs:(wr.setCell ⟨w.heap.size,3,none⟩ (.slice p8 l.length c8)).heap[w.heap.size]? = some (.cells #[.int .u8 kind,.int .i64 nn,.string s,.slice p8 l.length c8,.int .i64 r] 27 (0,0)):=by rw [blk_setCell hg];rfl
   have hrs:(wr.setCell ⟨w.heap.size,3,none⟩ (.slice p8 l.length c8)).heap[w.heap.size+1]? = some (.cells zV 27 (0,0)):=(Below.heap_setCell wr ⟨w.heap.size,3,none⟩ _ _ (by simp)).trans HR.res;have hld:=loadV_blk hgs rfl;have hst:=storeV_blk (c':=#[.int .u8 kind,.int .i64 nn,.string s,.slice p8 l.length c8,.int .i64 r]) hrs rfl rfl (by simp [go_sem])
   have HF:Hid (∀ w9,w9=(wr.setCell ⟨w.heap.size,3,none⟩ (.slice p8 l.length c8)).setRow (w.heap.size+1) #[.int .u8 kind,.int .i64 nn,.string s,.slice p8 l.length c8,.int .i64 r]->w9.heap[w.heap.size+1]? = some (.cells #[.int .u8 kind,.int .i64 nn,.string s,.slice p8 l.length c8,.int .i64 r] 27 (0,0)) /\
    RvPost w ⟨kind,nn,s,l,r⟩ (.returned (.agg #[.int .u8 kind,.int .i64 nn,.string s,.slice p8 l.length c8,.int .i64 r])) w9):=by
    intro w9 e;subst e
    have hk:Keeps (fun b=>b=w.heap.size\/b=w.heap.size+1) wr ((wr.setCell ⟨w.heap.size,3,none⟩ (.slice p8 l.length c8)).setRow (w.heap.size+1) #[.int .u8 kind,.int .i64 nn,.string s,.slice p8 l.length c8,.int .i64 r]) :=
     (Keeps.setCell (S:=fun b=>b=w.heap.size) wr ⟨w.heap.size,3,none⟩ _ rfl).trans (keepsRow _ _ _) (fun _ _ h=>.inl h) (fun _ _ h=>.inr h)
    refine⟨heap_setRow_at hrs,.slice p8 l.length c8,rfl,HR.bel.trans (hk.below HR.bel.size fun b hb=>?_),?_,fun e=>HR.nil e⟩
    ·rcases hb with hb | hb <;> omega
    ·exact(HR.row.at.keeps hk (fun b h1 h2=>by rcases h1 with h1 | h1 <;> omega)).mono fun b hb=>by omega
   clear hgs hrs hg HR
   go_wp2_with fail
   exact bodyPost_ret (results_rv _ _ _ _ (HF.out _ rfl).1 rfl rfl) rfl (HF.out _ rfl).2
theorem rvalue_W (n:Nat):RvC n:=by
 induction n with
 | zero=>exact rv_step 0 (fun m h=>by cases h)
 | succ n ih=>exact rv_step (n+1) (fun m h=>by cases h;exact ih)
end
end Go.Proofs.YthaliljaglldjaaGreat
