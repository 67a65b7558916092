/- Part of the proof. -/
import Derived.Test.YthaliljaglldjaaGreatmAL
namespace Go.Proofs.YthaliljaglldjaaGreat
set_option maxHeartbeats 16000000
set_option maxRecDepth 20000
open Go.RowKit Go.ChangeMaps Go.MapKept
section
theorem eflat_snoc (l:List (Int × Th)) (x:Int × Th):eflat (l ++ [x])=eflat l ++ entc x:=by simp [eflat]
theorem eflat_len (l:List (Int × Th)):(eflat l).length=l.length * 17:=by
 induction l with
 | nil=>rfl
 | cons x l ih =>
   unfold eflat at ih ⊢;rw [List.flatMap_cons,List.length_append,ih,entc_len,List.length_cons];omega
structure RowE (w:World) (base:Nat) (G:Nat->Prop) (u:Value) (l:List (Int × Th)):Prop where
 row:w.ownsRow base 117 17 u l.length (eflat l)
 deep:∀ x ∈ l,DeepR w (fun b=>G b/\u.ownBlock≠some b) x.2
theorem DeepR.mono {w:World} {G G':Nat->Prop} {t:Th} (h:DeepR w G t) (hG:∀ b,G b->G' b):DeepR w G' t:=⟨h.v.mono hG,h.vs.mono hG,h.code,h.names⟩
theorem DeepR.keeps {w w':World} {G S:Nat->Prop} {t:Th} (h:DeepR w G t) (hk:Keeps S w w') (hS:∀ b,G b->b<w.heap.size->¬ S b):DeepR w' (fun b=>G b/\b<w.heap.size) t :=
 ⟨(SlAt.lt h.v).keeps hk fun b h1 h2=>hS b h2.1 h2.2 h1,(SlAt.lt h.vs).keeps hk fun b h1 h2=>hS b h2.1 h2.2 h1,h.code,h.names⟩
theorem RowE.nil (w:World) (base:Nat) (G:Nat->Prop):RowE w base G (.slice none 0 0) []:=⟨World.ownsRow_nil _ _ _ _,fun x hx=>by cases hx⟩
theorem RowE.below {w w':World} {base:Nat} {G:Nat->Prop} {u:Value} {l:List (Int × Th)} (h:RowE w base G u l) (hb:Bl w w'):RowE w' base G u l:=by
 obtain⟨⟨h1,h2⟩,h3⟩:=h;exact⟨⟨h1,h2.imp id fun⟨g,cap,cur,e1,e2,e3,e4⟩=>⟨g,cap,cur,e1,e2,below_blk hb e3,e4⟩⟩,fun x hx=>(h3 x hx).on hb⟩
theorem RowE.own {w:World} {base:Nat} {G:Nat->Prop} {u:Value} {l:List (Int × Th)} (h:RowE w base G u l):∀ b,u.ownBlock=some b->base≤b/\b<w.heap.size:=fun b hb=>by
 obtain⟨⟨h1,⟨rfl,-⟩ | ⟨g,cap,cur,rfl,h2,h3,-⟩⟩,-⟩:=h
 ·cases hb
 ·cases hb
  exact⟨h2,blk_lt h3⟩
theorem RowE.form {w:World} {base:Nat} {G:Nat->Prop} {u:Value} {l:List (Int × Th)} (h:RowE w base G u l):∃ p c,u=.slice p l.length c:=by
 obtain⟨⟨h1,⟨rfl,h0⟩ | ⟨g,cap,cur,rfl,h2,h3,-⟩⟩,-⟩:=h
 ·exact⟨none,0,by rw [h0]⟩
 ·exact⟨_,_,rfl⟩
def zEntry:Array Value:=#[.int .i64 0,.int .u8 0,.int .i64 0,.int .u8 0,.int .i64 0,.string ⟨#[]⟩,.slice none 0 0,.int .i64 0,.slice none 0 0,.int .i64 0,.int .i64 0,.int .i64 0,.int .i64 0,.int .u8 0,.bool false,.slice none 0 0,.slice none 0 0]
theorem infoEntry:(Tryz.prog.info? 117).map (fun i=>(i.zero,i.size,i.bytes))=some (some (.agg zEntry),17,200):=by kernel_rfl
theorem Tryz.underlyingLEntry:Tryz.prog.underlying 65=some (.slice 117):=by kernel_rfl
theorem RowE.more {w w':World} {base:Nat} {G G':Nat->Prop} {u v':Value} {l:List (Int × Th)} {y:Int × Th} (h:RowE w base G u l) (hy:DeepR w (fun b=>G' b/\u.ownBlock≠some b) y.2) (hG:∀ b,G b->G' b)
 (r1:w'.ownsRow base 117 17 v' (l ++ [y]).length (eflat (l ++ [y]))) (hk:Keeps (fun b=>u.ownBlock=some b) w w') (r4:v'.ownBlock=u.ownBlock\/v'.ownBlock=some w.heap.size):RowE w' base G' v' (l ++ [y]):=by
 refine⟨r1,fun x hx=>?_⟩
 have keep:∀ {t:Th},DeepR w (fun b=>G' b/\u.ownBlock≠some b) t->DeepR w' (fun b=>G' b/\v'.ownBlock≠some b) t:=fun hd =>
  (hd.keeps hk fun b hb _=>hb.2).mono fun b hb=>⟨hb.1.1,fun e=>by
   rcases r4 with r4 | r4
   ·exact hb.1.2 (r4 ▸ e)
   ·rw [r4]at e;have e':w.heap.size=b:=by injection e
    have:=hb.2
    omega⟩
 rcases List.mem_append.1 hx with hx | hx
 ·exact keep ((h.deep x hx).mono fun b hb=>⟨hG b hb.1,hb.2⟩)
 ·rw [List.mem_singleton.1 hx];exact keep hy
theorem wp_append_at {P:Program} {w:World} {o:Oper} {a:Act} {K:Act->World->Prop} {Q:Exit->Act->World->Prop} (s x:Operand) (t:TypeId)
 (ho:o.op=.call { callee:=.builtin .append,args:=#[s,x],argTypes:=#[t,t] })
 (base:Nat) (e:TypeId) (i:TypeInfo) (z:Value) (size bytes:Nat) (ht:P.underlying t=some (.slice e)) (hi:P.info? e=some i) (hz:i.zero=some z)
 (hsize:i.size=size) (hby:i.bytes=bytes) (hzs:z.cells.size=size) (hsz:0<size)
 (v:Value) (n:Nat) (xs:List Value) (hs:a.eval s=v) (hown:w.ownsRow base e size v n xs)
 (ad:Addr) (m c:Nat) (news:List Value) (hx:a.eval x=.slice (some ad) m c) (hl:news.length=m * size) (hnews:∀ j u,news[j]? = some u->w.cell? (ad.add j)=some u) (h1:∀ u ∈ news,u.oneCell'=true)
 (h63:n+m≤maxLen) (hbytes:(n+m) * bytes≤140737488355328) (hbase:base≤w.heap.size)
 (h:∀ v' w',w'.ownsRow base e size v' (n+m) (xs ++ news)->w.grownBy w' v.ownBlock->(v'.ownBlock=v.ownBlock\/v'.ownBlock=some w.heap.size)->K (a.put o.dst v') w'):o.wp P a w K Q:=by
 obtain⟨v',w',hr,h2,h3,h4,h5⟩:=run_append_own_at (P:=P) w base t o.type e i z size bytes ht hi hz hsize hby hzs hsz v n xs hown ad m c news hl hnews h1 h63 hbytes hbase;unfold Oper.wp execOp;simp only [ho,resolve,invoke,builtin,Sem.run_bind,Sem.run_pure,Result.andThen_ok,List.map_toArray,List.map_cons,List.map_nil,hs,hx,hr];exact h v' w' h2 h3 h5
theorem append_entW {w:World} {o:Oper} {a:Act} {K:Act->World->Prop} {Q:Exit->Act->World->Prop} (s x:Operand)
 (ho:o.op=.call { callee:=.builtin .append,args:=#[s,x],argTypes:=#[65,65] }) (base:Nat) {G G':Nat->Prop}
 (u:Value) (l:List (Int × Th)) (hs:a.eval s=u) (hown:RowE w base G u l) (y:Int × Th) {g c:Nat} (hx:a.eval x=.slice (some ⟨g,0,none⟩) 1 c) (hg:w.heap[g]? = some (.cells (entc y).toArray 117 (0,0)))
 (hy:DeepR w (fun b=>G' b/\u.ownBlock≠some b) y.2) (hone:(thc y.2).all (·.oneCell')=true) (hG:∀ b,G b->G' b)
 (hn:l.length≤1000000) (hbase:base≤w.heap.size)
 (h:∀ v' w',RowE w' base G' v' (l ++ [y])->Keeps (fun b=>u.ownBlock=some b) w w'->v'.ownBlock=u.ownBlock\/v'.ownBlock=some w.heap.size->K (a.put o.dst v') w'):o.wp Tryz.prog a w K Q:=by
 obtain⟨i,hi,hz,h1,h2⟩:=info_parts infoEntry
 refine wp_append_at s x 65 ho base 117 i (.agg zEntry) 17 200 Tryz.underlyingLEntry hi hz h1 h2 rfl (by decide) u l.length _ hs hown.row ⟨g,0,none⟩ 1 c (entc y) hx (by rw [entc_len]) (fun j t hj=>by
  rw [Addr.add_lit,Nat.zero_add,cell_blk hg]
  simpa using hj) (fun t ht=>?_) (by unfold maxLen;omega) (by omega) hbase ?_
 ·rcases List.mem_cons.1 ht with rfl | ht
  ·rfl
  ·exact Array.all_eq_true_iff_forall_mem.1 hone t (by simpa using ht)
 ·intro v' w' r1 r2 r4;have hk:Keeps (fun b=>u.ownBlock=some b) w w':=⟨r2.os,r2.tape,r2.output,r2.size,fun k hk hne=>r2.block k hk (fun e=>hne e.symm)⟩;refine h v' w' (hown.more hy hG ?_ hk r4) hk r4;rw [eflat_snoc,List.length_append];exact r1
theorem append_ent {w:World} {ops:Array Oper} {rest:List Oper} {o:Oper} {a:Act} {Q:Exit->Act->World->Prop} (hgd:o.guard=none) (s x:Operand)
 (ho:o.op=.call { callee:=.builtin .append,args:=#[s,x],argTypes:=#[65,65] }) (base:Nat) {G G':Nat->Prop}
 (u:Value) (l:List (Int × Th)) (hs:a.eval s=u) (hown:RowE w base G u l) (y:Int × Th) {g c:Nat} (hx:a.eval x=.slice (some ⟨g,0,none⟩) 1 c) (hg:w.heap[g]? = some (.cells (entc y).toArray 117 (0,0)))
 (hy:DeepR w (fun b=>G' b/\u.ownBlock≠some b) y.2) (hone:(thc y.2).all (·.oneCell')=true) (hG:∀ b,G b->G' b)
 (hn:l.length≤1000000) (hbase:base≤w.heap.size)
 (h:∀ v' w',RowE w' base G' v' (l ++ [y])->Keeps (fun b=>u.ownBlock=some b) w w'->v'.ownBlock=u.ownBlock\/v'.ownBlock=some w.heap.size->wpList Tryz.prog ops Q rest (a.put o.dst v') w'):wpList Tryz.prog ops Q (o :: rest) a w :=
 wpList_plain hgd fun _ hK=>append_entW s x ho base u l hs hown y hx hg hy hone hG hn hbase fun v' w' h1 h2 h3=>hK _ _ (h v' w' h1 h2 h3)
end
section
theorem ownsRow_keeps {w w':World} {S:Nat->Prop} {base s n:Nat} {e:TypeId} {v:Value} {xs:List Value} (h:w.ownsRow base e s v n xs) (hk:Keeps S w w') (hS:∀ b,v.ownBlock=some b->¬ S b):w'.ownsRow base e s v n xs:=by
 obtain⟨h1,h2⟩:=h;refine⟨h1,h2.imp id fun⟨g,cap,cur,e1,e2,e3,e4⟩=>⟨g,cap,cur,e1,e2,hk.none e3 (hS g ?_),e4⟩⟩;rw [e1];rfl
theorem RVw.row_lt {w:World} {q:Nat} {M:WM} {G:Nat->Prop} {sP sC sT sM:Value} (h:RVw w q M G sP sC sT sM):∀ b,(sP.ownBlock=some b\/sC.ownBlock=some b\/sT.ownBlock=some b\/sM.ownBlock=some b)->b<w.heap.size:=fun b hb=>h.lt b (h.own b (.inr hb))
def Own7Q (t:Th) (n0:Nat) (vl' vals':Value) (wx:World):Prop:=SlAt wx (fun b=>n0≤b) vl' t.v.l/\SlAt wx (fun b=>n0≤b) vals' t.vs/\(t.v.l = []->vl'=.slice none 0 0)/\(t.vs = []->vals'=.slice none 0 0)
theorem Own7Q.on {t:Th} {n0:Nat} {vl' vals':Value} {w w':World} (h:Own7Q t n0 vl' vals' w) (hb:Bl w w'):Own7Q t n0 vl' vals' w':=⟨h.1.on hb,h.2.1.on hb,h.2.2⟩
def Add7Q (w1:World) (G:Nat->Prop) (sT:Value) (l:List (Int × Th)) (r:Int) (t:Th) (v:Value) (wx:World):Prop :=
 ∃ vl' vals',RowE wx 0 (fun b=>G b\/w1.heap.size≤b) v (l ++ [(r,{ t with vl:=vl',vals:=vals' })])/\Keeps (fun b=>sT.ownBlock=some b) w1 wx/\(v.ownBlock=sT.ownBlock\/∃ g,v.ownBlock=some g/\w1.heap.size≤g)/\(t.v.l = []->vl'=.slice none 0 0)/\(t.vs = []->vals'=.slice none 0 0)
theorem execOp_ldAdP21 (ρ:Operand->Value) (ty:TypeId) (pos:String) (af:Array Edge) (g:Option (Nat × Bool)) :
 execOp ρ { dst:=some 21,op:=.load 46 (.tmp 3),type:=ty,pos:=pos,after:=af,guard:=g } = ldW (ρ (.tmp 3)):=rfl
def AdP (q:Nat) (L:Int) (sT:Value) (t:Th) (w1:World) (G:Nat->Prop) (l:List (Int × Th)) (p:Bool) (j:Nat) (v:Value) (wx:World):Prop :=
 match j with
 | 0=>v=.pointer (some ⟨q,0,none⟩)
 | 1=>v=.pointer (some ⟨q,0,none⟩)
 | 2=>v=.pointer (some ⟨q,0,none⟩)
 | 3=>v=.pointer (some ⟨q,2,none⟩)
 | 4=>v=sT
 | 5=>v=.pointer (some ⟨q,0,none⟩)
 | 6=>v=.pointer (some ⟨q,0,none⟩)
 | 7=>v=.pointer (some ⟨q,3,none⟩)
 | 8=>v=.int .i64 L
 | 9=>v=.agg (thc t)
 | 10=>p=false->(∃ vl' vals',v=.agg (thc { t with vl:=vl',vals:=vals' })/\Own7Q t w1.heap.size vl' vals' wx)
 | 11=>p=false->(∃ vl' vals',v=.agg (entc (L,{ t with vl:=vl',vals:=vals' })).toArray/\Own7Q t w1.heap.size vl' vals' wx)
 | 12=>p=false->(∃ g vl' vals',v=.slice (some ⟨g,0,none⟩) 1 1/\wx.heap[g]? = some (.cells (entc (L,{ t with vl:=vl',vals:=vals' })).toArray 117 (0,0))/\Own7Q t w1.heap.size vl' vals' wx)
 | 13=>p=true->Add7Q w1 G sT l L t v wx
 | 14=>v=.pointer (some ⟨q,0,none⟩)
 | 15=>v=.pointer (some ⟨q,2,none⟩)
 | _=>True
theorem AdP.stab {q:Nat} {L:Int} {sT:Value} {t:Th} {w1:World} {G:Nat->Prop} {l:List (Int × Th)}:∀ (j:Nat) (v:Value) (w w':World),Bl w w'->AdP q L sT t w1 G l false j v w->AdP q L sT t w1 G l false j v w':=by
 intro j v w w' hR h;unfold AdP at h ⊢;split at h
 ·exact h
 ·exact h
 ·exact h
 ·exact h
 ·exact h
 ·exact h
 ·exact h
 ·exact h
 ·exact h
 ·exact h
 ·intro _;have h:=h rfl;exact h.imp fun _ h=>h.imp fun _ h=>⟨h.1,h.2.on hR⟩
 ·intro _;have h:=h rfl;exact h.imp fun _ h=>h.imp fun _ h=>⟨h.1,h.2.on hR⟩
 ·intro _;have h:=h rfl;exact h.imp fun _ h=>h.imp fun _ h=>h.imp fun _ h=>⟨h.1,below_blk hR h.2.1,h.2.2.on hR⟩
 ·exact fun e=>by cases e
 ·exact h
 ·exact h
 ·trivial
theorem AdP.turn {q:Nat} {L:Int} {sT:Value} {t:Th} {w1:World} {G:Nat->Prop} {l:List (Int × Th)}:∀ (j:Nat) (v:Value) (w w':World),j≠13->AdP q L sT t w1 G l false j v w->AdP q L sT t w1 G l true j v w':=by
 intro j v w w' hne h;unfold AdP at h ⊢;split at h
 ·exact h
 ·exact h
 ·exact h
 ·exact h
 ·exact h
 ·exact h
 ·exact h
 ·exact h
 ·exact h
 ·exact h
 ·exact fun e=>by cases e
 ·exact fun e=>by cases e
 ·exact fun e=>by cases e
 ·exact absurd rfl hne
 ·exact h
 ·exact h
 ·trivial
def AddR (w:World) (q:Nat) (N:WM) (G:Nat->Prop) (t:Th) (e:Ending) (w':World):Prop :=
 ∃ vl' vals' G',e=.returned (.int .i64 (N.last+1))/\IsR w' q { N with things:=N.things ++ [(N.last+1,{ t with vl:=vl',vals:=vals' })],last:=N.last+1 } G'/\Keeps G w w'/\(∀ b,G' b->G b\/w.heap.size≤b)/\(t.v.l = []->vl'=.slice none 0 0)/\(t.vs = []->vals'=.slice none 0 0)
theorem add7_W {w:World} {q:Nat} {N:WM} {G F:Nat->Prop} (hR:IsR w q N G) (hl:N.things.length≤100000) (hla:0≤N.last/\N.last≤1099511627776) (t:Th) (h1:SlAt w F t.vl t.v.l) (h2:SlAt w F t.vals t.vs) (hc:t.code=.slice none 0 0) (hn:t.names=.slice none 0 0) (hd:depV 16 t.v) (hds:∀ x ∈ t.vs,depV 16 x) (hvl:t.vs.length≤1000) (hF:∀ b,F b->¬ G b) :
 Calls Tryz.prog 83 #[.pointer (some ⟨q,0,none⟩),.agg (thc t)] w (AddR w q N G t):=by
 obtain⟨sP,sC,sT,sM,hV⟩:=hR;have hqlt:=blk_lt hV.blk;have c3:w.cell? ⟨q,3,none⟩=some (.int .i64 N.last):=by rw [cell_blk hV.blk];rfl
 have f3:=frozen_blk hV.blk 3;have hw1:wrap64 (N.last+1)=N.last+1:=by unfold wrap64;omega
 have HW:Hid (∀ w1,w1=(w.setCell ⟨q,3,none⟩ (.int .i64 (N.last+1))).alloc (.cells (thc t) 46)->w1.heap.size=w.heap.size+1/\w1.heap[q]? = some (.cells #[sP,sC,sT,.int .i64 (N.last+1),sM] 94 (0,0))/\w1.heap[w.heap.size]? = some (.cells (thc t) 46 (0,0))/\Keeps (fun b=>b=q) w w1):=by
  intro w1 e;subst e;have hs:(w.setCell ⟨q,3,none⟩ (.int .i64 (N.last+1))).heap.size=w.heap.size:=by simp [World.setCell]
  refine⟨by simp [hs],blk_old _ _ (blk_setCell hV.blk 3 _),?_,(Keeps.setCell (S:=fun b=>b=q) _ _ _ rfl).then_below ((Below.refl _ _).alloc (Nat.le_refl _) _)⟩;rw [<- hs];exact blk_new _ _
 have HV:=(show Hid (RVw w q N G sP sC sT sM)from hV);have HO:Hid (∀ w',Keeps (fun b=>b=q) w w'->Calls Tryz.prog 113 #[.agg (thc t)] w' fun e w''=>∃ vl' vals',e=.returned (.agg (thc { t with vl:=vl',vals:=vals' }))/\Bl w' w''/\SlAt w'' (fun b=>w'.heap.size≤b) vl' t.v.l/\SlAt w'' (fun b=>w'.heap.size≤b) vals' t.vs/\(t.v.l = []->vl'=.slice none 0 0)/\(t.vs = []->vals'=.slice none 0 0)):=fun w' hk=>rown7_W t (h1.lt.keeps hk (fun b e h=>hF b h.1 (by subst e;exact hV.own _ (.inl rfl)))) (h2.lt.keeps hk (fun b e h=>hF b h.1 (by subst e;exact hV.own _ (.inl rfl)))) hc hn hd hds hvl
 have HL:Hid (N.things.length≤100000/\t.code=.slice none 0 0/\t.names=.slice none 0 0/\∀ vl' vals',(∃ p n c,vl'=.slice p n c)->(∃ p n c,vals'=.slice p n c)->(thc { t with vl:=vl',vals:=vals' }).all (·.oneCell')=true):=⟨hl,hc,hn,fun vl' vals' ⟨p,n,c,e⟩ ⟨p',n',c',e'⟩=>by
  subst e e';simp only [thc,hc,hn]
  simp [go_sem]⟩
 clear hV h1 h2 hc hn hd hds hvl hl hla
 go_enter Tryz.func83,Tryz.ntmps83
 go_upto_region 2 with fail
 rw [hw1];generalize hwe:World.alloc (World.setCell _ _ _) _=w1;have HW1:=(show Hid (_/\_/\_/\_)from HW.out w1 hwe.symm)
 have HRE:Hid (RowE w1 0 (fun b=>G b/\b≠q/\sP.ownBlock≠some b/\sC.ownBlock≠some b/\sM.ownBlock≠some b) sT N.things):=by
  have hk:=HW1.out.2.2.2;refine⟨?_,fun x hx=>?_⟩
  ·obtain⟨e1,e2⟩:=HV.out.rt;refine⟨e1,e2.imp id fun⟨g,cap,cur,a1,a2,a3,a4⟩=>⟨g,cap,cur,a1,a2,hk.none a3 (fun e=>?_),a4⟩⟩;subst e;rw [a1]at HV;exact HV.out.apq.2.2.1 rfl
  ·exact((HV.out.deep x.1 x.2 hx).keeps hk fun b hb _ e=>hb.2.1 e).mono fun b hb=>⟨⟨hb.1.1,hb.1.2.1,hb.1.2.2.1,hb.1.2.2.2.1,hb.1.2.2.2.2.2⟩,hb.1.2.2.2.2.1⟩
 clear hwe HW c3 f3 hw1;obtain⟨L,hL⟩:∃ L,L=N.last+1:=⟨_,rfl⟩;obtain⟨B,hB⟩:∃ B,B=w.heap.size:=⟨_,rfl⟩;rw [<- hL,← hB]at HW1 ⊢;have HX1:Hid (w1.heap[q]? = some (.cells #[sP,sC,sT,.int .i64 L,sM] 94 (0,0))/\w1.heap[B]? = some (.cells (thc t) 46 (0,0))/\∀ w',Bl w1 w'->Keeps (fun b=>b=q) w w'):=⟨HW1.out.2.1,HW1.out.2.2.1,fun w' hb=>HW1.out.2.2.2.then_below hb⟩;have HLe:=(show Hid (L=N.last+1/\B=w.heap.size)from⟨hL,hB⟩);clear hL hB;refine wp_region_growPK 16 13 [0,14,15] (by kernel_rfl) rfl (by kernel_rfl) (by kernel_rfl) (by decide) (by kernel_rfl) (fun a b=>Bl a b) (AdP q L sT t w1 (fun b=>G b/\b≠q/\sP.ownBlock≠some b/\sC.ownBlock≠some b/\sM.ownBlock≠some b) N.things) (fun p w'=>p=false->Bl w1 w') AdP.stab (fun _=>below_drew) (fun a b h hR _=>(h rfl).trans (hR.mono (h rfl).size)) ?_ ?_ ?_ ?_ ?_
 ·exact fun _ _ _ _ _ h1 h2=>noGuard (by kernel_rfl) h1 h2
 ·intro j q a w7 hne hq hC hG;have hC:=hC rfl;have hj:j<16:=(List.getElem?_eq_some_iff.1 hq).1
  match j,hj with
  | 0,_=>cases hq;have h0':a.tmps[0]?.getD undef=.pointer (some ⟨q,0,none⟩):=gq (hG.fr 0 (by simp));unfold Oper.wp;simp [go_sem,Act.eval,h0'];exact⟨_,rfl,Below.refl _ _,rfl⟩
  | 1,_=>cases hq;have h0':a.tmps[0]?.getD undef=.pointer (some ⟨q,0,none⟩):=gq (hG.fr 0 (by simp));unfold Oper.wp;simp [go_sem,Act.eval,h0'];exact⟨_,rfl,Below.refl _ _,rfl⟩
  | 2,_=>cases hq;have h13':a.tmps[13]?.getD undef=_:=gq (hG.dep ⟨1,.data⟩ (by simp) rfl _ rfl);unfold Oper.wp;simp [go_sem,Act.eval,h13'];exact⟨_,rfl,Below.refl _ _,rfl⟩
  | 3,_=>cases hq;have h14':a.tmps[14]?.getD undef=_:=gq (hG.dep ⟨2,.data⟩ (by simp) rfl _ rfl);unfold Oper.wp;simp [go_sem,Act.eval,h14'];exact⟨_,rfl,Below.refl _ _,rfl⟩
  | 4,_ =>
    cases hq;have h15':a.tmps[15]?.getD undef=_:=gq (hG.dep ⟨3,.data⟩ (by simp) rfl _ rfl);have c3:w7.cell? ⟨q,2,none⟩=some (sT):=by rw [cell_blk (below_blk hC HX1.out.1)];rfl
    unfold Oper.wp;simp [go_sem,Act.eval,h15',c3];exact⟨_,rfl,Below.refl _ _,rfl⟩
  | 5,_=>cases hq;have h0':a.tmps[0]?.getD undef=.pointer (some ⟨q,0,none⟩):=gq (hG.fr 0 (by simp));unfold Oper.wp;simp [go_sem,Act.eval,h0'];exact⟨_,rfl,Below.refl _ _,rfl⟩
  | 6,_=>cases hq;have h17':a.tmps[17]?.getD undef=_:=gq (hG.dep ⟨5,.data⟩ (by simp) rfl _ rfl);unfold Oper.wp;simp [go_sem,Act.eval,h17'];exact⟨_,rfl,Below.refl _ _,rfl⟩
  | 7,_=>cases hq;have h18':a.tmps[18]?.getD undef=_:=gq (hG.dep ⟨6,.data⟩ (by simp) rfl _ rfl);unfold Oper.wp;simp [go_sem,Act.eval,h18'];exact⟨_,rfl,Below.refl _ _,rfl⟩
  | 8,_ =>
    cases hq;have h19':a.tmps[19]?.getD undef=_:=gq (hG.dep ⟨7,.data⟩ (by simp) rfl _ rfl);have c3:w7.cell? ⟨q,3,none⟩=some (.int .i64 L):=by rw [cell_blk (below_blk hC HX1.out.1)];rfl
    unfold Oper.wp;simp [go_sem,Act.eval,h19',c3];exact⟨_,rfl,Below.refl _ _,rfl⟩
  | 9,_ =>
    cases hq;have h3:a.tmps.getD 3 undef=.pointer (some ⟨B,0,none⟩):=hG.fr 3 (by simp);refine step_g (.agg (thc t)) ?_ (Below.refl _ _) rfl;rw [execOp_ldAdP21];show (ldW (a.tmps.getD 3 undef)).run _ _=_;rw [h3];exact loadWhat_blk (below_blk hC HX1.out.2.1) rfl
  | 10,_ =>
    cases hq;have h21':a.tmps[21]?.getD undef=_:=gq (hG.dep ⟨9,.data⟩ (by simp) rfl _ rfl);unfold Oper.wp;simp [go_sem,callFunc,Act.eval,Tryz.func113,h21'];refine Calls.mono (HO.out _ (HX1.out.2.2 _ hC)) ?_;rintro e w8 ⟨vl',vals',rfl,hb8,o1,o2,o3,o4⟩;exact⟨_,rfl,hb8,fun _=>⟨vl',vals',rfl,o1.mono fun b hb=>Nat.le_trans hC.size hb,o2.mono fun b hb=>Nat.le_trans hC.size hb,o3,o4⟩⟩
  | 11,_ =>
    cases hq;have h20':a.tmps[20]?.getD undef=_:=gq (hG.dep ⟨8,.data⟩ (by simp) rfl _ rfl);have p22:(∃ vl' vals',(a.tmps.getD 22 undef)=.agg (thc { t with vl:=vl',vals:=vals' })/\Own7Q t w1.heap.size vl' vals' w7):=hG.dep ⟨10,.data⟩ (by simp) rfl _ rfl rfl
    obtain⟨vl',vals',e22,hq⟩:=p22;have h22':a.tmps[22]?.getD undef=.agg #[.int .u8 t.kind,.int .i64 t.home,.int .u8 t.v.kind,.int .i64 t.v.n,.string t.v.s,vl',.int .i64 t.v.r,vals',.int .i64 t.n,.int .i64 t.lost,.int .i64 t.tgt,.int .i64 t.bi,.int .u8 t.set,.bool t.full,t.code,t.names]:=by have e22':=e22;simp only [thc]at e22';rw [<- e22'];simp [Array.getD_eq_getD_getElem?]
    unfold Oper.wp;simp [go_sem,Act.eval,h20',h22'];exact⟨_,rfl,Below.refl _ _,fun _=>⟨vl',vals',rfl,hq⟩⟩
  | 12,_ =>
    cases hq;have p23:(∃ vl' vals',(a.tmps.getD 23 undef)=.agg (entc (L,{ t with vl:=vl',vals:=vals' })).toArray/\Own7Q t w1.heap.size vl' vals' w7):=hG.dep ⟨11,.data⟩ (by simp) rfl _ rfl rfl
    obtain⟨vl',vals',e23,hq⟩:=p23;have h23':a.tmps[23]?.getD undef=.agg #[.int .i64 L,.int .u8 t.kind,.int .i64 t.home,.int .u8 t.v.kind,.int .i64 t.v.n,.string t.v.s,vl',.int .i64 t.v.r,vals',.int .i64 t.n,.int .i64 t.lost,.int .i64 t.tgt,.int .i64 t.bi,.int .u8 t.set,.bool t.full,t.code,t.names]:=by rw [show (#[.int .i64 L,.int .u8 t.kind,.int .i64 t.home,.int .u8 t.v.kind,.int .i64 t.v.n,.string t.v.s,vl',.int .i64 t.v.r,vals',.int .i64 t.n,.int .i64 t.lost,.int .i64 t.tgt,.int .i64 t.bi,.int .u8 t.set,.bool t.full,t.code,t.names]:Array Value)=(entc (L,{ t with vl:=vl',vals:=vals' })).toArray from rfl,← e23];simp [Array.getD_eq_getD_getElem?]
    unfold Oper.wp;simp [go_sem,Act.eval,h23'];exact⟨_,rfl,(Below.refl _ _).alloc (Nat.le_refl _) _,fun _=>⟨_,vl',vals',rfl,blk_new _ _,hq.on ((Below.refl _ _).alloc (Nat.le_refl _) _)⟩⟩
  | 13,_=>exact absurd rfl hne
  | 14,_=>cases hq;have h12':a.tmps[12]?.getD undef=_:=gq (hG.dep ⟨0,.data⟩ (by simp) rfl _ rfl);unfold Oper.wp;simp [go_sem,Act.eval,h12'];exact⟨_,rfl,Below.refl _ _,rfl⟩
  | 15,_=>cases hq;have h26':a.tmps[26]?.getD undef=_:=gq (hG.dep ⟨14,.data⟩ (by simp) rfl _ rfl);unfold Oper.wp;simp [go_sem,Act.eval,h26'];exact⟨_,rfl,Below.refl _ _,rfl⟩
 ·intro q a w7 hq hC hG;have hC:=hC rfl;cases hq;have h16:a.tmps.getD 16 undef=sT:=hG.dep ⟨4,.data⟩ (by simp) rfl _ rfl;have h16':a.tmps[16]?.getD undef=sT:=gq h16;have p24:(∃ g vl' vals',(a.tmps.getD 24 undef)=.slice (some ⟨g,0,none⟩) 1 1/\w7.heap[g]? = some (.cells (entc (L,{ t with vl:=vl',vals:=vals' })).toArray 117 (0,0))/\Own7Q t w1.heap.size vl' vals' w7):=hG.dep ⟨12,.data⟩ (by simp) rfl _ rfl rfl
  obtain⟨g,vl',vals',e24,hg,hq⟩:=p24;refine append_entW (.tmp 16) (.tmp 24) rfl 0 (G:=_) (G':=fun b=>(G b/\b≠q/\sP.ownBlock≠some b/\sC.ownBlock≠some b/\sM.ownBlock≠some b)\/w1.heap.size≤b) sT N.things h16 (HRE.out.below hC) (L,{ t with vl:=vl',vals:=vals' }) e24 hg ?_ ?_ (fun b h=>.inl h) (by have:=HL.out.1;omega) (Nat.zero_le _) ?_
  ·exact⟨hq.1.mono fun b hb=>⟨.inr hb,fun e=>by have:=(HRE.out.own b e).2;omega⟩,hq.2.1.mono fun b hb=>⟨.inr hb,fun e=>by have:=(HRE.out.own b e).2;omega⟩,HL.out.2.1,HL.out.2.2.1⟩
  ·exact HL.out.2.2.2 vl' vals' (by obtain⟨p,c,e⟩:=hq.1.form;exact⟨p,_,c,e⟩) (by obtain⟨p,c,e⟩:=hq.2.1.form;exact⟨p,_,c,e⟩)
  ·intro v' w' hr hk ho;exact⟨v',rfl,(fun h=>by cases h),fun _=>⟨vl',vals',hr,(Keeps.of_below hC).trans hk (fun _ _ h=>h) (fun _ _ h=>h),ho.imp id fun h=>⟨_,h,hC.size⟩,hq.2.2.1,hq.2.2.2⟩,fun j u hj h=>AdP.turn j u w7 w' hj h⟩
 ·intro j q a w7 hl hq hC hG;have hj:j<16:=(List.getElem?_eq_some_iff.1 hq).1
  match j,hj with
  | 0,_ =>
    cases hq;have h0':a.tmps[0]?.getD undef=.pointer (some ⟨q,0,none⟩):=gq (hG.fr 0 (by simp));refine step_g (R:=fun x y=>y=x) (.pointer (some ⟨q,0,none⟩)) ?_ rfl rfl;simp [execOp,go_sem,Act.eval,h0']
  | 1,_=>exact absurd hl (by decide)
  | 2,_=>exact absurd hl (by decide)
  | 3,_=>exact absurd hl (by decide)
  | 4,_=>exact absurd hl (by decide)
  | 5,_=>exact absurd hl (by decide)
  | 6,_=>exact absurd hl (by decide)
  | 7,_=>exact absurd hl (by decide)
  | 8,_=>exact absurd hl (by decide)
  | 9,_=>exact absurd hl (by decide)
  | 10,_=>exact absurd hl (by decide)
  | 11,_=>exact absurd hl (by decide)
  | 12,_=>exact absurd hl (by decide)
  | 13,_=>exact absurd hl (by decide)
  | 14,_ =>
    cases hq;have h12':a.tmps[12]?.getD undef=_:=gq (hG.dep ⟨0,.data⟩ (by simp) rfl _ rfl);refine step_g (R:=fun x y=>y=x) (.pointer (some ⟨q,0,none⟩)) ?_ rfl rfl;simp [execOp,go_sem,Act.eval,h12']
  | 15,_ =>
    cases hq;have h26':a.tmps[26]?.getD undef=_:=gq (hG.dep ⟨14,.data⟩ (by simp) rfl _ rfl);refine step_g (R:=fun x y=>y=x) (.pointer (some ⟨q,2,none⟩)) ?_ rfl rfl;simp [execOp,go_sem,Act.eval,h26']
 ·intro a w7 hC hdf hsz hfr hphi;have e0:a.tmps.getD 12 undef=.pointer (some ⟨q,0,none⟩):=hphi 0 _ rfl;have e1:a.tmps.getD 13 undef=.pointer (some ⟨q,0,none⟩):=hphi 1 _ rfl;have e2:a.tmps.getD 14 undef=.pointer (some ⟨q,0,none⟩):=hphi 2 _ rfl;have e3:a.tmps.getD 15 undef=.pointer (some ⟨q,2,none⟩):=hphi 3 _ rfl;have e4:a.tmps.getD 16 undef=sT:=hphi 4 _ rfl;have e5:a.tmps.getD 17 undef=.pointer (some ⟨q,0,none⟩):=hphi 5 _ rfl;have e6:a.tmps.getD 18 undef=.pointer (some ⟨q,0,none⟩):=hphi 6 _ rfl;have e7:a.tmps.getD 19 undef=.pointer (some ⟨q,3,none⟩):=hphi 7 _ rfl;have e8:a.tmps.getD 20 undef=.int .i64 L:=hphi 8 _ rfl;have e9:a.tmps.getD 21 undef=.agg (thc t):=hphi 9 _ rfl;obtain⟨u10,e10⟩:∃ u,a.tmps.getD 22 undef=u:=⟨_,rfl⟩;obtain⟨u11,e11⟩:∃ u,a.tmps.getD 23 undef=u:=⟨_,rfl⟩;obtain⟨u12,e12⟩:∃ u,a.tmps.getD 24 undef=u:=⟨_,rfl⟩;have p13:Add7Q w1 (fun b=>G b/\b≠q/\sP.ownBlock≠some b/\sC.ownBlock≠some b/\sM.ownBlock≠some b) sT N.things L t (a.tmps.getD 25 undef) w7:=hphi 13 _ rfl rfl;obtain⟨u13,e13⟩:∃ u,a.tmps.getD 25 undef=u:=⟨_,rfl⟩;rw [e13]at p13;have e14:a.tmps.getD 26 undef=.pointer (some ⟨q,0,none⟩):=hphi 14 _ rfl;have e15:a.tmps.getD 27 undef=.pointer (some ⟨q,2,none⟩):=hphi 15 _ rfl;have ha:=act_of hdf hsz hfr;simp only [List.take_succ_cons,List.take_zero,List.filterMap_cons,List.filterMap_nil,List.foldl_cons,List.foldl_nil,List.setIfInBounds_toArray,List.set_cons_zero,List.set_cons_succ,e0,e1,e2,e3,e4,e5,e6,e7,e8,e9,e10,e11,e12,e13,e14,e15]at ha;clear hdf hsz hfr hphi hC e0 e1 e2 e3 e4 e5 e6 e7 e8 e9 e10 e11 e12 e13 e14 e15;subst ha;obtain⟨vl',vals',hre,hk,ho,n1,n2⟩:=p13;have hq7:w7.heap[q]? = some (.cells #[sP,sC,sT,.int .i64 L,sM] 94 (0,0)):=hk.none HX1.out.1 HV.out.apq.2.2.1;have c2:w7.cell? ⟨q,2,none⟩=some sT:=by rw [cell_blk hq7];rfl
  have c3:w7.cell? ⟨q,3,none⟩=some (.int .i64 L):=by rw [cell_blk hq7];rfl
  have f2:=frozen_blk hq7 2;obtain⟨p5,c5,rfl⟩:=hre.form
  have HF:Hid (AddR w q N G t (.returned (.int .i64 L)) (w7.setCell ⟨q,2,none⟩ (.slice p5 (N.things ++ [(L,{ t with vl:=vl',vals:=vals' })]).length c5))):=by
   obtain⟨hL,hB⟩:=HLe.out;have hv:=HV.out;have hlt:=hv.row_lt;have hsz:w1.heap.size=w.heap.size+1:=by rw [HW1.out.1,hB]
   have hk7:Keeps (fun b=>b=q\/sT.ownBlock=some b) w w7:=(HW1.out.2.2.2.mono (T:=fun b=>b=q\/sT.ownBlock=some b) fun _ _ h=>.inl h).trans hk (fun _ _ h=>h) (fun _ _ h=>.inr h);have hk8:=hk7.trans (Keeps.setCell (S:=fun b=>b=q) w7 ⟨q,2,none⟩ (.slice p5 (N.things ++ [(L,{ t with vl:=vl',vals:=vals' })]).length c5) rfl) (fun _ _ h=>h) (fun _ _ h=>.inl h)
   have hkq:=Keeps.setCell (S:=fun b=>b=q) w7 ⟨q,2,none⟩ (.slice p5 (N.things ++ [(L,{ t with vl:=vl',vals:=vals' })]).length c5) rfl
   generalize hve:(Value.slice p5 (N.things ++ [(L,{ t with vl:=vl',vals:=vals' })]).length c5)=v' at *
   have hvn:∀ b,v'.ownBlock=some b->sT.ownBlock=some b\/w1.heap.size≤b:=fun b hb=>by
    rcases ho with ho | ⟨g,ho,hg⟩
    ·exact .inl (ho ▸ hb)
    ·rw [ho]at hb
     cases hb
     exact .inr hg
   have hvl:∀ b,v'.ownBlock=some b->b<w7.heap.size:=fun b hb=>(hre.own b hb).2;refine⟨vl',vals',fun b=>G b\/(w.heap.size≤b/\b<(w7.setCell ⟨q,2,none⟩ v').heap.size),by rw [hL],⟨sP,sC,v',sM,?_⟩,hk8.mono fun b _ hb=>?_,fun b hb=>hb.imp id fun h=>h.1,n1,n2⟩
   ·refine { blk:=?_,rp:=?_,rc:=?_,rt:=?_,rm:=?_,own:=?_,lt:=?_,deep:=?_,apq:=?_,app:=?_,apc:=?_,apt:=?_ }
    ·rw [<- hL];exact blk_setCell hq7 2 v'
    ·exact ownsRow_keeps hv.rp hk8 fun b hb h=>h.elim (fun e=>hv.apq.1 (e ▸ hb)) (fun e=>(hv.app b hb).2.1 e)
    ·exact ownsRow_keeps hv.rc hk8 fun b hb h=>h.elim (fun e=>hv.apq.2.1 (e ▸ hb)) (fun e=>(hv.apc b hb).1 e)
    ·rw [<- hL];exact ownsRow_keeps hre.row hkq fun b hb e=>(hvn b hb).elim (fun h=>hv.apq.2.2.1 (e ▸ h)) (fun h=>by omega)
    ·exact ownsRow_keeps hv.rm hk8 fun b hb h=>h.elim (fun e=>hv.apq.2.2.2 (e ▸ hb)) (fun e=>hv.apt b e hb)
    ·intro b hb
     rcases hb with hb | hb | hb | hb | hb
     ·exact .inl (hv.own b (.inl hb))
     ·exact .inl (hv.own b (.inr (.inl hb)))
     ·exact .inl (hv.own b (.inr (.inr (.inl hb))))
     ·rcases hvn b hb with h | h
      ·exact .inl (hv.own b (.inr (.inr (.inr (.inl h)))))
      ·exact .inr ⟨by omega,by simpa [World.setCell]using hvl b hb⟩
     ·exact .inl (hv.own b (.inr (.inr (.inr (.inr hb)))))
    ·intro b hb
     rcases hb with hb | hb
     ·exact Nat.lt_of_lt_of_le (hv.lt b hb) hk8.size
     ·exact hb.2
    ·intro r u hru;rw [<- hL]at hru;refine((hre.deep (r,u) hru).keeps hkq fun b hb _ e=>?_).mono fun b hb=>?_
     ·rcases hb.1 with h | h
      ·exact h.2.1 e
      ·omega
     ·obtain⟨⟨h,hnv⟩,hb7⟩:=hb
      rcases h with h | h
      ·exact⟨.inl h.1,h.2.1,h.2.2.1,h.2.2.2.1,hnv,h.2.2.2.2⟩
      ·have key:∀ {s:Value},(∀ b,s.ownBlock=some b->b<w.heap.size)->s.ownBlock≠some b:=fun hs e=>by have:=hs b e;omega
       exact⟨.inr ⟨by omega,by simpa [World.setCell]using hb7⟩,by omega,key fun b e=>hlt b (.inl e),key fun b e=>hlt b (.inr (.inl e)),hnv,key fun b e=>hlt b (.inr (.inr (.inr e)))⟩
    ·exact⟨hv.apq.1,hv.apq.2.1,fun e=>(hvn q e).elim hv.apq.2.2.1 (fun h=>by omega),hv.apq.2.2.2⟩
    ·exact fun b hb=>⟨(hv.app b hb).1,fun e=>(hvn b e).elim (hv.app b hb).2.1 (fun h=>by have:=hlt b (.inl hb);omega),(hv.app b hb).2.2⟩
    ·exact fun b hb=>⟨fun e=>(hvn b e).elim (hv.apc b hb).1 (fun h=>by have:=hlt b (.inr (.inl hb));omega),(hv.apc b hb).2⟩
    ·exact fun b hb e=>(hvn b hb).elim (fun h=>hv.apt b h e) (fun h=>by have:=hlt b (.inr (.inr (.inr e)));omega)
   ·rcases hb with rfl | hb
    ·exact hv.own _ (.inl rfl)
    ·exact hv.own b (.inr (.inr (.inr (.inl hb))))
  clear hq7 hre hk ho n1 n2 HO HRE HX1 HW1;refine⟨rfl,?_⟩;unfold Oper.wp;simp [execOp,go_sem,Act.eval,wpTailG,c2,f2];refine ‹∀ (a:Act) (w:World),Code.wp Tryz.prog _ _ a w->_› _ _ ?_
  go_wp2_with fail
  go_ret
  have hf:=HF.out;simp only [List.length_append,List.length_cons,List.length_nil,Nat.zero_add]at hf;exact hf
end
section
def Val.wf (v:Val):Prop:=v=⟨0,0,⟨#[]⟩,[],0⟩\/v=⟨3,0,⟨#[]⟩,[],0⟩
end
section
theorem parts4_L (w:World) (k:Int) (_hk:k=0\/k=3) (pa:Option Addr) (c:Nat):Calls Tryz.prog 236 #[.agg #[.int .u8 k,.int .i64 0,.string ⟨#[]⟩,.slice pa 0 c,.int .i64 0],.int .i64 0] w fun e w'=>e=.returned (.int .i64 1)/\Bl w w':=by
 have H1:Hid (Bl w (w.alloc (.cells #[.int .u8 k,.int .i64 0,.string ⟨#[]⟩,.slice pa 0 c,.int .i64 0] 27))/\(w.alloc (.cells #[.int .u8 k,.int .i64 0,.string ⟨#[]⟩,.slice pa 0 c,.int .i64 0] 27)).heap[w.heap.size]? = some (.cells #[.int .u8 k,.int .i64 0,.string ⟨#[]⟩,.slice pa 0 c,.int .i64 0] 27 (0,0))):=⟨(Below.refl _ w).alloc (Nat.le_refl _) _,blk_new _ _⟩;clear _hk
 go_enter Tryz.func236,Tryz.ntmps236
 go_upto_region 1 with fail
 revert H1;generalize w.alloc _=w1;intro H1;obtain⟨⟨a0,a1,a2,a3,a4⟩,-⟩:=cells5 H1.out.2
 go_wp2_with fail
 go_loopw [5,6] (fun vn vi wr=>vn=.int .i64 1/\vi=.int .i64 0/\w1=wr) (fun _ _ _=>0)
 case atStart=>exact⟨rfl,rfl,rfl⟩
 case round =>
  obtain⟨rfl,rfl,rfl⟩:=hrel
  go_wp2_with fail
  go_ret
  exact⟨rfl,H1.out.1⟩
theorem deep4_L (w:World) (k:Int) (hk:k=0\/k=3) (pa:Option Addr) (c:Nat):Calls Tryz.prog 237 #[.agg #[.int .u8 k,.int .i64 0,.string ⟨#[]⟩,.slice pa 0 c,.int .i64 0]] w fun e w'=>∃ d,e=.returned (.int .i64 d)/\d≤1/\Bl w w':=by
 have H1:Hid (Bl w (w.alloc (.cells #[.int .u8 k,.int .i64 0,.string ⟨#[]⟩,.slice pa 0 c,.int .i64 0] 27))/\(w.alloc (.cells #[.int .u8 k,.int .i64 0,.string ⟨#[]⟩,.slice pa 0 c,.int .i64 0] 27)).heap[w.heap.size]? = some (.cells #[.int .u8 k,.int .i64 0,.string ⟨#[]⟩,.slice pa 0 c,.int .i64 0] 27 (0,0))):=⟨(Below.refl _ w).alloc (Nat.le_refl _) _,blk_new _ _⟩
 rcases hk with rfl | rfl
 ·go_enter Tryz.func237,Tryz.ntmps237
  go_upto_region 1 with fail
  revert H1;generalize w.alloc _=w1;intro H1;obtain⟨⟨a0,a1,a2,a3,a4⟩,-⟩:=cells5 H1.out.2
  go_wp2_with fail
  go_ret
  exact⟨0,rfl,by decide,H1.out.1⟩
 ·go_enter Tryz.func237,Tryz.ntmps237
  go_upto_region 1 with fail
  revert H1;generalize w.alloc _=w1;intro H1;obtain⟨⟨a0,a1,a2,a3,a4⟩,-⟩:=cells5 H1.out.2
  go_wp2_with fail
  go_loopw [3,4] (fun vn vi wr=>vn=.int .i64 0/\vi=.int .i64 0/\w1=wr) (fun _ _ _=>0)
  case atStart=>exact⟨rfl,rfl,rfl⟩
  case round =>
   obtain⟨rfl,rfl,rfl⟩:=hrel
   go_wp2_with fail
   go_ret
   exact⟨1,rfl,by decide,H1.out.1⟩
theorem field4_L (w:World) (k:Int) (hk:k=0\/k=3) (pa:Option Addr) (c:Nat):Calls Tryz.prog 267 #[.agg #[.int .u8 k,.int .i64 0,.string ⟨#[]⟩,.slice pa 0 c,.int .i64 0]] w fun e w'=>e=.returned (.bool true)/\Bl w w':=by
 have H1:Hid (Bl w (w.alloc (.cells #[.int .u8 k,.int .i64 0,.string ⟨#[]⟩,.slice pa 0 c,.int .i64 0] 27))/\(w.alloc (.cells #[.int .u8 k,.int .i64 0,.string ⟨#[]⟩,.slice pa 0 c,.int .i64 0] 27)).heap[w.heap.size]? = some (.cells #[.int .u8 k,.int .i64 0,.string ⟨#[]⟩,.slice pa 0 c,.int .i64 0] 27 (0,0))):=⟨(Below.refl _ w).alloc (Nat.le_refl _) _,blk_new _ _⟩
 rcases hk with rfl | rfl
 all_goals
  go_enter Tryz.func267,Tryz.ntmps267
  go_upto_region 1 with fail
  revert H1;generalize w.alloc _=w1;intro H1;obtain⟨⟨a0,a1,a2,a3,a4⟩,-⟩:=cells5 H1.out.2
  go_wp2_with fail
  go_ret
  exact⟨rfl,H1.out.1⟩
theorem fields4_L (w:World) (k:Int) (hk:k=0\/k=3) (pa:Option Addr) (c:Nat):Calls Tryz.prog 238 #[.agg #[.int .u8 k,.int .i64 0,.string ⟨#[]⟩,.slice pa 0 c,.int .i64 0]] w fun e w'=>e=.returned (.bool true)/\Bl w w':=by
 have H1:Hid (Bl w (w.alloc (.cells #[.int .u8 k,.int .i64 0,.string ⟨#[]⟩,.slice pa 0 c,.int .i64 0] 27))/\(w.alloc (.cells #[.int .u8 k,.int .i64 0,.string ⟨#[]⟩,.slice pa 0 c,.int .i64 0] 27)).heap[w.heap.size]? = some (.cells #[.int .u8 k,.int .i64 0,.string ⟨#[]⟩,.slice pa 0 c,.int .i64 0] 27 (0,0))):=⟨(Below.refl _ w).alloc (Nat.le_refl _) _,blk_new _ _⟩;have HF:Hid (∀ w,Calls Tryz.prog 267 #[.agg #[.int .u8 k,.int .i64 0,.string ⟨#[]⟩,.slice pa 0 c,.int .i64 0]] w fun e w'=>e=.returned (.bool true)/\Bl w w'):=fun w=>field4_L w k hk pa c;clear hk
 go_enter Tryz.func238,Tryz.ntmps238
 go_upto_region 1 with fail
 revert H1;generalize w.alloc _=w1;intro H1;obtain⟨⟨a0,a1,a2,a3,a4⟩,-⟩:=cells5 H1.out.2
 go_wp2_with fail
 go_loopw [3] (fun vi wr=>vi=.int .i64 0/\w1=wr) (fun _ _=>0)
 case atStart=>exact⟨rfl,rfl⟩
 case round =>
  obtain⟨rfl,rfl⟩:=hrel
  go_wp2_with fail
  refine(HF.out w1).mono ?_;rintro e w2 ⟨rfl,hb2⟩;have H2:Hid (Bl w w2):=H1.out.1.trans (hb2.mono H1.out.1.size);clear hb2
  go_wp2_with fail
  go_ret
  exact⟨rfl,H2.out⟩
theorem may4_L (w:World) (k:Int) (hk:k=0\/k=3) (pa:Option Addr) (c:Nat):Calls Tryz.prog 174 #[.agg #[.int .u8 k,.int .i64 0,.string ⟨#[]⟩,.slice pa 0 c,.int .i64 0]] w fun e w'=>e=.returned (.bool true)/\Bl w w':=by
 have H1:Hid (Bl w (w.alloc (.cells #[.int .u8 k,.int .i64 0,.string ⟨#[]⟩,.slice pa 0 c,.int .i64 0] 27))/\(w.alloc (.cells #[.int .u8 k,.int .i64 0,.string ⟨#[]⟩,.slice pa 0 c,.int .i64 0] 27)).heap[w.heap.size]? = some (.cells #[.int .u8 k,.int .i64 0,.string ⟨#[]⟩,.slice pa 0 c,.int .i64 0] 27 (0,0))):=⟨(Below.refl _ w).alloc (Nat.le_refl _) _,blk_new _ _⟩;have HP:Hid (∀ w,Calls Tryz.prog 236 #[.agg #[.int .u8 k,.int .i64 0,.string ⟨#[]⟩,.slice pa 0 c,.int .i64 0],.int .i64 0] w fun e w'=>e=.returned (.int .i64 1)/\Bl w w'):=fun w=>parts4_L w k hk pa c;have HD:Hid (∀ w,Calls Tryz.prog 237 #[.agg #[.int .u8 k,.int .i64 0,.string ⟨#[]⟩,.slice pa 0 c,.int .i64 0]] w fun e w'=>∃ d,e=.returned (.int .i64 d)/\d≤1/\Bl w w'):=fun w=>deep4_L w k hk pa c;have HF:Hid (∀ w,Calls Tryz.prog 238 #[.agg #[.int .u8 k,.int .i64 0,.string ⟨#[]⟩,.slice pa 0 c,.int .i64 0]] w fun e w'=>e=.returned (.bool true)/\Bl w w'):=fun w=>fields4_L w k hk pa c;clear hk
 go_enter Tryz.func174,Tryz.ntmps174
 go_upto_region 1 with fail
 revert H1;generalize w.alloc _=w1;intro H1;obtain⟨⟨a0,a1,a2,a3,a4⟩,-⟩:=cells5 H1.out.2
 go_wp2_with fail
 refine(HP.out w1).mono ?_;rintro e w2 ⟨rfl,hb2⟩;have H2:Hid (Bl w w2):=H1.out.1.trans (hb2.mono H1.out.1.size);obtain⟨⟨a0',a1',a2',a3',a4'⟩,-⟩:=cells5 (below_blk hb2 H1.out.2);have HB2:=(show Hid (_=_)from below_blk hb2 H1.out.2);clear hb2 a0 a1 a2 a3 a4
 go_wp2_with fail
 refine(HD.out w2).mono ?_;rintro e w3 ⟨d,rfl,hd,hb3⟩;have H3:Hid (Bl w w3):=H2.out.trans (hb3.mono H2.out.size);obtain⟨⟨a0,a1,a2,a3,a4⟩,-⟩:=cells5 (below_blk hb3 HB2.out);have hd2:d≤16:=by omega
 clear hb3 a0' a1' a2' a3' a4' hd HB2
 go_wp2_with fail
 refine(HF.out w3).mono ?_;rintro e w4 ⟨rfl,hb4⟩;have H4:Hid (Bl w w4):=H3.out.trans (hb4.mono H3.out.size);clear hb4
 go_wp2_with fail
 go_ret
 exact⟨rfl,H4.out⟩
theorem may4_W {w:World} {F:Nat->Prop} {v:Val} {raw:Value} (hwf:v.wf) (hS:SlAt w F raw v.l):Calls Tryz.prog 174 #[.agg (vcs v raw)] w fun e w'=>e=.returned (.bool (mayV v))/\Bl w w':=by
 obtain⟨pa,c,rfl⟩:=hS.form
 rcases hwf with rfl | rfl
 ·exact may4_L w 0 (.inl rfl) pa c
 ·exact may4_L w 3 (.inr rfl) pa c
end
section
theorem same4_L (w:World) (k:Int) (pa pb:Option Addr) (c d:Nat):Calls Tryz.prog 178 #[.agg #[.int .u8 k,.int .i64 0,.string ⟨#[]⟩,.slice pa 0 c,.int .i64 0],.agg #[.int .u8 k,.int .i64 0,.string ⟨#[]⟩,.slice pb 0 d,.int .i64 0]] w fun e w'=>e=.returned (.bool true)/\Bl w w':=by
 have H1:Hid (Bl w ((w.alloc (.cells #[.int .u8 k,.int .i64 0,.string ⟨#[]⟩,.slice pa 0 c,.int .i64 0] 27)).alloc (.cells #[.int .u8 k,.int .i64 0,.string ⟨#[]⟩,.slice pb 0 d,.int .i64 0] 27)) /\
  ((w.alloc (.cells #[.int .u8 k,.int .i64 0,.string ⟨#[]⟩,.slice pa 0 c,.int .i64 0] 27)).alloc (.cells #[.int .u8 k,.int .i64 0,.string ⟨#[]⟩,.slice pb 0 d,.int .i64 0] 27)).heap[w.heap.size]? = some (.cells #[.int .u8 k,.int .i64 0,.string ⟨#[]⟩,.slice pa 0 c,.int .i64 0] 27 (0,0)) /\
  ((w.alloc (.cells #[.int .u8 k,.int .i64 0,.string ⟨#[]⟩,.slice pa 0 c,.int .i64 0] 27)).alloc (.cells #[.int .u8 k,.int .i64 0,.string ⟨#[]⟩,.slice pb 0 d,.int .i64 0] 27)).heap[w.heap.size+1]? = some (.cells #[.int .u8 k,.int .i64 0,.string ⟨#[]⟩,.slice pb 0 d,.int .i64 0] 27 (0,0))) :=
  ⟨((Below.refl _ w).alloc (Nat.le_refl _) _).alloc (by simp) _,blk2_old _ _ _,blk2_new _ _ _⟩
 go_enter Tryz.func178,Tryz.ntmps178
 go_upto_region 1 with fail
 revert H1;generalize (w.alloc _).alloc _=w1;intro H1;obtain⟨⟨a0,a1,a2,a3,a4⟩,-⟩:=cells5 H1.out.2.1;obtain⟨⟨b0,b1,b2,b3,b4⟩,-⟩:=cells5 H1.out.2.2
 go_wp2_with fail
 go_loopw [5] (fun vi wr=>vi=.int .i64 0/\w1=wr) (fun _ _=>0)
 case atStart=>exact⟨rfl,rfl⟩
 case round =>
  obtain⟨rfl,rfl⟩:=hrel
  go_wp2_with fail
  go_ret
  exact⟨rfl,H1.out.1⟩
theorem same4_G (a:Val) (h:a.wf) (b:Val) (r1 r2:Value) (w:World) (F1 F2:Nat->Prop) (h1:SlAt w F1 r1 a.l) (h2:SlAt w F2 r2 b.l) (e:b=a:=by rfl) :
 Calls Tryz.prog 178 #[.agg (vcs a r1),.agg (vcs b r2)] w fun e w'=>∃ B,e=.returned (.bool B)/\(B=true ↔ a=b)/\Bl w w':=by
 subst e;obtain⟨pa,c,rfl⟩:=h1.form;obtain⟨pb,d,rfl⟩:=h2.form
 rcases h with rfl | rfl
 ·exact(same4_L w 0 pa pb c d).mono fun e w' h=>⟨true,h.1,by simp,h.2⟩
 ·exact(same4_L w 3 pa pb c d).mono fun e w' h=>⟨true,h.1,by simp,h.2⟩
end
section
def listV (l:List Val):Val:=⟨3,0,⟨#[]⟩,l,0⟩
end
end Go.Proofs.YthaliljaglldjaaGreat
