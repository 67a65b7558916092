/- Part of the proof. -/
import Derived.Test.YthaliljaglldjaaGreatmBE
namespace Go.Proofs.YthaliljaglldjaaGreat
set_option maxHeartbeats 16000000
set_option maxRecDepth 20000
open Go.RowKit Go.ChangeMaps Go.MapKept
section
def N7M (n0 n:Nat) (v:Value) (wx:World):Prop:=∃ g,v=.slice (some ⟨g,0,none⟩) (n+1) (n+1)/\n0≤g/\wx.heap[g]? = some (.cells (madeCells #[.int .i64 0] (n+1)) 3 (0,0))
def N7C (n0 n:Nat) (v:Value) (wx:World):Prop:=∃ g,v=.slice (some ⟨g,0,none⟩) n n/\n0≤g/\wx.heap[g]? = some (.cells (madeCells #[.bool false] n) 4 (0,0))
def N7W (w:World) (n:Nat) (v:Value) (wx:World):Prop:=∃ q gc gm,v=.pointer (some ⟨q,0,none⟩)/\w.heap.size≤q/\Bl w wx /\
 wx.heap[q]? = some (.cells #[.slice none 0 0,.slice (some ⟨gc,0,none⟩) n n,.slice none 0 0,.int .i64 0,.slice (some ⟨gm,0,none⟩) (n+1) (n+1)] 94 (0,0)) /\
 w.heap.size≤gc/\wx.heap[gc]? = some (.cells (madeCells #[.bool false] n) 4 (0,0))/\w.heap.size≤gm/\wx.heap[gm]? = some (.cells (madeCells #[.int .i64 0] (n+1)) 3 (0,0))
structure NL (w:World) (q gc gm n:Nat) (xs:List Int) (u:Value) (wr:World):Prop where
 bel:Bl w wr
 blk:wr.heap[q]? = some (.cells #[u,.slice (some ⟨gc,0,none⟩) n n,.slice none 0 0,.int .i64 0,.slice (some ⟨gm,0,none⟩) (n+1) (n+1)] 94 (0,0))
 ge:w.heap.size≤q
 c:w.heap.size≤gc/\wr.heap[gc]? = some (.cells (madeCells #[.bool false] n) 4 (0,0))
 m:w.heap.size≤gm/\wr.heap[gm]? = some (.cells (madeCells #[.int .i64 0] (n+1)) 3 (0,0))
 row:wr.ownsRow w.heap.size 3 1 u xs.length (xs.map (Value.int .i64))
 lt:q<wr.heap.size
 apart:∀ b,u.ownBlock=some b->b≠q/\b≠gc/\b≠gm
def NaQ (w1:World) (B:Nat) (u:Value) (ys:List Int) (x:Int) (v:Value) (wx:World):Prop :=
 wx.ownsRow B 3 1 v (ys ++ [x]).length ((ys ++ [x]).map (Value.int .i64))/\Keeps (fun b=>u.ownBlock=some b) w1 wx/\(v.ownBlock=u.ownBlock\/∃ g,v.ownBlock=some g/\w1.heap.size≤g)
theorem NL.next {w wr w7:World} {q gc gm n:Nat} {ys:List Int} {x:Int} {u v:Value} (h:NL w q gc gm n ys u wr) (hq:NaQ wr w.heap.size u ys x v w7):NL w q gc gm n (ys ++ [x]) v (w7.setCell ⟨q,0,none⟩ v):=by
 obtain⟨h1,hk,ho⟩:=hq;have hks:=Keeps.setCell (S:=fun b=>b=q) w7 ⟨q,0,none⟩ v rfl;have hqc:gc≠q:=fun e=>by have:=h.c.2;rw [e,h.blk]at this;injection this with this;injection this with _ h2;exact absurd h2 (by decide)
 have hqm:gm≠q:=fun e=>by have:=h.m.2;rw [e,h.blk]at this;injection this with this;injection this with _ h2;exact absurd h2 (by decide)
 have hv:∀ b,v.ownBlock=some b->b≠q/\b≠gc/\b≠gm:=fun b hb=>by
  rcases ho with ho | ⟨g,ho,hg⟩
  ·exact h.apart b (ho ▸ hb)
  ·rw [ho]at hb
   cases hb
   have:=h.lt;have:=blk_lt h.c.2;have:=blk_lt h.m.2;omega
 exact {
  bel:=(h.bel.trans (hk.below h.bel.size fun b hb=>(h.row.lt b hb).1)).setCell h.ge _
  blk:=blk_setCell (hk.none h.blk fun e=>(h.apart _ e).1 rfl) 0 v
  ge:=h.ge
  c:=⟨h.c.1,hks.none (hk.none h.c.2 fun e=>(h.apart _ e).2.1 rfl) hqc⟩
  m:=⟨h.m.1,hks.none (hk.none h.m.2 fun e=>(h.apart _ e).2.2 rfl) hqm⟩
  row:=ownsRow_keeps h1 hks fun b hb e=>(hv b hb).1 e
  lt:=by have:=h.lt;have:=hk.size;simp [World.setCell];omega
  apart:=hv }
theorem madeCells_list (z:Value) (n:Nat):(madeCells #[z] n).toList=List.replicate n z:=by
 refine List.ext_getElem? fun i=>?_;rw [Array.getElem?_toList,List.getElem?_replicate]
 by_cases h:i<n <;> simp [madeCells,h,Nat.mod_one]
theorem made_own {w:World} {g n:Nat} {e:TypeId} {z:Value} (hb:w.heap[g]? = some (.cells (madeCells #[z] n) e (0,0))) (hn:n≤100):w.ownsRow 0 e 1 (.slice (some ⟨g,0,none⟩) n n) n (List.replicate n z):=by
 refine⟨by simp,.inr ⟨g,n,madeCells #[z] n,rfl,Nat.zero_le _,hb,Nat.le_refl _,by unfold maxLen;omega,by rw [size_madeCells,Nat.mul_one],?_⟩⟩;rw [madeCells_list,Nat.mul_one];simp
theorem NL.isR {w wr:World} {q gc gm:Nat} {xs:List Int} {u:Value} (h:NL w q gc gm xs.length xs u wr) (hn:xs.length<16):IsR wr q (WM.new xs) (fun b=>w.heap.size≤b/\b<wr.heap.size):=by
 have hqc:gc≠q:=fun e=>by have:=h.c.2;rw [e,h.blk]at this;injection this with this;injection this with _ h2;exact absurd h2 (by decide)
 have hqm:gm≠q:=fun e=>by have:=h.m.2;rw [e,h.blk]at this;injection this with this;injection this with _ h2;exact absurd h2 (by decide)
 have hcm:gc≠gm:=fun e=>by have:=h.c.2;rw [e,h.m.2]at this;injection this with this;injection this with _ h2;exact absurd h2 (by decide)
 refine⟨u,.slice (some ⟨gc,0,none⟩) xs.length xs.length,.slice none 0 0,.slice (some ⟨gm,0,none⟩) (xs.length+1) (xs.length+1),?_⟩
 exact {
  blk:=h.blk
  rp:=row_mono h.row (Nat.zero_le _)
  rc:=by
   have:=made_own h.c.2 (by omega)
   simpa [WM.new]using this
  rt:=World.ownsRow_nil _ _ _ _
  rm:=by
   have:=made_own h.m.2 (by omega)
   simpa [WM.new]using this
  own:=fun b hb=>by
   rcases hb with rfl | hb | hb | hb | hb
   ·exact⟨h.ge,h.lt⟩
   ·exact h.row.lt b hb
   ·cases hb;exact⟨h.c.1,blk_lt h.c.2⟩
   ·cases hb
   ·cases hb;exact⟨h.m.1,blk_lt h.m.2⟩
  lt:=fun b hb=>hb.2
  deep:=fun r t ht=>by cases ht
  apq:=⟨fun e=>(h.apart q e).1 rfl,fun e=>by injection e with e;exact hqc e,(fun e=>by cases e),fun e=>by injection e with e;exact hqm e⟩
  app:=fun b hb=>⟨fun e=>by injection e with e;exact(h.apart b hb).2.1 e.symm,(fun e=>by cases e),fun e=>by injection e with e;exact(h.apart b hb).2.2 e.symm⟩
  apc:=fun b hb=>⟨(fun e=>by cases e),fun e=>by injection hb with hb;injection e with e;exact hcm (hb.trans e.symm)⟩
  apt:=fun b hb=>by cases hb }
def NaP (b o i q n c B0:Nat) (u:Value) (x:Int) (wr:World) (ys:List Int) (p:Bool) (j:Nat) (v:Value) (wx:World):Prop :=
 match j with
 | 0=>v=.pointer (some ⟨q,0,none⟩)
 | 1=>v=.pointer (some ⟨q,0,none⟩)
 | 2=>v=.pointer (some ⟨q,0,none⟩)
 | 3=>v=.pointer (some ⟨q,0,none⟩)
 | 4=>v=u
 | 5=>v=.slice (some ⟨b,o,none⟩) n c
 | 6=>v=.int .i64 i
 | 7=>v=.pointer (some ⟨b,o+i,none⟩)
 | 8=>v=.int .i64 x
 | 9=>p=false->(∃ b',v=.slice (some ⟨b',0,none⟩) 1 1/\wx.heap[b']? = some (.cells #[.int .i64 x] 3 (0,0)))
 | 10=>p=true->NaQ wr B0 u ys x v wx
 | 11=>v=.pointer (some ⟨q,0,none⟩)
 | 12=>v=.pointer (some ⟨q,0,none⟩)
 | _=>True
theorem NaP.stab {b o i q n c B0:Nat} {u:Value} {x:Int} {wr:World} {ys:List Int}:∀ (j:Nat) (v:Value) (w w':World),Bl w w'->NaP b o i q n c B0 u x wr ys false j v w->NaP b o i q n c B0 u x wr ys false j v w':=by
 intro j v w w' hR h;unfold NaP at h ⊢;split at h
 ·exact h
 ·exact h
 ·exact h
 ·exact h
 ·exact h
 ·exact h
 ·exact h
 ·exact h
 ·exact h
 ·intro _;have h:=h rfl;exact h.imp fun _ h=>⟨h.1,below_blk hR h.2⟩
 ·exact fun e=>by cases e
 ·exact h
 ·exact h
 ·trivial
theorem NaP.turn {b o i q n c B0:Nat} {u:Value} {x:Int} {wr:World} {ys:List Int}:∀ (j:Nat) (v:Value) (w w':World),j≠10->NaP b o i q n c B0 u x wr ys false j v w->NaP b o i q n c B0 u x wr ys true j v w':=by
 intro j v w w' hne h;unfold NaP at h ⊢;split at h
 ·exact h
 ·exact h
 ·exact h
 ·exact h
 ·exact h
 ·exact h
 ·exact h
 ·exact h
 ·exact h
 ·exact fun e=>by cases e
 ·exact absurd rfl hne
 ·exact h
 ·exact h
 ·trivial
def NwP (pa:Option Addr) (n c n0:Nat) (w0:World) (p:Bool) (j:Nat) (v:Value) (wx:World):Prop :=
 match j with
 | 0=>v=.slice pa n c
 | 1=>v=.int .i64 n
 | 2=>v=.int .i64 ((n:Int)+1)
 | 3=>p=false->N7M n0 n v wx
 | 4=>v=.slice pa n c
 | 5=>v=.int .i64 n
 | 6=>p=false->N7C n0 n v wx
 | 7=>p=false->(∃ sM sC,v=.agg #[.slice none 0 0,sC,.slice none 0 0,.int .i64 0,sM]/\N7M n0 n sM wx/\N7C n0 n sC wx)
 | 8=>p=true->N7W w0 n v wx
 | _=>True
theorem NwP.stab {pa:Option Addr} {n c n0:Nat} {w0:World}:∀ (j:Nat) (v:Value) (w w':World),Bl w w'->NwP pa n c n0 w0 false j v w->NwP pa n c n0 w0 false j v w':=by
 intro j v w w' hR h;unfold NwP at h ⊢;split at h
 ·exact h
 ·exact h
 ·exact h
 ·intro _;have h:=h rfl;exact h.imp fun _ h=>⟨h.1,h.2.1,below_blk hR h.2.2⟩
 ·exact h
 ·exact h
 ·intro _;have h:=h rfl;exact h.imp fun _ h=>⟨h.1,h.2.1,below_blk hR h.2.2⟩
 ·intro _;have h:=h rfl;exact h.imp fun _ h=>h.imp fun _ h=>⟨h.1,h.2.1.imp fun _ h=>⟨h.1,h.2.1,below_blk hR h.2.2⟩,h.2.2.imp fun _ h=>⟨h.1,h.2.1,below_blk hR h.2.2⟩⟩
 ·exact fun e=>by cases e
 ·trivial
theorem NwP.turn {pa:Option Addr} {n c n0:Nat} {w0:World}:∀ (j:Nat) (v:Value) (w w':World),j≠8->NwP pa n c n0 w0 false j v w->NwP pa n c n0 w0 true j v w':=by
 intro j v w w' hne h;unfold NwP at h ⊢;split at h
 ·exact h
 ·exact h
 ·exact h
 ·exact fun e=>by cases e
 ·exact h
 ·exact h
 ·exact fun e=>by cases e
 ·exact fun e=>by cases e
 ·exact absurd rfl hne
 ·trivial
theorem new7_W (w:World) (pa:Option Addr) (c:Nat) (xs:List Int) (hpa:SideArg w pa xs) (hT:TreeOk xs):Calls Tryz.prog 13 #[.slice pa xs.length c] w fun e w'=>∃ q G,e=.returned (.tuple #[.pointer (some ⟨q,0,none⟩),.int .i64 0])/\IsR w' q (WM.new xs) G/\(∀ b,G b->w.heap.size≤b)/\Bl w w':=by
 obtain⟨n,hn⟩:∃ n,n=xs.length:=⟨_,rfl⟩;rw [<- hn];have hn16:¬ (n:Int) ≥ 16:=by have:=hT.1;omega
 have hn1:wrap64 ((n:Int)+1)=(n:Int)+1:=by have:=hT.1;unfold wrap64;omega
 have hn2:IntKind.i64.wrap ((n:Int)+1)=(n:Int)+1:=by have:=hT.1;simp [IntKind.wrap,IntKind.signed,IntKind.bits];omega
 have HA:=(show Hid (SideArg w pa xs/\TreeOk xs/\n=xs.length/\n<16)from⟨hpa,hT,hn,by rw [hn];exact hT.1⟩);have HR:Hid (Bl w w):=Below.refl _ _;clear hpa hT hn
 go_enter Tryz.func13,Tryz.ntmps13
 go_upto_region 3 with fail
 obtain⟨n0,hn0⟩:∃ b,b=w.heap.size:=⟨_,rfl⟩;have HN0:=(show Hid (n0=w.heap.size)from hn0);clear hn0;refine wp_region_growPK 9 8 [99] (by kernel_rfl) rfl (by kernel_rfl) (by kernel_rfl) (by decide) (by kernel_rfl) (fun a b=>Bl a b) (NwP pa n c n0 w) (fun p w'=>p=false->Bl w w') NwP.stab (fun _=>below_drew) (fun a b h hR _=>(h rfl).trans (hR.mono (h rfl).size)) ?_ ?_ ?_ ?_ ?_
 ·exact fun _ _ _ _ _ h1 h2=>noGuard (by kernel_rfl) h1 h2
 ·intro j q a w7 hne hq hC hG;have hC:=hC rfl;have hj:j<9:=(List.getElem?_eq_some_iff.1 hq).1
  match j,hj with
  | 0,_=>cases hq;have h0':a.tmps[0]?.getD undef=.slice pa n c:=gq (hG.fr 0 (by simp));unfold Oper.wp;simp [go_sem,Act.eval,h0'];exact⟨_,rfl,Below.refl _ _,rfl⟩
  | 1,_=>cases hq;have h9':a.tmps[9]?.getD undef=_:=gq (hG.dep ⟨0,.data⟩ (by simp) rfl _ rfl);unfold Oper.wp;simp [go_sem,Act.eval,h9'];exact⟨_,rfl,Below.refl _ _,rfl⟩
  | 2,_=>cases hq;have h10':a.tmps[10]?.getD undef=_:=gq (hG.dep ⟨1,.data⟩ (by simp) rfl _ rfl);unfold Oper.wp;simp [go_sem,Act.eval,h10',hn2];exact⟨_,rfl,Below.refl _ _,rfl⟩
  | 3,_ =>
    cases hq;have h11:a.tmps.getD 11 undef=.int .i64 ((n:Int)+1):=hG.dep ⟨2,.data⟩ (by simp) rfl _ rfl;have h11':a.tmps[11]?.getD undef=.int .i64 ((n:Int)+1):=gq h11;have hrun:=make_run w7 infoInt Tryz.underlying64 (by decide) (n:=n+1) (by have:=HA.out.2.2.2;omega);rw [show ((n+1:Nat):Int)=(n:Int)+1 from by omega]at hrun
    refine step_g (.slice (some ⟨w7.heap.size,0,none⟩) (n+1) (n+1)) ?_ ((Below.refl _ _).alloc (Nat.le_refl _) _) (fun _=>⟨_,rfl,by rw [HN0.out];exact hC.size,blk_new _ _⟩);show (((Instr.makeSlice 64 (a.tmps.getD 11 undef) (a.tmps.getD 11 undef)) >>= fun v=>pure (Next.value v):Sem Next).run Tryz.prog w7)=_;rw [h11];simp only [Sem.run_bind,hrun,Result.andThen,Sem.run_pure]
  | 4,_=>cases hq;have h0':a.tmps[0]?.getD undef=.slice pa n c:=gq (hG.fr 0 (by simp));unfold Oper.wp;simp [go_sem,Act.eval,h0'];exact⟨_,rfl,Below.refl _ _,rfl⟩
  | 5,_=>cases hq;have h13':a.tmps[13]?.getD undef=_:=gq (hG.dep ⟨4,.data⟩ (by simp) rfl _ rfl);unfold Oper.wp;simp [go_sem,Act.eval,h13'];exact⟨_,rfl,Below.refl _ _,rfl⟩
  | 6,_ =>
    cases hq;have h14:a.tmps.getD 14 undef=.int .i64 n:=hG.dep ⟨5,.data⟩ (by simp) rfl _ rfl;have h14':a.tmps[14]?.getD undef=.int .i64 n:=gq h14;have hrun:=make_run w7 infoBool Tryz.underlying92 (by decide) (n:=n) (by have:=HA.out.2.2.2;omega);refine step_g (.slice (some ⟨w7.heap.size,0,none⟩) n n) ?_ ((Below.refl _ _).alloc (Nat.le_refl _) _) (fun _=>⟨_,rfl,by rw [HN0.out];exact hC.size,blk_new _ _⟩);show (((Instr.makeSlice 92 (a.tmps.getD 14 undef) (a.tmps.getD 14 undef)) >>= fun v=>pure (Next.value v):Sem Next).run Tryz.prog w7)=_;rw [h14];simp only [Sem.run_bind,hrun,Result.andThen,Sem.run_pure]
  | 7,_ =>
    cases hq;have p12:N7M n0 n (a.tmps.getD 12 undef) w7:=hG.dep ⟨3,.data⟩ (by simp) rfl _ rfl rfl;have p15:N7C n0 n (a.tmps.getD 15 undef) w7:=hG.dep ⟨6,.data⟩ (by simp) rfl _ rfl rfl;obtain⟨g1,e12,m1,m2⟩:=p12;obtain⟨g2,e15,m3,m4⟩:=p15;have h12':a.tmps[12]?.getD undef=.slice (some ⟨g1,0,none⟩) (n+1) (n+1):=by rw [<- e12];simp [Array.getD_eq_getD_getElem?]
    have h15':a.tmps[15]?.getD undef=.slice (some ⟨g2,0,none⟩) n n:=by rw [<- e15];simp [Array.getD_eq_getD_getElem?]
    unfold Oper.wp;simp [go_sem,Act.eval,h12',h15'];exact⟨_,rfl,Below.refl _ _,fun _=>⟨_,_,rfl,⟨g1,rfl,m1,m2⟩,⟨g2,rfl,m3,m4⟩⟩⟩
  | 8,_=>exact absurd rfl hne
 ·intro q a w7 hq hC hG;have hC:=hC rfl;cases hq;have p16:(∃ sM sC,(a.tmps.getD 16 undef)=.agg #[.slice none 0 0,sC,.slice none 0 0,.int .i64 0,sM]/\N7M n0 n sM w7/\N7C n0 n sC w7):=hG.dep ⟨7,.data⟩ (by simp) rfl _ rfl rfl;obtain⟨sM,sC,e16,⟨g1,rfl,m1,m2⟩,⟨g2,rfl,m3,m4⟩⟩:=p16;have h16':a.tmps[16]?.getD undef=.agg #[.slice none 0 0,.slice (some ⟨g2,0,none⟩) n n,.slice none 0 0,.int .i64 0,.slice (some ⟨g1,0,none⟩) (n+1) (n+1)]:=by rw [<- e16];simp [Array.getD_eq_getD_getElem?]
  unfold Oper.wp;simp [go_sem,Act.eval,h16'];exact⟨_,rfl,fun _=>⟨w7.heap.size,g2,g1,rfl,hC.size,hC.alloc hC.size _,blk_new _ _,by rw [<- HN0.out];exact m3,blk_old _ _ m4,by rw [<- HN0.out];exact m1,blk_old _ _ m2⟩,fun k u hk h=>NwP.turn k u w7 _ hk h⟩
 ·intro j q a w7 hl hq hC hG;have hj:j<9:=(List.getElem?_eq_some_iff.1 hq).1
  match j,hj with
  | 0,_=>exact absurd hl (by decide)
  | 1,_=>exact absurd hl (by decide)
  | 2,_=>exact absurd hl (by decide)
  | 3,_=>exact absurd hl (by decide)
  | 4,_=>exact absurd hl (by decide)
  | 5,_=>exact absurd hl (by decide)
  | 6,_=>exact absurd hl (by decide)
  | 7,_=>exact absurd hl (by decide)
  | 8,_=>exact absurd hl (by decide)
 ·intro a w7 hC hdf hsz hfr hphi;have e0:a.tmps.getD 9 undef=.slice pa n c:=hphi 0 _ rfl;have e1:a.tmps.getD 10 undef=.int .i64 n:=hphi 1 _ rfl;have e2:a.tmps.getD 11 undef=.int .i64 ((n:Int)+1):=hphi 2 _ rfl;obtain⟨u3,e3⟩:∃ u,a.tmps.getD 12 undef=u:=⟨_,rfl⟩;have e4:a.tmps.getD 13 undef=.slice pa n c:=hphi 4 _ rfl;have e5:a.tmps.getD 14 undef=.int .i64 n:=hphi 5 _ rfl;obtain⟨u6,e6⟩:∃ u,a.tmps.getD 15 undef=u:=⟨_,rfl⟩;obtain⟨u7,e7⟩:∃ u,a.tmps.getD 16 undef=u:=⟨_,rfl⟩;have p8:N7W w n (a.tmps.getD 17 undef) w7:=hphi 8 _ rfl rfl;obtain⟨u8,e8⟩:∃ u,a.tmps.getD 17 undef=u:=⟨_,rfl⟩;rw [e8]at p8;have ha:=act_of hdf hsz hfr;simp only [List.take_succ_cons,List.take_zero,List.filterMap_cons,List.filterMap_nil,List.foldl_cons,List.foldl_nil,List.setIfInBounds_toArray,List.set_cons_zero,List.set_cons_succ,e0,e1,e2,e3,e4,e5,e6,e7,e8]at ha;clear hdf hsz hfr hphi hC e0 e1 e2 e3 e4 e5 e6 e7 e8;subst ha;obtain⟨q,gc,gm,rfl,hq,hb,hqb,hgc,hgcb,hgm,hgmb⟩:=p8;have HL:=(show Hid (NL w q gc gm n [] (.slice none 0 0) w7)from⟨hb,hqb,hq,⟨hgc,hgcb⟩,⟨hgm,hgmb⟩,World.ownsRow_nil _ _ _ _,by have:=blk_lt hqb;exact this,fun b hb=>by cases hb⟩);clear hb hqb hgcb hgmb hq hgc hgm hn2;refine⟨rfl,?_⟩;unfold Oper.wp;simp [execOp,go_sem,Act.eval,wpTailG];refine ‹∀ (a:Act) (w:World),Code.wp Tryz.prog _ _ a w->_› _ _ ?_
  go_wp2_with fail
  go_loopw [5] (fun vi wr=>∃ (i:Nat) (u:Value),vi=.int .i64 i/\i≤n/\Hid (NL w q gc gm n (xs.take i) u wr)) (fun vi _=>n - (intOf vi).toNat)
  case atStart=>exact⟨0,_,rfl,Nat.zero_le _,HL.out⟩
  case round =>
   clear HL;obtain⟨i,u,rfl,hi,HL⟩:=hrel
   by_cases hin:i<n
   ·have hiz:(i:Int)<(n:Int):=by omega
    have hi0:(0:Int)≤(i:Int):=by omega
    obtain⟨x,hx⟩:∃ x,xs[i]? = some x:=⟨_,List.getElem?_eq_getElem (by have:=HA.out.2.2.1;omega)⟩
    obtain⟨b,o,hpa,hcs⟩:∃ b o,pa=some ⟨b,o,none⟩/\∀ (j:Nat) (x:Int),xs[j]? = some x->w.cell? ⟨b,o+j,none⟩=some (.int .i64 x):=by
     rcases HA.out.1 with h | h
     ·rw [h]at hx
      cases hx
     ·exact h
    subst hpa;have HX:Hid (∀ w',Bl wr w'->w'.cell? ⟨b,o+i,none⟩=some (.int .i64 x)):=fun w' hb=>((HL.out.bel.trans (hb.mono HL.out.bel.size)).cell (p:=⟨b,o+i,none⟩) (World.block_lt_of_cell? _ ⟨b,o+i,none⟩ (hcs i x hx))).trans (hcs i x hx);have c0:wr.cell? ⟨b,o+i,none⟩=some (.int .i64 x):=HX.out wr (Below.refl _ _);have hx0:¬ x<0:=by have:=(HA.out.2.1.2 i x hx).1;omega
    have hx1:¬ x > (i:Int):=by have:=(HA.out.2.1.2 i x hx).2;omega
    have HNt:Hid (xs.take (i+1)=xs.take i ++ [x]):=by show _=_;rw [List.take_add_one,hx];rfl
    have HLn:Hid ((xs.take i).length≤15):=by show _≤_;rw [List.length_take];have:=HA.out.2.2;omega
    have hwi:wrap64 ((i:Int)+1)=(i:Int)+1:=by have:=HA.out.2.2.2;unfold wrap64;omega
    have HQ:=(show Hid (wr.heap[q]? = _)from HL.out.blk);have HRow:=(show Hid (wr.ownsRow w.heap.size 3 1 u (xs.take i).length ((xs.take i).map (Value.int .i64)))from HL.out.row);have HWs:Hid (w.heap.size≤wr.heap.size):=HL.out.bel.size;obtain⟨ys,hys⟩:∃ ys,ys=xs.take i:=⟨_,rfl⟩;rw [<- hys]at HNt HLn HRow HL;clear hys hx hcs
    go_upto_region 9 with fail
    clear c0;refine wp_region_growPK 13 10 [0,11,12] (by kernel_rfl) rfl (by kernel_rfl) (by kernel_rfl) (by decide) (by kernel_rfl) (fun a b=>Bl a b) (NaP b o i q n c w.heap.size u x wr ys) (fun p w'=>p=false->Bl wr w') NaP.stab (fun _=>below_drew) (fun a b h hR _=>(h rfl).trans (hR.mono (h rfl).size)) ?_ ?_ ?_ ?_ ?_
    ·exact fun _ _ _ _ _ h1 h2=>noGuard (by kernel_rfl) h1 h2
    ·intro j q a w7 hne hq hC hG;have hC:=hC rfl;have hj:j<13:=(List.getElem?_eq_some_iff.1 hq).1
     match j,hj with
     | 0,_=>cases hq;have h4':a.tmps[4]?.getD undef=.pointer (some ⟨q,0,none⟩):=gq (hG.fr 4 (by simp));unfold Oper.wp;simp [go_sem,Act.eval,h4'];exact⟨_,rfl,Below.refl _ _,rfl⟩
     | 1,_=>cases hq;have h4':a.tmps[4]?.getD undef=.pointer (some ⟨q,0,none⟩):=gq (hG.fr 4 (by simp));unfold Oper.wp;simp [go_sem,Act.eval,h4'];exact⟨_,rfl,Below.refl _ _,rfl⟩
     | 2,_=>cases hq;have h38':a.tmps[38]?.getD undef=_:=gq (hG.dep ⟨1,.data⟩ (by simp) rfl _ rfl);unfold Oper.wp;simp [go_sem,Act.eval,h38'];exact⟨_,rfl,Below.refl _ _,rfl⟩
     | 3,_=>cases hq;have h39':a.tmps[39]?.getD undef=_:=gq (hG.dep ⟨2,.data⟩ (by simp) rfl _ rfl);unfold Oper.wp;simp [go_sem,Act.eval,h39'];exact⟨_,rfl,Below.refl _ _,rfl⟩
     | 4,_ =>
       cases hq;have h40':a.tmps[40]?.getD undef=_:=gq (hG.dep ⟨3,.data⟩ (by simp) rfl _ rfl);have c3:w7.cell? ⟨q,0,none⟩=some (u):=by rw [cell_blk (below_blk hC HQ.out)];rfl
       unfold Oper.wp;simp [go_sem,Act.eval,h40',c3];exact⟨_,rfl,Below.refl _ _,rfl⟩
     | 5,_=>cases hq;have h0':a.tmps[0]?.getD undef=.slice (some ⟨b,o,none⟩) n c:=gq (hG.fr 0 (by simp));unfold Oper.wp;simp [go_sem,Act.eval,h0'];exact⟨_,rfl,Below.refl _ _,rfl⟩
     | 6,_=>cases hq;have h5':a.tmps[5]?.getD undef=.int .i64 i:=gq (hG.fr 5 (by simp));unfold Oper.wp;simp [go_sem,Act.eval,h5'];exact⟨_,rfl,Below.refl _ _,rfl⟩
     | 7,_=>cases hq;have h42':a.tmps[42]?.getD undef=_:=gq (hG.dep ⟨5,.data⟩ (by simp) rfl _ rfl);have h43':a.tmps[43]?.getD undef=_:=gq (hG.dep ⟨6,.data⟩ (by simp) rfl _ rfl);unfold Oper.wp;simp [go_sem,Act.eval,h42',h43',hiz,hi0];exact⟨_,rfl,Below.refl _ _,rfl⟩
     | 8,_ =>
       cases hq;have h44':a.tmps[44]?.getD undef=_:=gq (hG.dep ⟨7,.data⟩ (by simp) rfl _ rfl);have c3:w7.cell? ⟨b,o+i,none⟩=some (.int .i64 x):=HX.out w7 hC;unfold Oper.wp;simp [go_sem,Act.eval,h44',c3];exact⟨_,rfl,Below.refl _ _,rfl⟩
     | 9,_ =>
       cases hq;have h45':a.tmps[45]?.getD undef=_:=gq (hG.dep ⟨8,.data⟩ (by simp) rfl _ rfl);unfold Oper.wp;simp [go_sem,Act.eval,h45'];exact⟨_,rfl,(Below.refl _ _).alloc (Nat.le_refl _) _,fun _=>⟨_,rfl,blk_new _ _⟩⟩
     | 10,_=>exact absurd rfl hne
     | 11,_=>cases hq;have h37':a.tmps[37]?.getD undef=_:=gq (hG.dep ⟨0,.data⟩ (by simp) rfl _ rfl);unfold Oper.wp;simp [go_sem,Act.eval,h37'];exact⟨_,rfl,Below.refl _ _,rfl⟩
     | 12,_=>cases hq;have h48':a.tmps[48]?.getD undef=_:=gq (hG.dep ⟨11,.data⟩ (by simp) rfl _ rfl);unfold Oper.wp;simp [go_sem,Act.eval,h48'];exact⟨_,rfl,Below.refl _ _,rfl⟩
    ·intro q a w7 hq hC hG;have hC:=hC rfl;cases hq;have h41:a.tmps.getD 41 undef=u:=hG.dep ⟨4,.data⟩ (by simp) rfl _ rfl;have h41':a.tmps[41]?.getD undef=u:=gq h41;have p46:(∃ b',(a.tmps.getD 46 undef)=.slice (some ⟨b',0,none⟩) 1 1/\w7.heap[b']? = some (.cells #[.int .i64 x] 3 (0,0))):=hG.dep ⟨9,.data⟩ (by simp) rfl _ rfl rfl;obtain⟨b',e46,hb46⟩:=p46;obtain⟨iv,hi',hz,i1,i2⟩:=info_parts infoInt;refine wp_append_at (.tmp 41) (.tmp 46) 64 rfl w.heap.size 3 iv (.int .i64 0) 1 8 Tryz.underlying64 hi' hz i1 i2 rfl (by decide) u ys.length _ h41 (row_on HRow.out hC) ⟨b',0,none⟩ 1 1 [.int .i64 x] e46 rfl (fun jj y hj=>?_) (fun y hy=>?_) (by have:=HLn.out;unfold maxLen;omega) (by have:=HLn.out;omega) (Nat.le_trans HWs.out hC.size) ?_
     ·rw [Addr.add_lit,Nat.zero_add,cell_blk hb46];simpa using hj
     ·rw [List.mem_singleton.1 hy];rfl
     ·intro v' w' r1 r2 r4;exact⟨v',rfl,(fun h=>by cases h),fun _=>⟨by simpa using r1,(Keeps.of_below hC).trans (Keeps.of_grown r2 (S:=fun b=>u.ownBlock=some b) fun y hy=>hy) (fun _ _ h=>h) (fun _ _ h=>h),r4.imp id fun h=>⟨_,h,hC.size⟩⟩,fun k y hk h=>NaP.turn k y w7 w' hk h⟩
    ·intro j q a w7 hl hq hC hG;have hj:j<13:=(List.getElem?_eq_some_iff.1 hq).1
     match j,hj with
     | 0,_ =>
       cases hq;have h4':a.tmps[4]?.getD undef=.pointer (some ⟨q,0,none⟩):=gq (hG.fr 4 (by simp));refine step_g (R:=fun x y=>y=x) (.pointer (some ⟨q,0,none⟩)) ?_ rfl rfl;simp [execOp,go_sem,Act.eval,h4']
     | 1,_=>exact absurd hl (by decide)
     | 2,_=>exact absurd hl (by decide)
     | 3,_=>exact absurd hl (by decide)
     | 4,_=>exact absurd hl (by decide)
     | 5,_=>exact absurd hl (by decide)
     | 6,_=>exact absurd hl (by decide)
     | 7,_=>exact absurd hl (by decide)
     | 8,_=>exact absurd hl (by decide)
     | 9,_=>exact absurd hl (by decide)
     | 10,_=>exact absurd hl (by decide)
     | 11,_ =>
       cases hq;have h37':a.tmps[37]?.getD undef=_:=gq (hG.dep ⟨0,.data⟩ (by simp) rfl _ rfl);refine step_g (R:=fun x y=>y=x) (.pointer (some ⟨q,0,none⟩)) ?_ rfl rfl;simp [execOp,go_sem,Act.eval,h37']
     | 12,_ =>
       cases hq;have h48':a.tmps[48]?.getD undef=_:=gq (hG.dep ⟨11,.data⟩ (by simp) rfl _ rfl);refine step_g (R:=fun x y=>y=x) (.pointer (some ⟨q,0,none⟩)) ?_ rfl rfl;simp [execOp,go_sem,Act.eval,h48']
    ·intro a w7 hC hdf hsz hfr hphi;have e0:a.tmps.getD 37 undef=.pointer (some ⟨q,0,none⟩):=hphi 0 _ rfl;have e1:a.tmps.getD 38 undef=.pointer (some ⟨q,0,none⟩):=hphi 1 _ rfl;have e2:a.tmps.getD 39 undef=.pointer (some ⟨q,0,none⟩):=hphi 2 _ rfl;have e3:a.tmps.getD 40 undef=.pointer (some ⟨q,0,none⟩):=hphi 3 _ rfl;have e4:a.tmps.getD 41 undef=u:=hphi 4 _ rfl;have e5:a.tmps.getD 42 undef=.slice (some ⟨b,o,none⟩) n c:=hphi 5 _ rfl;have e6:a.tmps.getD 43 undef=.int .i64 i:=hphi 6 _ rfl;have e7:a.tmps.getD 44 undef=.pointer (some ⟨b,o+i,none⟩):=hphi 7 _ rfl;have e8:a.tmps.getD 45 undef=.int .i64 x:=hphi 8 _ rfl;obtain⟨u9,e9⟩:∃ u,a.tmps.getD 46 undef=u:=⟨_,rfl⟩;have p10:NaQ wr w.heap.size u ys x (a.tmps.getD 47 undef) w7:=hphi 10 _ rfl rfl;obtain⟨u10,e10⟩:∃ u,a.tmps.getD 47 undef=u:=⟨_,rfl⟩;rw [e10]at p10;have e11:a.tmps.getD 48 undef=.pointer (some ⟨q,0,none⟩):=hphi 11 _ rfl;have e12:a.tmps.getD 49 undef=.pointer (some ⟨q,0,none⟩):=hphi 12 _ rfl;have ha:=act_of hdf hsz hfr;simp only [List.take_succ_cons,List.take_zero,List.filterMap_cons,List.filterMap_nil,List.foldl_cons,List.foldl_nil,List.setIfInBounds_toArray,List.set_cons_zero,List.set_cons_succ,e0,e1,e2,e3,e4,e5,e6,e7,e8,e9,e10,e11,e12]at ha;clear hdf hsz hfr hphi hC e0 e1 e2 e3 e4 e5 e6 e7 e8 e9 e10 e11 e12;subst ha;have HT7:=(show Hid (NL w q gc gm n (xs.take (i+1)) u10 (w7.setCell ⟨q,0,none⟩ u10))from by rw [HNt.out];exact HL.out.next p10)
     have hq7:w7.heap[q]? = _:=p10.2.1.none HQ.out (fun e=>(HL.out.apart q e).1 rfl);have d0:w7.cell? ⟨q,0,none⟩=some u:=by rw [cell_blk hq7];rfl
     have f0:=frozen_blk hq7 0
     obtain⟨p8,n8,c8,hu8⟩:∃ p n c,u10=.slice p n c:=by
      obtain⟨h1,⟨h2,-⟩ | ⟨g',cap,cur,h2,-⟩⟩:=p10.1
      ·exact⟨_,_,_,h2⟩
      ·exact⟨_,_,_,h2⟩
     subst hu8;clear p10 hq7 HQ HRow HX HL;refine⟨rfl,?_⟩;unfold Oper.wp;simp [execOp,go_sem,Act.eval,wpTailG,d0,f0];refine ‹∀ (a:Act) (w:World),Code.wp Tryz.prog _ _ a w->_› _ _ ?_;clear d0 f0;revert HT7;generalize World.setCell _ _ _=w8;intro HT7
     go_wp2_with fail
     go_roundw
     case rel=>exact⟨i+1,_,by go_num,by omega,HT7.out⟩
     case measure=>simp [intOf];omega
   ·have hiz:¬ (i:Int)<(n:Int):=by omega
    obtain rfl:i=n:=by omega
    have hkk:¬ (i:Int)<(i:Int):=by omega
    have HF:Hid (∃ G,IsR wr q (WM.new xs) G/\(∀ b,G b->w.heap.size≤b)/\Bl w wr):=by
     have h:=HL.out;have hlt:xs.length<16:=HA.out.2.1.1;rw [HA.out.2.2.1,List.take_length]at h;exact⟨_,h.isR hlt,fun b hb=>hb.1,h.bel⟩
    go_wp2_with fail
    go_returns
    obtain⟨G,h1,h2,h3⟩:=HF.out;exact⟨q,rfl,G,h1,h2,h3⟩
end
section
theorem sameCode07_nil (w:World):Calls Tryz.prog 205 #[.slice none 0 0,.slice none 0 0] w fun e w'=>e=.returned (.bool true)/\Bl w w':=by
 go_enter Tryz.func205,Tryz.ntmps205
 go_wp2_with fail
 go_loopw [5] (fun vi wr=>vi=.int .i64 0/\wr=w) (fun _ _=>0)
 case atStart=>exact⟨rfl,rfl⟩
 case round =>
  obtain⟨rfl,rfl⟩:=hrel
  go_wp2_with fail
  go_ret
  exact⟨rfl,Below.refl _ _⟩
end
section
theorem same4_yes {w:World} {F1 F2:Nat->Prop} {v:Val} (h:v.wf) {r1 r2:Value} (h1:SlAt w F1 r1 v.l) (h2:SlAt w F2 r2 v.l):Calls Tryz.prog 178 #[.agg (vcs v r1),.agg (vcs v r2)] w fun e w'=>e=.returned (.bool true)/\Bl w w':=by
 refine(same4_G v h v r1 r2 w F1 F2 h1 h2).mono ?_;rintro e w' ⟨B,rfl,hB,hb⟩;rw [hB.2 rfl];exact⟨rfl,hb⟩
theorem execOp_ldSwP20 (ρ:Operand->Value) (ty:TypeId) (pos:String) (af:Array Edge) (g:Option (Nat × Bool)) :
 execOp ρ { dst:=some 20,op:=.load 27 (.tmp 19),type:=ty,pos:=pos,after:=af,guard:=g } = ldV (ρ (.tmp 19)):=rfl
theorem execOp_ldSwP22 (ρ:Operand->Value) (ty:TypeId) (pos:String) (af:Array Edge) (g:Option (Nat × Bool)) :
 execOp ρ { dst:=some 22,op:=.load 27 (.tmp 21),type:=ty,pos:=pos,after:=af,guard:=g } = ldV (ρ (.tmp 21)):=rfl
def SwP (B0:Nat) (k h vk vn vr n lo tg bi s:Int) (vstr:ByteArray) (fu:Bool) (rc rl rg r7:Value) (j:Nat) (v:Value) (_:World):Prop :=
 match j with
 | 0=>v=.pointer (some ⟨B0,0,none⟩)
 | 1=>v=.int .u8 k
 | 2=>v=.pointer (some ⟨B0+1,0,none⟩)
 | 3=>v=.int .u8 k
 | 4=>v=.bool false
 | 5=>v=.bool false
 | 6=>v=.pointer (some ⟨B0,1,none⟩)
 | 7=>v=.int .i64 h
 | 8=>v=.pointer (some ⟨B0+1,1,none⟩)
 | 9=>v=.int .i64 h
 | 10=>v=.bool false
 | 11=>v=.bool false
 | 12=>v=.bool false
 | 13=>v=.pointer (some ⟨B0,2,none⟩)
 | 14=>v=.agg #[.int .u8 vk,.int .i64 vn,.string vstr,rc,.int .i64 vr]
 | 15=>v=.pointer (some ⟨B0+1,2,none⟩)
 | 16=>v=.agg #[.int .u8 vk,.int .i64 vn,.string vstr,rl,.int .i64 vr]
 | 17=>v=.bool true
 | 18=>v=.bool false
 | 19=>v=.bool false
 | 20=>v=.bool false
 | 21=>v=.pointer (some ⟨B0,7,none⟩)
 | 22=>v=rg
 | 23=>v=.agg #[.int .u8 3,.int .i64 0,.string ⟨#[]⟩,rg,.int .i64 0]
 | 24=>v=.pointer (some ⟨B0+1,7,none⟩)
 | 25=>v=r7
 | 26=>v=.agg #[.int .u8 3,.int .i64 0,.string ⟨#[]⟩,r7,.int .i64 0]
 | 27=>v=.bool true
 | 28=>v=.bool false
 | 29=>v=.bool false
 | 30=>v=.bool false
 | 31=>v=.pointer (some ⟨B0,8,none⟩)
 | 32=>v=.int .i64 n
 | 33=>v=.pointer (some ⟨B0+1,8,none⟩)
 | 34=>v=.int .i64 n
 | 35=>v=.bool false
 | 36=>v=.bool false
 | 37=>v=.bool false
 | 38=>v=.pointer (some ⟨B0,9,none⟩)
 | 39=>v=.int .i64 lo
 | 40=>v=.pointer (some ⟨B0+1,9,none⟩)
 | 41=>v=.int .i64 lo
 | 42=>v=.bool false
 | 43=>v=.bool false
 | 44=>v=.bool false
 | 45=>v=.pointer (some ⟨B0,10,none⟩)
 | 46=>v=.int .i64 tg
 | 47=>v=.pointer (some ⟨B0+1,10,none⟩)
 | 48=>v=.int .i64 tg
 | 49=>v=.bool false
 | 50=>v=.bool false
 | 51=>v=.bool false
 | 52=>v=.pointer (some ⟨B0,11,none⟩)
 | 53=>v=.int .i64 bi
 | 54=>v=.pointer (some ⟨B0+1,11,none⟩)
 | 55=>v=.int .i64 bi
 | 56=>v=.bool false
 | 57=>v=.bool false
 | 58=>v=.bool false
 | 59=>v=.pointer (some ⟨B0,12,none⟩)
 | 60=>v=.int .u8 s
 | 61=>v=.pointer (some ⟨B0+1,12,none⟩)
 | 62=>v=.int .u8 s
 | 63=>v=.bool false
 | 64=>v=.bool false
 | 65=>v=.bool false
 | 66=>v=.pointer (some ⟨B0,13,none⟩)
 | 67=>v=.bool fu
 | 68=>v=.pointer (some ⟨B0+1,13,none⟩)
 | 69=>v=.bool fu
 | 70=>v=.bool false
 | 71=>v=.bool false
 | 72=>v=.bool false
 | 73=>v=.pointer (some ⟨B0,15,none⟩)
 | 74=>v=.slice none 0 0
 | 75=>v=.int .i64 0
 | 76=>v=.pointer (some ⟨B0+1,15,none⟩)
 | 77=>v=.slice none 0 0
 | 78=>v=.int .i64 0
 | 79=>v=.bool false
 | _=>True
theorem sameWhat7_W {w:World} {F1 F2:Nat->Prop} (t:Th) (vl2 vals2:Value) (h1:SlAt w F1 t.vl t.v.l) (h2:SlAt w F1 t.vals t.vs) (h3:SlAt w F2 vl2 t.v.l) (h4:SlAt w F2 vals2 t.vs) (hwf:t.v.wf) (hwfs:(listV t.vs).wf) (hc:t.code=.slice none 0 0) (hn:t.names=.slice none 0 0) :
 Calls Tryz.prog 110 #[.agg (thc t),.agg (thc { t with vl:=vl2,vals:=vals2 })] w fun e w'=>e=.returned (.bool true)/\Bl w w':=by
 have HS1:Hid (∀ w',Bl w w'->Calls Tryz.prog 178 #[.agg (vcs t.v t.vl),.agg (vcs t.v vl2)] w' fun e w''=>e=.returned (.bool true)/\Bl w' w''):=fun w' hb=>same4_yes hwf (h1.on hb) (h3.on hb);have HS2:Hid (∀ w',Bl w w'->Calls Tryz.prog 178 #[.agg (vcs (listV t.vs) t.vals),.agg (vcs (listV t.vs) vals2)] w' fun e w''=>e=.returned (.bool true)/\Bl w' w''):=fun w' hb=>same4_yes hwfs (h2.on hb) (h4.on hb);obtain⟨k,h,⟨vk,vn,vstr,vl,vr⟩,raw,vs,vals,n,lo,tg,bi,s,fu,code,names⟩:=t;obtain⟨pv,cv,hv⟩:=h1.form;obtain⟨ps,cs,hvals⟩:=h2.form;obtain⟨pv2,cv2,hv2⟩:=h3.form;obtain⟨ps2,cs2,hvals2⟩:=h4.form;simp only at hv hvals hc hn hv2 hvals2;subst hv hvals hc hn hv2 hvals2;simp only [vcs,listV,thc]at HS1 HS2 ⊢;clear h1 h2 h3 h4 hwf hwfs
 have HT:Hid (∀ w2,w2=((w.alloc (.cells #[.int .u8 k,.int .i64 h,.int .u8 vk,.int .i64 vn,.string vstr,.slice pv vl.length cv,.int .i64 vr,.slice ps vs.length cs,.int .i64 n,.int .i64 lo,.int .i64 tg,.int .i64 bi,.int .u8 s,.bool fu,.slice none 0 0,.slice none 0 0] 46)).alloc (.cells #[.int .u8 k,.int .i64 h,.int .u8 vk,.int .i64 vn,.string vstr,.slice pv2 vl.length cv2,.int .i64 vr,.slice ps2 vs.length cs2,.int .i64 n,.int .i64 lo,.int .i64 tg,.int .i64 bi,.int .u8 s,.bool fu,.slice none 0 0,.slice none 0 0] 46))->Bl w w2 /\
  w2.heap[w.heap.size]? = some (.cells #[.int .u8 k,.int .i64 h,.int .u8 vk,.int .i64 vn,.string vstr,.slice pv vl.length cv,.int .i64 vr,.slice ps vs.length cs,.int .i64 n,.int .i64 lo,.int .i64 tg,.int .i64 bi,.int .u8 s,.bool fu,.slice none 0 0,.slice none 0 0] 46 (0,0)) /\
  w2.heap[w.heap.size+1]? = some (.cells #[.int .u8 k,.int .i64 h,.int .u8 vk,.int .i64 vn,.string vstr,.slice pv2 vl.length cv2,.int .i64 vr,.slice ps2 vs.length cs2,.int .i64 n,.int .i64 lo,.int .i64 tg,.int .i64 bi,.int .u8 s,.bool fu,.slice none 0 0,.slice none 0 0] 46 (0,0))):=fun w2 e=>by
  subst e;exact⟨((Below.refl _ w).alloc (Nat.le_refl _) _).alloc (by simp) _,blk2_old w _ _,blk2_new w _ _⟩
 go_enter Tryz.func110,Tryz.ntmps110
 go_upto_region 1 with fail
 revert HT;generalize ((w.alloc _).alloc _)=w2;intro HT;have HT:=(show Hid (_/\_/\_)from HT.out w2 rfl);have HB2:=(show Hid (∀ w',Bl w2 w'->Bl w w')from fun w' hb=>HT.out.1.trans (hb.mono HT.out.1.size));obtain⟨B0,hB0⟩:∃ B0,B0=w.heap.size:=⟨_,rfl⟩;have HBx:=HT.out.2;rw [<- hB0]at HBx ⊢;have HBx:=(show Hid (_/\_)from HBx);clear hB0;refine wp_region_growK 80 (by kernel_rfl) rfl (by kernel_rfl) (by kernel_rfl) (fun a b=>Bl a b) (SwP B0 k h vk vn vr n lo tg bi s vstr fu (.slice pv vl.length cv) (.slice pv2 vl.length cv2) (.slice ps vs.length cs) (.slice ps2 vs.length cs2)) (fun w'=>Bl w2 w') (fun j v w w' _ h=>h) below_drew (fun a b h hR=>h.trans (hR.mono h.size)) ?_ ?_ ?_
 ·intro j q g b hq hgd;have hj:j<80:=(List.getElem?_eq_some_iff.1 hq).1
  match j,hj with
  | 0,_=>cases hq;cases hgd
  | 1,_=>cases hq;cases hgd
  | 2,_=>cases hq;cases hgd
  | 3,_=>cases hq;cases hgd
  | 4,_=>cases hq;cases hgd
  | 5,_=>cases hq;cases hgd
  | 6,_=>cases hq;cases hgd;exact fun v w h=>h
  | 7,_=>cases hq;cases hgd;exact fun v w h=>h
  | 8,_=>cases hq;cases hgd;exact fun v w h=>h
  | 9,_=>cases hq;cases hgd;exact fun v w h=>h
  | 10,_=>cases hq;cases hgd;exact fun v w h=>h
  | 11,_=>cases hq;cases hgd
  | 12,_=>cases hq;cases hgd
  | 13,_=>cases hq;cases hgd;exact fun v w h=>h
  | 14,_=>cases hq;cases hgd;exact fun v w h=>h
  | 15,_=>cases hq;cases hgd;exact fun v w h=>h
  | 16,_=>cases hq;cases hgd;exact fun v w h=>h
  | 17,_=>cases hq;cases hgd;exact fun v w h=>h
  | 18,_=>cases hq;cases hgd;exact fun v w h=>h
  | 19,_=>cases hq;cases hgd
  | 20,_=>cases hq;cases hgd
  | 21,_=>cases hq;cases hgd;exact fun v w h=>h
  | 22,_=>cases hq;cases hgd;exact fun v w h=>h
  | 23,_=>cases hq;cases hgd;exact fun v w h=>h
  | 24,_=>cases hq;cases hgd;exact fun v w h=>h
  | 25,_=>cases hq;cases hgd;exact fun v w h=>h
  | 26,_=>cases hq;cases hgd;exact fun v w h=>h
  | 27,_=>cases hq;cases hgd;exact fun v w h=>h
  | 28,_=>cases hq;cases hgd;exact fun v w h=>h
  | 29,_=>cases hq;cases hgd
  | 30,_=>cases hq;cases hgd
  | 31,_=>cases hq;cases hgd;exact fun v w h=>h
  | 32,_=>cases hq;cases hgd;exact fun v w h=>h
  | 33,_=>cases hq;cases hgd;exact fun v w h=>h
  | 34,_=>cases hq;cases hgd;exact fun v w h=>h
  | 35,_=>cases hq;cases hgd;exact fun v w h=>h
  | 36,_=>cases hq;cases hgd
  | 37,_=>cases hq;cases hgd
  | 38,_=>cases hq;cases hgd;exact fun v w h=>h
  | 39,_=>cases hq;cases hgd;exact fun v w h=>h
  | 40,_=>cases hq;cases hgd;exact fun v w h=>h
  | 41,_=>cases hq;cases hgd;exact fun v w h=>h
  | 42,_=>cases hq;cases hgd;exact fun v w h=>h
  | 43,_=>cases hq;cases hgd
  | 44,_=>cases hq;cases hgd
  | 45,_=>cases hq;cases hgd;exact fun v w h=>h
  | 46,_=>cases hq;cases hgd;exact fun v w h=>h
  | 47,_=>cases hq;cases hgd;exact fun v w h=>h
  | 48,_=>cases hq;cases hgd;exact fun v w h=>h
  | 49,_=>cases hq;cases hgd;exact fun v w h=>h
  | 50,_=>cases hq;cases hgd
  | 51,_=>cases hq;cases hgd
  | 52,_=>cases hq;cases hgd;exact fun v w h=>h
  | 53,_=>cases hq;cases hgd;exact fun v w h=>h
  | 54,_=>cases hq;cases hgd;exact fun v w h=>h
  | 55,_=>cases hq;cases hgd;exact fun v w h=>h
  | 56,_=>cases hq;cases hgd;exact fun v w h=>h
  | 57,_=>cases hq;cases hgd
  | 58,_=>cases hq;cases hgd
  | 59,_=>cases hq;cases hgd;exact fun v w h=>h
  | 60,_=>cases hq;cases hgd;exact fun v w h=>h
  | 61,_=>cases hq;cases hgd;exact fun v w h=>h
  | 62,_=>cases hq;cases hgd;exact fun v w h=>h
  | 63,_=>cases hq;cases hgd;exact fun v w h=>h
  | 64,_=>cases hq;cases hgd
  | 65,_=>cases hq;cases hgd
  | 66,_=>cases hq;cases hgd;exact fun v w h=>h
  | 67,_=>cases hq;cases hgd;exact fun v w h=>h
  | 68,_=>cases hq;cases hgd;exact fun v w h=>h
  | 69,_=>cases hq;cases hgd;exact fun v w h=>h
  | 70,_=>cases hq;cases hgd;exact fun v w h=>h
  | 71,_=>cases hq;cases hgd
  | 72,_=>cases hq;cases hgd
  | 73,_=>cases hq;cases hgd;exact fun v w h=>h
  | 74,_=>cases hq;cases hgd;exact fun v w h=>h
  | 75,_=>cases hq;cases hgd;exact fun v w h=>h
  | 76,_=>cases hq;cases hgd;exact fun v w h=>h
  | 77,_=>cases hq;cases hgd;exact fun v w h=>h
  | 78,_=>cases hq;cases hgd;exact fun v w h=>h
  | 79,_=>cases hq;cases hgd;exact fun v w h=>h
 ·intro j q a w7 hq hC hG;have hj:j<80:=(List.getElem?_eq_some_iff.1 hq).1
  match j,hj with
  | 0,_=>cases hq;have h2':a.tmps[2]?.getD undef=.pointer (some ⟨B0,0,none⟩):=gq (hG.fr 2 (by simp));unfold Oper.wp;simp [go_sem,Act.eval,h2'];exact⟨_,rfl,Below.refl _ _,rfl⟩
  | 1,_ =>
    cases hq;have h6':a.tmps[6]?.getD undef=_:=gq (hG.dep ⟨0,.data⟩ (by simp) rfl _ rfl);have c3:w7.cell? ⟨B0,0,none⟩=some (.int .u8 k):=by rw [cell_blk (below_blk hC HBx.out.1)];rfl
    unfold Oper.wp;simp [go_sem,Act.eval,h6',c3];exact⟨_,rfl,Below.refl _ _,rfl⟩
  | 2,_=>cases hq;have h3':a.tmps[3]?.getD undef=.pointer (some ⟨B0+1,0,none⟩):=gq (hG.fr 3 (by simp));unfold Oper.wp;simp [go_sem,Act.eval,h3'];exact⟨_,rfl,Below.refl _ _,rfl⟩
  | 3,_ =>
    cases hq;have h8':a.tmps[8]?.getD undef=_:=gq (hG.dep ⟨2,.data⟩ (by simp) rfl _ rfl);have c3:w7.cell? ⟨B0+1,0,none⟩=some (.int .u8 k):=by rw [cell_blk (below_blk hC HBx.out.2)];rfl
    unfold Oper.wp;simp [go_sem,Act.eval,h8',c3];exact⟨_,rfl,Below.refl _ _,rfl⟩
  | 4,_=>cases hq;have h7':a.tmps[7]?.getD undef=_:=gq (hG.dep ⟨1,.data⟩ (by simp) rfl _ rfl);have h9':a.tmps[9]?.getD undef=_:=gq (hG.dep ⟨3,.data⟩ (by simp) rfl _ rfl);unfold Oper.wp;simp [go_sem,Act.eval,h7',h9'];exact⟨_,rfl,Below.refl _ _,rfl⟩
  | 5,_=>cases hq;have h10':a.tmps[10]?.getD undef=_:=gq (hG.dep ⟨4,.data⟩ (by simp) rfl _ rfl);unfold Oper.wp;simp [go_sem,Act.eval,h10'];exact⟨_,rfl,Below.refl _ _,rfl⟩
  | 6,_=>cases hq;have h2':a.tmps[2]?.getD undef=.pointer (some ⟨B0,0,none⟩):=gq (hG.fr 2 (by simp));unfold Oper.wp;simp [go_sem,Act.eval,h2'];exact⟨_,rfl,Below.refl _ _,rfl⟩
  | 7,_ =>
    cases hq;have h12':a.tmps[12]?.getD undef=_:=gq (hG.dep ⟨6,.data⟩ (by simp) rfl _ rfl);have c3:w7.cell? ⟨B0,1,none⟩=some (.int .i64 h):=by rw [cell_blk (below_blk hC HBx.out.1)];rfl
    unfold Oper.wp;simp [go_sem,Act.eval,h12',c3];exact⟨_,rfl,Below.refl _ _,rfl⟩
  | 8,_=>cases hq;have h3':a.tmps[3]?.getD undef=.pointer (some ⟨B0+1,0,none⟩):=gq (hG.fr 3 (by simp));unfold Oper.wp;simp [go_sem,Act.eval,h3'];exact⟨_,rfl,Below.refl _ _,rfl⟩
  | 9,_ =>
    cases hq;have h14':a.tmps[14]?.getD undef=_:=gq (hG.dep ⟨8,.data⟩ (by simp) rfl _ rfl);have c3:w7.cell? ⟨B0+1,1,none⟩=some (.int .i64 h):=by rw [cell_blk (below_blk hC HBx.out.2)];rfl
    unfold Oper.wp;simp [go_sem,Act.eval,h14',c3];exact⟨_,rfl,Below.refl _ _,rfl⟩
  | 10,_=>cases hq;have h13':a.tmps[13]?.getD undef=_:=gq (hG.dep ⟨7,.data⟩ (by simp) rfl _ rfl);have h15':a.tmps[15]?.getD undef=_:=gq (hG.dep ⟨9,.data⟩ (by simp) rfl _ rfl);unfold Oper.wp;simp [go_sem,Act.eval,h13',h15'];exact⟨_,rfl,Below.refl _ _,rfl⟩
  | 11,_=>cases hq;have h11':a.tmps[11]?.getD undef=_:=gq (hG.dep ⟨5,.data⟩ (by simp) rfl _ rfl);have h16':a.tmps[16]?.getD undef=_:=gq (hG.dep ⟨10,.data⟩ (by simp) rfl _ rfl);unfold Oper.wp;simp [go_sem,Act.eval,h11',h16'];exact⟨_,rfl,Below.refl _ _,rfl⟩
  | 12,_=>cases hq;have h17':a.tmps[17]?.getD undef=_:=gq (hG.dep ⟨11,.data⟩ (by simp) rfl _ rfl);unfold Oper.wp;simp [go_sem,Act.eval,h17'];exact⟨_,rfl,Below.refl _ _,rfl⟩
  | 13,_=>cases hq;have h2':a.tmps[2]?.getD undef=.pointer (some ⟨B0,0,none⟩):=gq (hG.fr 2 (by simp));unfold Oper.wp;simp [go_sem,Act.eval,h2'];exact⟨_,rfl,Below.refl _ _,rfl⟩
  | 14,_ =>
    cases hq;have h19:a.tmps.getD 19 undef=.pointer (some ⟨B0,2,none⟩):=hG.dep ⟨13,.data⟩ (by simp) rfl _ rfl;refine step_g (.agg #[.int .u8 vk,.int .i64 vn,.string vstr,(.slice pv vl.length cv),.int .i64 vr]) ?_ (Below.refl _ _) rfl;rw [execOp_ldSwP20];show (ldV (a.tmps.getD 19 undef)).run _ _=_;rw [h19];exact ld_what_v (t:=⟨k,h,⟨vk,vn,vstr,vl,vr⟩,(.slice pv vl.length cv),vs,(.slice ps vs.length cs),n,lo,tg,bi,s,fu,.slice none 0 0,.slice none 0 0⟩) (below_blk hC HBx.out.1)
  | 15,_=>cases hq;have h3':a.tmps[3]?.getD undef=.pointer (some ⟨B0+1,0,none⟩):=gq (hG.fr 3 (by simp));unfold Oper.wp;simp [go_sem,Act.eval,h3'];exact⟨_,rfl,Below.refl _ _,rfl⟩
  | 16,_ =>
    cases hq;have h21:a.tmps.getD 21 undef=.pointer (some ⟨B0+1,2,none⟩):=hG.dep ⟨15,.data⟩ (by simp) rfl _ rfl;refine step_g (.agg #[.int .u8 vk,.int .i64 vn,.string vstr,(.slice pv2 vl.length cv2),.int .i64 vr]) ?_ (Below.refl _ _) rfl;rw [execOp_ldSwP22];show (ldV (a.tmps.getD 21 undef)).run _ _=_;rw [h21];exact ld_what_v (t:=⟨k,h,⟨vk,vn,vstr,vl,vr⟩,(.slice pv2 vl.length cv2),vs,(.slice ps2 vs.length cs2),n,lo,tg,bi,s,fu,.slice none 0 0,.slice none 0 0⟩) (below_blk hC HBx.out.2)
  | 17,_ =>
    cases hq;have h20':a.tmps[20]?.getD undef=_:=gq (hG.dep ⟨14,.data⟩ (by simp) rfl _ rfl);have h22':a.tmps[22]?.getD undef=_:=gq (hG.dep ⟨16,.data⟩ (by simp) rfl _ rfl);unfold Oper.wp;simp [go_sem,callFunc,Act.eval,Tryz.func178,h20',h22'];refine Calls.mono (HS1.out w7 (HB2.out w7 hC)) ?_;rintro e w8 ⟨rfl,hb8⟩;exact⟨_,rfl,hb8,rfl⟩
  | 18,_=>cases hq;have h23':a.tmps[23]?.getD undef=_:=gq (hG.dep ⟨17,.data⟩ (by simp) rfl _ rfl);unfold Oper.wp;simp [go_sem,Act.eval,h23'];exact⟨_,rfl,Below.refl _ _,rfl⟩
  | 19,_=>cases hq;have h18':a.tmps[18]?.getD undef=_:=gq (hG.dep ⟨12,.data⟩ (by simp) rfl _ rfl);have h24':a.tmps[24]?.getD undef=_:=gq (hG.dep ⟨18,.data⟩ (by simp) rfl _ rfl);unfold Oper.wp;simp [go_sem,Act.eval,h18',h24'];exact⟨_,rfl,Below.refl _ _,rfl⟩
  | 20,_=>cases hq;have h25':a.tmps[25]?.getD undef=_:=gq (hG.dep ⟨19,.data⟩ (by simp) rfl _ rfl);unfold Oper.wp;simp [go_sem,Act.eval,h25'];exact⟨_,rfl,Below.refl _ _,rfl⟩
  | 21,_=>cases hq;have h2':a.tmps[2]?.getD undef=.pointer (some ⟨B0,0,none⟩):=gq (hG.fr 2 (by simp));unfold Oper.wp;simp [go_sem,Act.eval,h2'];exact⟨_,rfl,Below.refl _ _,rfl⟩
  | 22,_ =>
    cases hq;have h27':a.tmps[27]?.getD undef=_:=gq (hG.dep ⟨21,.data⟩ (by simp) rfl _ rfl);have c3:w7.cell? ⟨B0,7,none⟩=some ((.slice ps vs.length cs)):=by rw [cell_blk (below_blk hC HBx.out.1)];rfl
    unfold Oper.wp;simp [go_sem,Act.eval,h27',c3];exact⟨_,rfl,Below.refl _ _,rfl⟩
  | 23,_ =>
    cases hq;have h28':a.tmps[28]?.getD undef=_:=gq (hG.dep ⟨22,.data⟩ (by simp) rfl _ rfl);unfold Oper.wp;simp [go_sem,callFunc,Act.eval,Tryz.func175,h28'];refine Calls.mono (list7_W w7 _ _ _) ?_;rintro e w8 ⟨rfl,hb8⟩;exact⟨_,rfl,hb8,rfl⟩
  | 24,_=>cases hq;have h3':a.tmps[3]?.getD undef=.pointer (some ⟨B0+1,0,none⟩):=gq (hG.fr 3 (by simp));unfold Oper.wp;simp [go_sem,Act.eval,h3'];exact⟨_,rfl,Below.refl _ _,rfl⟩
  | 25,_ =>
    cases hq;have h30':a.tmps[30]?.getD undef=_:=gq (hG.dep ⟨24,.data⟩ (by simp) rfl _ rfl);have c3:w7.cell? ⟨B0+1,7,none⟩=some ((.slice ps2 vs.length cs2)):=by rw [cell_blk (below_blk hC HBx.out.2)];rfl
    unfold Oper.wp;simp [go_sem,Act.eval,h30',c3];exact⟨_,rfl,Below.refl _ _,rfl⟩
  | 26,_ =>
    cases hq;have h31':a.tmps[31]?.getD undef=_:=gq (hG.dep ⟨25,.data⟩ (by simp) rfl _ rfl);unfold Oper.wp;simp [go_sem,callFunc,Act.eval,Tryz.func175,h31'];refine Calls.mono (list7_W w7 _ _ _) ?_;rintro e w8 ⟨rfl,hb8⟩;exact⟨_,rfl,hb8,rfl⟩
  | 27,_ =>
    cases hq;have h29':a.tmps[29]?.getD undef=_:=gq (hG.dep ⟨23,.data⟩ (by simp) rfl _ rfl);have h32':a.tmps[32]?.getD undef=_:=gq (hG.dep ⟨26,.data⟩ (by simp) rfl _ rfl);unfold Oper.wp;simp [go_sem,callFunc,Act.eval,Tryz.func178,h29',h32'];refine Calls.mono (HS2.out w7 (HB2.out w7 hC)) ?_;rintro e w8 ⟨rfl,hb8⟩;exact⟨_,rfl,hb8,rfl⟩
  | 28,_=>cases hq;have h33':a.tmps[33]?.getD undef=_:=gq (hG.dep ⟨27,.data⟩ (by simp) rfl _ rfl);unfold Oper.wp;simp [go_sem,Act.eval,h33'];exact⟨_,rfl,Below.refl _ _,rfl⟩
  | 29,_=>cases hq;have h26':a.tmps[26]?.getD undef=_:=gq (hG.dep ⟨20,.data⟩ (by simp) rfl _ rfl);have h34':a.tmps[34]?.getD undef=_:=gq (hG.dep ⟨28,.data⟩ (by simp) rfl _ rfl);unfold Oper.wp;simp [go_sem,Act.eval,h26',h34'];exact⟨_,rfl,Below.refl _ _,rfl⟩
  | 30,_=>cases hq;have h35':a.tmps[35]?.getD undef=_:=gq (hG.dep ⟨29,.data⟩ (by simp) rfl _ rfl);unfold Oper.wp;simp [go_sem,Act.eval,h35'];exact⟨_,rfl,Below.refl _ _,rfl⟩
  | 31,_=>cases hq;have h2':a.tmps[2]?.getD undef=.pointer (some ⟨B0,0,none⟩):=gq (hG.fr 2 (by simp));unfold Oper.wp;simp [go_sem,Act.eval,h2'];exact⟨_,rfl,Below.refl _ _,rfl⟩
  | 32,_ =>
    cases hq;have h37':a.tmps[37]?.getD undef=_:=gq (hG.dep ⟨31,.data⟩ (by simp) rfl _ rfl);have c3:w7.cell? ⟨B0,8,none⟩=some (.int .i64 n):=by rw [cell_blk (below_blk hC HBx.out.1)];rfl
    unfold Oper.wp;simp [go_sem,Act.eval,h37',c3];exact⟨_,rfl,Below.refl _ _,rfl⟩
  | 33,_=>cases hq;have h3':a.tmps[3]?.getD undef=.pointer (some ⟨B0+1,0,none⟩):=gq (hG.fr 3 (by simp));unfold Oper.wp;simp [go_sem,Act.eval,h3'];exact⟨_,rfl,Below.refl _ _,rfl⟩
  | 34,_ =>
    cases hq;have h39':a.tmps[39]?.getD undef=_:=gq (hG.dep ⟨33,.data⟩ (by simp) rfl _ rfl);have c3:w7.cell? ⟨B0+1,8,none⟩=some (.int .i64 n):=by rw [cell_blk (below_blk hC HBx.out.2)];rfl
    unfold Oper.wp;simp [go_sem,Act.eval,h39',c3];exact⟨_,rfl,Below.refl _ _,rfl⟩
  | 35,_=>cases hq;have h38':a.tmps[38]?.getD undef=_:=gq (hG.dep ⟨32,.data⟩ (by simp) rfl _ rfl);have h40':a.tmps[40]?.getD undef=_:=gq (hG.dep ⟨34,.data⟩ (by simp) rfl _ rfl);unfold Oper.wp;simp [go_sem,Act.eval,h38',h40'];exact⟨_,rfl,Below.refl _ _,rfl⟩
  | 36,_=>cases hq;have h36':a.tmps[36]?.getD undef=_:=gq (hG.dep ⟨30,.data⟩ (by simp) rfl _ rfl);have h41':a.tmps[41]?.getD undef=_:=gq (hG.dep ⟨35,.data⟩ (by simp) rfl _ rfl);unfold Oper.wp;simp [go_sem,Act.eval,h36',h41'];exact⟨_,rfl,Below.refl _ _,rfl⟩
  | 37,_=>cases hq;have h42':a.tmps[42]?.getD undef=_:=gq (hG.dep ⟨36,.data⟩ (by simp) rfl _ rfl);unfold Oper.wp;simp [go_sem,Act.eval,h42'];exact⟨_,rfl,Below.refl _ _,rfl⟩
  | 38,_=>cases hq;have h2':a.tmps[2]?.getD undef=.pointer (some ⟨B0,0,none⟩):=gq (hG.fr 2 (by simp));unfold Oper.wp;simp [go_sem,Act.eval,h2'];exact⟨_,rfl,Below.refl _ _,rfl⟩
  | 39,_ =>
    cases hq;have h44':a.tmps[44]?.getD undef=_:=gq (hG.dep ⟨38,.data⟩ (by simp) rfl _ rfl);have c3:w7.cell? ⟨B0,9,none⟩=some (.int .i64 lo):=by rw [cell_blk (below_blk hC HBx.out.1)];rfl
    unfold Oper.wp;simp [go_sem,Act.eval,h44',c3];exact⟨_,rfl,Below.refl _ _,rfl⟩
  | 40,_=>cases hq;have h3':a.tmps[3]?.getD undef=.pointer (some ⟨B0+1,0,none⟩):=gq (hG.fr 3 (by simp));unfold Oper.wp;simp [go_sem,Act.eval,h3'];exact⟨_,rfl,Below.refl _ _,rfl⟩
  | 41,_ =>
    cases hq;have h46':a.tmps[46]?.getD undef=_:=gq (hG.dep ⟨40,.data⟩ (by simp) rfl _ rfl);have c3:w7.cell? ⟨B0+1,9,none⟩=some (.int .i64 lo):=by rw [cell_blk (below_blk hC HBx.out.2)];rfl
    unfold Oper.wp;simp [go_sem,Act.eval,h46',c3];exact⟨_,rfl,Below.refl _ _,rfl⟩
  | 42,_=>cases hq;have h45':a.tmps[45]?.getD undef=_:=gq (hG.dep ⟨39,.data⟩ (by simp) rfl _ rfl);have h47':a.tmps[47]?.getD undef=_:=gq (hG.dep ⟨41,.data⟩ (by simp) rfl _ rfl);unfold Oper.wp;simp [go_sem,Act.eval,h45',h47'];exact⟨_,rfl,Below.refl _ _,rfl⟩
  | 43,_=>cases hq;have h43':a.tmps[43]?.getD undef=_:=gq (hG.dep ⟨37,.data⟩ (by simp) rfl _ rfl);have h48':a.tmps[48]?.getD undef=_:=gq (hG.dep ⟨42,.data⟩ (by simp) rfl _ rfl);unfold Oper.wp;simp [go_sem,Act.eval,h43',h48'];exact⟨_,rfl,Below.refl _ _,rfl⟩
  | 44,_=>cases hq;have h49':a.tmps[49]?.getD undef=_:=gq (hG.dep ⟨43,.data⟩ (by simp) rfl _ rfl);unfold Oper.wp;simp [go_sem,Act.eval,h49'];exact⟨_,rfl,Below.refl _ _,rfl⟩
  | 45,_=>cases hq;have h2':a.tmps[2]?.getD undef=.pointer (some ⟨B0,0,none⟩):=gq (hG.fr 2 (by simp));unfold Oper.wp;simp [go_sem,Act.eval,h2'];exact⟨_,rfl,Below.refl _ _,rfl⟩
  | 46,_ =>
    cases hq;have h51':a.tmps[51]?.getD undef=_:=gq (hG.dep ⟨45,.data⟩ (by simp) rfl _ rfl);have c3:w7.cell? ⟨B0,10,none⟩=some (.int .i64 tg):=by rw [cell_blk (below_blk hC HBx.out.1)];rfl
    unfold Oper.wp;simp [go_sem,Act.eval,h51',c3];exact⟨_,rfl,Below.refl _ _,rfl⟩
  | 47,_=>cases hq;have h3':a.tmps[3]?.getD undef=.pointer (some ⟨B0+1,0,none⟩):=gq (hG.fr 3 (by simp));unfold Oper.wp;simp [go_sem,Act.eval,h3'];exact⟨_,rfl,Below.refl _ _,rfl⟩
  | 48,_ =>
    cases hq;have h53':a.tmps[53]?.getD undef=_:=gq (hG.dep ⟨47,.data⟩ (by simp) rfl _ rfl);have c3:w7.cell? ⟨B0+1,10,none⟩=some (.int .i64 tg):=by rw [cell_blk (below_blk hC HBx.out.2)];rfl
    unfold Oper.wp;simp [go_sem,Act.eval,h53',c3];exact⟨_,rfl,Below.refl _ _,rfl⟩
  | 49,_=>cases hq;have h52':a.tmps[52]?.getD undef=_:=gq (hG.dep ⟨46,.data⟩ (by simp) rfl _ rfl);have h54':a.tmps[54]?.getD undef=_:=gq (hG.dep ⟨48,.data⟩ (by simp) rfl _ rfl);unfold Oper.wp;simp [go_sem,Act.eval,h52',h54'];exact⟨_,rfl,Below.refl _ _,rfl⟩
  | 50,_=>cases hq;have h50':a.tmps[50]?.getD undef=_:=gq (hG.dep ⟨44,.data⟩ (by simp) rfl _ rfl);have h55':a.tmps[55]?.getD undef=_:=gq (hG.dep ⟨49,.data⟩ (by simp) rfl _ rfl);unfold Oper.wp;simp [go_sem,Act.eval,h50',h55'];exact⟨_,rfl,Below.refl _ _,rfl⟩
  | 51,_=>cases hq;have h56':a.tmps[56]?.getD undef=_:=gq (hG.dep ⟨50,.data⟩ (by simp) rfl _ rfl);unfold Oper.wp;simp [go_sem,Act.eval,h56'];exact⟨_,rfl,Below.refl _ _,rfl⟩
  | 52,_=>cases hq;have h2':a.tmps[2]?.getD undef=.pointer (some ⟨B0,0,none⟩):=gq (hG.fr 2 (by simp));unfold Oper.wp;simp [go_sem,Act.eval,h2'];exact⟨_,rfl,Below.refl _ _,rfl⟩
  | 53,_ =>
    cases hq;have h58':a.tmps[58]?.getD undef=_:=gq (hG.dep ⟨52,.data⟩ (by simp) rfl _ rfl);have c3:w7.cell? ⟨B0,11,none⟩=some (.int .i64 bi):=by rw [cell_blk (below_blk hC HBx.out.1)];rfl
    unfold Oper.wp;simp [go_sem,Act.eval,h58',c3];exact⟨_,rfl,Below.refl _ _,rfl⟩
  | 54,_=>cases hq;have h3':a.tmps[3]?.getD undef=.pointer (some ⟨B0+1,0,none⟩):=gq (hG.fr 3 (by simp));unfold Oper.wp;simp [go_sem,Act.eval,h3'];exact⟨_,rfl,Below.refl _ _,rfl⟩
  | 55,_ =>
    cases hq;have h60':a.tmps[60]?.getD undef=_:=gq (hG.dep ⟨54,.data⟩ (by simp) rfl _ rfl);have c3:w7.cell? ⟨B0+1,11,none⟩=some (.int .i64 bi):=by rw [cell_blk (below_blk hC HBx.out.2)];rfl
    unfold Oper.wp;simp [go_sem,Act.eval,h60',c3];exact⟨_,rfl,Below.refl _ _,rfl⟩
  | 56,_=>cases hq;have h59':a.tmps[59]?.getD undef=_:=gq (hG.dep ⟨53,.data⟩ (by simp) rfl _ rfl);have h61':a.tmps[61]?.getD undef=_:=gq (hG.dep ⟨55,.data⟩ (by simp) rfl _ rfl);unfold Oper.wp;simp [go_sem,Act.eval,h59',h61'];exact⟨_,rfl,Below.refl _ _,rfl⟩
  | 57,_=>cases hq;have h57':a.tmps[57]?.getD undef=_:=gq (hG.dep ⟨51,.data⟩ (by simp) rfl _ rfl);have h62':a.tmps[62]?.getD undef=_:=gq (hG.dep ⟨56,.data⟩ (by simp) rfl _ rfl);unfold Oper.wp;simp [go_sem,Act.eval,h57',h62'];exact⟨_,rfl,Below.refl _ _,rfl⟩
  | 58,_=>cases hq;have h63':a.tmps[63]?.getD undef=_:=gq (hG.dep ⟨57,.data⟩ (by simp) rfl _ rfl);unfold Oper.wp;simp [go_sem,Act.eval,h63'];exact⟨_,rfl,Below.refl _ _,rfl⟩
  | 59,_=>cases hq;have h2':a.tmps[2]?.getD undef=.pointer (some ⟨B0,0,none⟩):=gq (hG.fr 2 (by simp));unfold Oper.wp;simp [go_sem,Act.eval,h2'];exact⟨_,rfl,Below.refl _ _,rfl⟩
  | 60,_ =>
    cases hq;have h65':a.tmps[65]?.getD undef=_:=gq (hG.dep ⟨59,.data⟩ (by simp) rfl _ rfl);have c3:w7.cell? ⟨B0,12,none⟩=some (.int .u8 s):=by rw [cell_blk (below_blk hC HBx.out.1)];rfl
    unfold Oper.wp;simp [go_sem,Act.eval,h65',c3];exact⟨_,rfl,Below.refl _ _,rfl⟩
  | 61,_=>cases hq;have h3':a.tmps[3]?.getD undef=.pointer (some ⟨B0+1,0,none⟩):=gq (hG.fr 3 (by simp));unfold Oper.wp;simp [go_sem,Act.eval,h3'];exact⟨_,rfl,Below.refl _ _,rfl⟩
  | 62,_ =>
    cases hq;have h67':a.tmps[67]?.getD undef=_:=gq (hG.dep ⟨61,.data⟩ (by simp) rfl _ rfl);have c3:w7.cell? ⟨B0+1,12,none⟩=some (.int .u8 s):=by rw [cell_blk (below_blk hC HBx.out.2)];rfl
    unfold Oper.wp;simp [go_sem,Act.eval,h67',c3];exact⟨_,rfl,Below.refl _ _,rfl⟩
  | 63,_=>cases hq;have h66':a.tmps[66]?.getD undef=_:=gq (hG.dep ⟨60,.data⟩ (by simp) rfl _ rfl);have h68':a.tmps[68]?.getD undef=_:=gq (hG.dep ⟨62,.data⟩ (by simp) rfl _ rfl);unfold Oper.wp;simp [go_sem,Act.eval,h66',h68'];exact⟨_,rfl,Below.refl _ _,rfl⟩
  | 64,_=>cases hq;have h64':a.tmps[64]?.getD undef=_:=gq (hG.dep ⟨58,.data⟩ (by simp) rfl _ rfl);have h69':a.tmps[69]?.getD undef=_:=gq (hG.dep ⟨63,.data⟩ (by simp) rfl _ rfl);unfold Oper.wp;simp [go_sem,Act.eval,h64',h69'];exact⟨_,rfl,Below.refl _ _,rfl⟩
  | 65,_=>cases hq;have h70':a.tmps[70]?.getD undef=_:=gq (hG.dep ⟨64,.data⟩ (by simp) rfl _ rfl);unfold Oper.wp;simp [go_sem,Act.eval,h70'];exact⟨_,rfl,Below.refl _ _,rfl⟩
  | 66,_=>cases hq;have h2':a.tmps[2]?.getD undef=.pointer (some ⟨B0,0,none⟩):=gq (hG.fr 2 (by simp));unfold Oper.wp;simp [go_sem,Act.eval,h2'];exact⟨_,rfl,Below.refl _ _,rfl⟩
  | 67,_ =>
    cases hq;have h72':a.tmps[72]?.getD undef=_:=gq (hG.dep ⟨66,.data⟩ (by simp) rfl _ rfl);have c3:w7.cell? ⟨B0,13,none⟩=some (.bool fu):=by rw [cell_blk (below_blk hC HBx.out.1)];rfl
    unfold Oper.wp;simp [go_sem,Act.eval,h72',c3];exact⟨_,rfl,Below.refl _ _,rfl⟩
  | 68,_=>cases hq;have h3':a.tmps[3]?.getD undef=.pointer (some ⟨B0+1,0,none⟩):=gq (hG.fr 3 (by simp));unfold Oper.wp;simp [go_sem,Act.eval,h3'];exact⟨_,rfl,Below.refl _ _,rfl⟩
  | 69,_ =>
    cases hq;have h74':a.tmps[74]?.getD undef=_:=gq (hG.dep ⟨68,.data⟩ (by simp) rfl _ rfl);have c3:w7.cell? ⟨B0+1,13,none⟩=some (.bool fu):=by rw [cell_blk (below_blk hC HBx.out.2)];rfl
    unfold Oper.wp;simp [go_sem,Act.eval,h74',c3];exact⟨_,rfl,Below.refl _ _,rfl⟩
  | 70,_=>cases hq;have h73':a.tmps[73]?.getD undef=_:=gq (hG.dep ⟨67,.data⟩ (by simp) rfl _ rfl);have h75':a.tmps[75]?.getD undef=_:=gq (hG.dep ⟨69,.data⟩ (by simp) rfl _ rfl);unfold Oper.wp;simp [go_sem,Act.eval,h73',h75'];exact⟨_,rfl,Below.refl _ _,rfl⟩
  | 71,_=>cases hq;have h71':a.tmps[71]?.getD undef=_:=gq (hG.dep ⟨65,.data⟩ (by simp) rfl _ rfl);have h76':a.tmps[76]?.getD undef=_:=gq (hG.dep ⟨70,.data⟩ (by simp) rfl _ rfl);unfold Oper.wp;simp [go_sem,Act.eval,h71',h76'];exact⟨_,rfl,Below.refl _ _,rfl⟩
  | 72,_=>cases hq;have h77':a.tmps[77]?.getD undef=_:=gq (hG.dep ⟨71,.data⟩ (by simp) rfl _ rfl);unfold Oper.wp;simp [go_sem,Act.eval,h77'];exact⟨_,rfl,Below.refl _ _,rfl⟩
  | 73,_=>cases hq;have h2':a.tmps[2]?.getD undef=.pointer (some ⟨B0,0,none⟩):=gq (hG.fr 2 (by simp));unfold Oper.wp;simp [go_sem,Act.eval,h2'];exact⟨_,rfl,Below.refl _ _,rfl⟩
  | 74,_ =>
    cases hq;have h79':a.tmps[79]?.getD undef=_:=gq (hG.dep ⟨73,.data⟩ (by simp) rfl _ rfl);have c3:w7.cell? ⟨B0,15,none⟩=some (.slice none 0 0):=by rw [cell_blk (below_blk hC HBx.out.1)];rfl
    unfold Oper.wp;simp [go_sem,Act.eval,h79',c3];exact⟨_,rfl,Below.refl _ _,rfl⟩
  | 75,_=>cases hq;have h80':a.tmps[80]?.getD undef=_:=gq (hG.dep ⟨74,.data⟩ (by simp) rfl _ rfl);unfold Oper.wp;simp [go_sem,Act.eval,h80'];exact⟨_,rfl,Below.refl _ _,rfl⟩
  | 76,_=>cases hq;have h3':a.tmps[3]?.getD undef=.pointer (some ⟨B0+1,0,none⟩):=gq (hG.fr 3 (by simp));unfold Oper.wp;simp [go_sem,Act.eval,h3'];exact⟨_,rfl,Below.refl _ _,rfl⟩
  | 77,_ =>
    cases hq;have h82':a.tmps[82]?.getD undef=_:=gq (hG.dep ⟨76,.data⟩ (by simp) rfl _ rfl);have c3:w7.cell? ⟨B0+1,15,none⟩=some (.slice none 0 0):=by rw [cell_blk (below_blk hC HBx.out.2)];rfl
    unfold Oper.wp;simp [go_sem,Act.eval,h82',c3];exact⟨_,rfl,Below.refl _ _,rfl⟩
  | 78,_=>cases hq;have h83':a.tmps[83]?.getD undef=_:=gq (hG.dep ⟨77,.data⟩ (by simp) rfl _ rfl);unfold Oper.wp;simp [go_sem,Act.eval,h83'];exact⟨_,rfl,Below.refl _ _,rfl⟩
  | 79,_=>cases hq;have h81':a.tmps[81]?.getD undef=_:=gq (hG.dep ⟨75,.data⟩ (by simp) rfl _ rfl);have h84':a.tmps[84]?.getD undef=_:=gq (hG.dep ⟨78,.data⟩ (by simp) rfl _ rfl);unfold Oper.wp;simp [go_sem,Act.eval,h81',h84'];exact⟨_,rfl,Below.refl _ _,rfl⟩
 intro a w7 hC hdf hsz hfr hphi;have e0:a.tmps.getD 6 undef=.pointer (some ⟨B0,0,none⟩):=hphi 0 _ rfl;have e1:a.tmps.getD 7 undef=.int .u8 k:=hphi 1 _ rfl;have e2:a.tmps.getD 8 undef=.pointer (some ⟨B0+1,0,none⟩):=hphi 2 _ rfl;have e3:a.tmps.getD 9 undef=.int .u8 k:=hphi 3 _ rfl;have e4:a.tmps.getD 10 undef=.bool false:=hphi 4 _ rfl;have e5:a.tmps.getD 11 undef=.bool false:=hphi 5 _ rfl;have e6:a.tmps.getD 12 undef=.pointer (some ⟨B0,1,none⟩):=hphi 6 _ rfl;have e7:a.tmps.getD 13 undef=.int .i64 h:=hphi 7 _ rfl;have e8:a.tmps.getD 14 undef=.pointer (some ⟨B0+1,1,none⟩):=hphi 8 _ rfl;have e9:a.tmps.getD 15 undef=.int .i64 h:=hphi 9 _ rfl;have e10:a.tmps.getD 16 undef=.bool false:=hphi 10 _ rfl;have e11:a.tmps.getD 17 undef=.bool false:=hphi 11 _ rfl;have e12:a.tmps.getD 18 undef=.bool false:=hphi 12 _ rfl;have e13:a.tmps.getD 19 undef=.pointer (some ⟨B0,2,none⟩):=hphi 13 _ rfl;have e14:a.tmps.getD 20 undef=.agg #[.int .u8 vk,.int .i64 vn,.string vstr,(.slice pv vl.length cv),.int .i64 vr]:=hphi 14 _ rfl;have e15:a.tmps.getD 21 undef=.pointer (some ⟨B0+1,2,none⟩):=hphi 15 _ rfl;have e16:a.tmps.getD 22 undef=.agg #[.int .u8 vk,.int .i64 vn,.string vstr,(.slice pv2 vl.length cv2),.int .i64 vr]:=hphi 16 _ rfl;have e17:a.tmps.getD 23 undef=.bool true:=hphi 17 _ rfl;have e18:a.tmps.getD 24 undef=.bool false:=hphi 18 _ rfl;have e19:a.tmps.getD 25 undef=.bool false:=hphi 19 _ rfl;have e20:a.tmps.getD 26 undef=.bool false:=hphi 20 _ rfl;have e21:a.tmps.getD 27 undef=.pointer (some ⟨B0,7,none⟩):=hphi 21 _ rfl;have e22:a.tmps.getD 28 undef=(.slice ps vs.length cs):=hphi 22 _ rfl;have e23:a.tmps.getD 29 undef=.agg #[.int .u8 3,.int .i64 0,.string ⟨#[]⟩,(.slice ps vs.length cs),.int .i64 0]:=hphi 23 _ rfl;have e24:a.tmps.getD 30 undef=.pointer (some ⟨B0+1,7,none⟩):=hphi 24 _ rfl;have e25:a.tmps.getD 31 undef=(.slice ps2 vs.length cs2):=hphi 25 _ rfl;have e26:a.tmps.getD 32 undef=.agg #[.int .u8 3,.int .i64 0,.string ⟨#[]⟩,(.slice ps2 vs.length cs2),.int .i64 0]:=hphi 26 _ rfl;have e27:a.tmps.getD 33 undef=.bool true:=hphi 27 _ rfl;have e28:a.tmps.getD 34 undef=.bool false:=hphi 28 _ rfl;have e29:a.tmps.getD 35 undef=.bool false:=hphi 29 _ rfl;have e30:a.tmps.getD 36 undef=.bool false:=hphi 30 _ rfl;have e31:a.tmps.getD 37 undef=.pointer (some ⟨B0,8,none⟩):=hphi 31 _ rfl;have e32:a.tmps.getD 38 undef=.int .i64 n:=hphi 32 _ rfl;have e33:a.tmps.getD 39 undef=.pointer (some ⟨B0+1,8,none⟩):=hphi 33 _ rfl;have e34:a.tmps.getD 40 undef=.int .i64 n:=hphi 34 _ rfl;have e35:a.tmps.getD 41 undef=.bool false:=hphi 35 _ rfl;have e36:a.tmps.getD 42 undef=.bool false:=hphi 36 _ rfl;have e37:a.tmps.getD 43 undef=.bool false:=hphi 37 _ rfl;have e38:a.tmps.getD 44 undef=.pointer (some ⟨B0,9,none⟩):=hphi 38 _ rfl;have e39:a.tmps.getD 45 undef=.int .i64 lo:=hphi 39 _ rfl;have e40:a.tmps.getD 46 undef=.pointer (some ⟨B0+1,9,none⟩):=hphi 40 _ rfl;have e41:a.tmps.getD 47 undef=.int .i64 lo:=hphi 41 _ rfl;have e42:a.tmps.getD 48 undef=.bool false:=hphi 42 _ rfl;have e43:a.tmps.getD 49 undef=.bool false:=hphi 43 _ rfl;have e44:a.tmps.getD 50 undef=.bool false:=hphi 44 _ rfl;have e45:a.tmps.getD 51 undef=.pointer (some ⟨B0,10,none⟩):=hphi 45 _ rfl;have e46:a.tmps.getD 52 undef=.int .i64 tg:=hphi 46 _ rfl;have e47:a.tmps.getD 53 undef=.pointer (some ⟨B0+1,10,none⟩):=hphi 47 _ rfl;have e48:a.tmps.getD 54 undef=.int .i64 tg:=hphi 48 _ rfl;have e49:a.tmps.getD 55 undef=.bool false:=hphi 49 _ rfl;have e50:a.tmps.getD 56 undef=.bool false:=hphi 50 _ rfl;have e51:a.tmps.getD 57 undef=.bool false:=hphi 51 _ rfl;have e52:a.tmps.getD 58 undef=.pointer (some ⟨B0,11,none⟩):=hphi 52 _ rfl;have e53:a.tmps.getD 59 undef=.int .i64 bi:=hphi 53 _ rfl;have e54:a.tmps.getD 60 undef=.pointer (some ⟨B0+1,11,none⟩):=hphi 54 _ rfl;have e55:a.tmps.getD 61 undef=.int .i64 bi:=hphi 55 _ rfl;have e56:a.tmps.getD 62 undef=.bool false:=hphi 56 _ rfl;have e57:a.tmps.getD 63 undef=.bool false:=hphi 57 _ rfl;have e58:a.tmps.getD 64 undef=.bool false:=hphi 58 _ rfl;have e59:a.tmps.getD 65 undef=.pointer (some ⟨B0,12,none⟩):=hphi 59 _ rfl;have e60:a.tmps.getD 66 undef=.int .u8 s:=hphi 60 _ rfl;have e61:a.tmps.getD 67 undef=.pointer (some ⟨B0+1,12,none⟩):=hphi 61 _ rfl;have e62:a.tmps.getD 68 undef=.int .u8 s:=hphi 62 _ rfl;have e63:a.tmps.getD 69 undef=.bool false:=hphi 63 _ rfl;have e64:a.tmps.getD 70 undef=.bool false:=hphi 64 _ rfl;have e65:a.tmps.getD 71 undef=.bool false:=hphi 65 _ rfl;have e66:a.tmps.getD 72 undef=.pointer (some ⟨B0,13,none⟩):=hphi 66 _ rfl;have e67:a.tmps.getD 73 undef=.bool fu:=hphi 67 _ rfl;have e68:a.tmps.getD 74 undef=.pointer (some ⟨B0+1,13,none⟩):=hphi 68 _ rfl;have e69:a.tmps.getD 75 undef=.bool fu:=hphi 69 _ rfl;have e70:a.tmps.getD 76 undef=.bool false:=hphi 70 _ rfl;have e71:a.tmps.getD 77 undef=.bool false:=hphi 71 _ rfl;have e72:a.tmps.getD 78 undef=.bool false:=hphi 72 _ rfl;have e73:a.tmps.getD 79 undef=.pointer (some ⟨B0,15,none⟩):=hphi 73 _ rfl;have e74:a.tmps.getD 80 undef=.slice none 0 0:=hphi 74 _ rfl;have e75:a.tmps.getD 81 undef=.int .i64 0:=hphi 75 _ rfl;have e76:a.tmps.getD 82 undef=.pointer (some ⟨B0+1,15,none⟩):=hphi 76 _ rfl;have e77:a.tmps.getD 83 undef=.slice none 0 0:=hphi 77 _ rfl;have e78:a.tmps.getD 84 undef=.int .i64 0:=hphi 78 _ rfl;have e79:a.tmps.getD 85 undef=.bool false:=hphi 79 _ rfl;have ha:=act_of hdf hsz hfr;simp only [List.append_eq,List.cons_append,List.nil_append,List.take_succ_cons,List.take_zero,List.filterMap_cons,List.filterMap_nil,List.foldl_cons,List.foldl_nil,List.setIfInBounds_toArray,List.set_cons_zero,List.set_cons_succ,e0,e1,e2,e3,e4,e5,e6,e7,e8,e9,e10,e11,e12,e13,e14,e15,e16,e17,e18,e19,e20,e21,e22,e23,e24,e25,e26,e27,e28,e29,e30,e31,e32,e33,e34,e35,e36,e37,e38,e39,e40,e41,e42,e43,e44,e45,e46,e47,e48,e49,e50,e51,e52,e53,e54,e55,e56,e57,e58,e59,e60,e61,e62,e63,e64,e65,e66,e67,e68,e69,e70,e71,e72,e73,e74,e75,e76,e77,e78,e79]at ha;clear hdf hsz hfr hphi e0 e1 e2 e3 e4 e5 e6 e7 e8 e9 e10 e11 e12 e13 e14 e15 e16 e17 e18 e19 e20 e21 e22 e23 e24 e25 e26 e27 e28 e29 e30 e31 e32 e33 e34 e35 e36 e37 e38 e39 e40 e41 e42 e43 e44 e45 e46 e47 e48 e49 e50 e51 e52 e53 e54 e55 e56 e57 e58 e59 e60 e61 e62 e63 e64 e65 e66 e67 e68 e69 e70 e71 e72 e73 e74 e75 e76 e77 e78 e79;subst ha;have HT:=(show Hid (Bl w w7/\w7.heap[B0]? = _/\w7.heap[B0+1]? = _)from⟨HB2.out w7 hC,below_blk hC HBx.out.1,below_blk hC HBx.out.2⟩);clear hC HB2 HS1 HS2;have aa:=cells16 HT.out.2.1;have bb:=cells16 HT.out.2.2;refine⟨rfl,?_⟩;unfold Oper.wp;simp [execOp,go_sem,Act.eval,wpTailG];refine ‹∀ (a:Act) (w:World),Code.wp Tryz.prog _ _ a w->_› _ _ ?_
 go_wp2_with fail
 go_loopw [5] (fun vi wr=>vi=.int .i64 0/\wr=w7) (fun _ _=>0)
 case atStart=>exact⟨rfl,rfl⟩
 case round =>
  obtain⟨rfl,rfl⟩:=hrel
  go_wp2_with fail
  refine(sameCode07_nil _).mono ?_;rintro e w8 ⟨rfl,hb⟩;have HB:=(show Hid (Bl w w8)from HT.out.1.trans (hb.mono HT.out.1.size));clear hb aa bb
  go_wp2_with fail
  go_ret
  exact⟨rfl,HB.out⟩
end
section
theorem intArg_at {w:World} {pa:Option Addr} {xs:List Int} (h:IntArg .i64 w pa xs) {i:Nat} {x:Int} (hx:xs[i]? = some x):∃ g o x',pa=some ⟨g,o,none⟩/\w.cell? ⟨g,o+i,none⟩=some (.int .i64 x')/\x=x':=by
 rcases h with h | ⟨b,o,h1,-,h3⟩
 ·subst h;simp at hx
 ·exact⟨b,o,x,h1,h3 i x hx,rfl⟩
theorem execOp_ldSmP130 (ρ:Operand->Value) (ty:TypeId) (pos:String) (af:Array Edge) (g:Option (Nat × Bool)) :
 execOp ρ { dst:=some 130,op:=.load 46 (.tmp 129),type:=ty,pos:=pos,after:=af,guard:=g } = ldW (ρ (.tmp 129)):=rfl
theorem execOp_ldSmP136 (ρ:Operand->Value) (ty:TypeId) (pos:String) (af:Array Edge) (g:Option (Nat × Bool)) :
 execOp ρ { dst:=some 136,op:=.load 46 (.tmp 135),type:=ty,pos:=pos,after:=af,guard:=g } = ldW (ρ (.tmp 135)):=rfl
def SmP (B0 g g' m nt cT cT':Nat) (x:Int × Th) (rc rl:Value) (j:Nat) (v:Value) (_:World):Prop :=
 match j with
 | 0=>v=.pointer (some ⟨B0,2,none⟩)
 | 1=>v=.slice (some ⟨g,0,none⟩) nt cT
 | 2=>v=.int .i64 m
 | 3=>v=.pointer (some ⟨g,m * 17,none⟩)
 | 4=>v=.pointer (some ⟨g,m * 17,none⟩)
 | 5=>(v=.int .i64 x.1)
 | 6=>v=.pointer (some ⟨B0+1,2,none⟩)
 | 7=>v=.slice (some ⟨g',0,none⟩) nt cT'
 | 8=>v=.int .i64 m
 | 9=>v=.pointer (some ⟨g',m * 17,none⟩)
 | 10=>v=.pointer (some ⟨g',m * 17,none⟩)
 | 11=>(v=.int .i64 x.1)
 | 12=>(v=.bool false)
 | 13=>(v=.bool false)
 | 14=>v=.pointer (some ⟨B0,2,none⟩)
 | 15=>v=.slice (some ⟨g,0,none⟩) nt cT
 | 16=>v=.int .i64 m
 | 17=>v=.pointer (some ⟨g,m * 17,none⟩)
 | 18=>v=.pointer (some ⟨g,m * 17+1,none⟩)
 | 19=>v=.agg (thc x.2)
 | 20=>v=.pointer (some ⟨B0+1,2,none⟩)
 | 21=>v=.slice (some ⟨g',0,none⟩) nt cT'
 | 22=>v=.int .i64 m
 | 23=>v=.pointer (some ⟨g',m * 17,none⟩)
 | 24=>v=.pointer (some ⟨g',m * 17+1,none⟩)
 | 25=>v=.agg (thc { x.2 with vl:=rc,vals:=rl })
 | 26=>v=.bool true
 | 27=>v=.bool false
 | _=>True
theorem same7_W {w:World} {N1 N2:WM} {v1 v2:Value} (h1:ToldG N1 v1 w) (h2:ToldG N2 v2 w) (hA:Alike N1 N2) (hp:N1.parents.length≤1000) (hm:N1.made.length≤1000) (ht:N1.things.length≤100000) (hwf:∀ x ∈ N1.things,x.2.v.wf/\(listV x.2.vs).wf) :
 Calls Tryz.prog 24 #[v1,v2] w fun e w'=>e=.returned (.bool true)/\Bl w w':=by
 obtain⟨pP,cP,pT,cT,pM,cM,l,rfl,rP,rM,lk,rT,dT⟩:=h1;obtain⟨pP',cP',pT',cT',pM',cM',l',rfl,rP',rM',lk',rT',dT'⟩:=h2;rw [hA.par]at rP' ⊢;rw [hA.made]at rM' ⊢;rw [hA.last];have hl':l'.length=l.length:=by rw [lk'.1,hA.things.1,lk.1]
 rw [hl'];obtain⟨np,hnp⟩:∃ n,n=N1.parents.length:=⟨_,rfl⟩;obtain⟨nm,hnm⟩:∃ n,n=N1.made.length:=⟨_,rfl⟩;obtain⟨nt,hnt⟩:∃ n,n=l.length:=⟨_,rfl⟩
 have HP:Hid (∀ w',Bl w w'->∀ i,i<np->∃ g o g' o' x,pP=some ⟨g,o,none⟩/\pP'=some ⟨g',o',none⟩/\w'.cell? ⟨g,o+i,none⟩=some (.int .i64 x)/\w'.cell? ⟨g',o'+i,none⟩=some (.int .i64 x)):=fun w' hb i hi=>by
  have hx:N1.parents[i]? = some _:=List.getElem?_eq_getElem (by omega);obtain⟨g,o,x,e1,c1,e2⟩:=intArg_at (intArg_below rP hb) hx;obtain⟨g',o',x',e1',c1',e2'⟩:=intArg_at (intArg_below rP' hb) hx;subst e2 e2';exact⟨g,o,g',o',_,e1,e1',c1,c1'⟩
 have HM:Hid (∀ w',Bl w w'->∀ i,i<nm->∃ g o g' o' x,pM=some ⟨g,o,none⟩/\pM'=some ⟨g',o',none⟩/\w'.cell? ⟨g,o+i,none⟩=some (.int .i64 x)/\w'.cell? ⟨g',o'+i,none⟩=some (.int .i64 x)):=fun w' hb i hi=>by
  have hx:N1.made[i]? = some _:=List.getElem?_eq_getElem (by omega);obtain⟨g,o,x,e1,c1,e2⟩:=intArg_at (intArg_below rM hb) hx;obtain⟨g',o',x',e1',c1',e2'⟩:=intArg_at (intArg_below rM' hb) hx;subst e2 e2';exact⟨g,o,g',o',_,e1,e1',c1,c1'⟩
 have HN:Hid (np≤1000/\nm≤1000/\nt≤100000):=⟨by omega,by omega,by rw [hnt,lk.1];exact ht⟩
 have HT:Hid (∀ w',Bl w w'->∀ i,i<nt->∃ g g' x vl vals,pT=some ⟨g,0,none⟩/\pT'=some ⟨g',0,none⟩/\(∀ k v,(entc x)[k]? = some v->w'.cell? ⟨g,i * 17+k,none⟩=some v)/\(∀ k v,(entc (x.1,{ x.2 with vl:=vl,vals:=vals }))[k]? = some v->w'.cell? ⟨g',i * 17+k,none⟩=some v) /\
  ∀ w2,Bl w w2->Calls Tryz.prog 110 #[.agg (thc x.2),.agg (thc { x.2 with vl:=vl,vals:=vals })] w2 fun e w''=>e=.returned (.bool true)/\Bl w2 w''):=fun w' hb i hi=>by
  have hx:l[i]? = some _:=List.getElem?_eq_getElem (by omega);obtain⟨vl,vals,hx'⟩:=hA.things.two lk lk' hx;obtain⟨g,e,hg,hc⟩:=rT i _ hx;obtain⟨g',e',hg',hc'⟩:=rT' i _ hx';obtain⟨y,hy,hye,vly,valsy,hyt⟩:=lk.mem' (List.mem_of_getElem? hx);obtain⟨hw1,hw2⟩:=hwf y hy;have d:=dT _ (List.mem_of_getElem? hx);have d':=dT' _ (List.mem_of_getElem? hx');have ev:l[i].2.v=y.2.v:=by rw [hyt]
  have evs:l[i].2.vs=y.2.vs:=by rw [hyt]
  exact⟨g,g',l[i],vl,vals,e,e',fun k v hv=>(World.cell?_of_block (a:=⟨g,i * 17+k,none⟩) (hb.block g hg)).trans (hc k v hv),fun k v hv=>(World.cell?_of_block (a:=⟨g',i * 17+k,none⟩) (hb.block g' hg')).trans (hc' k v hv),
   fun w2 hb2=>sameWhat7_W l[i].2 vl vals (d.v.on hb2) (d.vs.on hb2) (d'.v.on hb2) (d'.vs.on hb2) (by rw [ev];exact hw1) (by rw [evs];exact hw2) d.code d.names⟩
 have HOn:Hid (∀ x ∈ l,(thc x.2).all (·.oneCell')=true):=fun x hx=>by
  have d:=dT x hx;obtain⟨a,b,e⟩:=d.v.form;obtain⟨a',b',e'⟩:=d.vs.form;simp only [thc,d.code,d.names,e,e'];simp [go_sem]
 rw [<- hnp,← hnm,← hnt];clear rP rP' rM rM' hnp hnm rT rT' lk lk' hl' hnt hA hp hm ht dT dT' hwf
 have H0:Hid (∀ wx,wx=(w.alloc (.cells #[.slice pP np cP,.slice none 0 0,.slice pT nt cT,.int .i64 N1.last,.slice pM nm cM] 67)).alloc (.cells #[.slice pP' np cP',.slice none 0 0,.slice pT' nt cT',.int .i64 N1.last,.slice pM' nm cM'] 67)->Bl w wx/\wx.heap[w.heap.size]? = some (.cells #[.slice pP np cP,.slice none 0 0,.slice pT nt cT,.int .i64 N1.last,.slice pM nm cM] 67 (0,0))/\wx.heap[w.heap.size+1]? = some (.cells #[.slice pP' np cP',.slice none 0 0,.slice pT' nt cT',.int .i64 N1.last,.slice pM' nm cM'] 67 (0,0))):=fun wx e=>by
  subst e;exact⟨((Below.refl _ w).alloc (Nat.le_refl _) _).alloc (by simp) _,blk2_old _ _ _,blk2_new _ _ _⟩
 go_enter Tryz.func24,Tryz.ntmps24
 go_upto_region 1 with fail
 have H1:=(show Hid (_/\_/\_)from H0.out _ rfl);revert H1;generalize World.alloc (World.alloc w _) _=w1;intro H1;clear H0;obtain⟨⟨c0,c1,c2,c3,c4⟩,-⟩:=cells5 H1.out.2.1;obtain⟨⟨d0,d1,d2,d3,d4⟩,-⟩:=cells5 H1.out.2.2
 go_wp2_with fail
 clear c0 c1 c2 c3 c4 d0 d1 d2 d3 d4
 go_loopw [5] (fun vi wr=>∃ i:Nat,vi=.int .i64 i/\i≤np/\Hid (Bl w1 wr)) (fun vi _=>np - (intOf vi).toNat)
 case atStart=>exact⟨0,rfl,Nat.zero_le _,Below.refl _ _⟩
 case round =>
  obtain⟨i,rfl,hi,HB⟩:=hrel;obtain⟨⟨c0,c1,c2,c3,c4⟩,-⟩:=cells5 (below_blk HB.out H1.out.2.1);obtain⟨⟨d0,d1,d2,d3,d4⟩,-⟩:=cells5 (below_blk HB.out H1.out.2.2)
  by_cases hin:i<np
  ·have hiz:(i:Int)<(np:Int):=by omega
   have hi0:(0:Int)≤(i:Int):=by omega
   obtain⟨g,o,g',o',x,e1,e2,a1,a2⟩:=HP.out wr (H1.out.1.trans (HB.out.mono H1.out.1.size)) i hin;subst e1 e2;have hwi:wrap64 ((i:Int)+1)=(i:Int)+1:=by have:=HN.out;unfold wrap64;omega
   have b0:wr.drew.cell? _=_:=c0;have b1:wr.drew.cell? _=_:=d0;have b2:wr.drew.cell? _=_:=a1;have b3:wr.drew.cell? _=_:=a2;have HBd:Hid (Bl w1 wr.drew):=HB.out.trans (below_drew.mono HB.out.size)
   go_upto_region 6 with fail
   go_region
   all_goals
    go_wp2_with fail
    go_roundw
    case rel=>exact⟨i+1,by go_num,by omega,HBd.out⟩
    case measure=>(rw [hwi];clear hwi;simp [intOf];omega)
  ·have hiz:¬ (i:Int)<(np:Int):=by omega
   obtain rfl:i=np:=by omega
   have hkk:¬ (i:Int)<(i:Int):=by omega
   go_wp2_with fail
   go_loopw [6] (fun vi wx=>vi=.int .i64 0/\wr=wx) (fun _ _=>0)
   case atStart=>exact⟨rfl,rfl⟩
   case round =>
    obtain⟨rfl,rfl⟩:=hrel
    go_wp2_with fail
    clear c0 c1 c2 c3 c4 d0 d1 d2 d3 d4
    go_loopw [7] (fun vi wr=>∃ k:Nat,vi=.int .i64 k/\k≤nm/\Hid (Bl w1 wr)) (fun vi _=>nm - (intOf vi).toNat)
    case atStart=>exact⟨0,rfl,Nat.zero_le _,HB.out⟩
    case round =>
     obtain⟨k,rfl,hk,HB3⟩:=hrel;obtain⟨⟨c0,c1,c2,c3,c4⟩,-⟩:=cells5 (below_blk HB3.out H1.out.2.1);obtain⟨⟨d0,d1,d2,d3,d4⟩,-⟩:=cells5 (below_blk HB3.out H1.out.2.2)
     by_cases hin:k<nm
     ·have hiz:(k:Int)<(nm:Int):=by omega
      have hi0:(0:Int)≤(k:Int):=by omega
      obtain⟨g,o,g',o',x,e1,e2,a1,a2⟩:=HM.out wr (H1.out.1.trans (HB3.out.mono H1.out.1.size)) k hin;subst e1 e2;have hwi:wrap64 ((k:Int)+1)=(k:Int)+1:=by have:=HN.out;unfold wrap64;omega
      have b0:wr.drew.cell? _=_:=c4;have b1:wr.drew.cell? _=_:=d4;have b2:wr.drew.cell? _=_:=a1;have b3:wr.drew.cell? _=_:=a2;have HBd:Hid (Bl w1 wr.drew):=HB3.out.trans (below_drew.mono HB3.out.size)
      go_upto_region 16 with fail
      go_region
      all_goals
       go_wp2_with fail
       go_roundw
       case rel=>exact⟨k+1,by go_num,by omega,HBd.out⟩
       case measure=>(rw [hwi];clear hwi;simp [intOf];omega)
     ·have hiz:¬ (k:Int)<(nm:Int):=by omega
      obtain rfl:k=nm:=by omega
      have hkk:¬ (k:Int)<(k:Int):=by omega
      go_wp2_with fail
      clear c0 c1 c2 c3 c4 d0 d1 d2 d3 d4
      go_loopw [8] (fun vi wr=>∃ m:Nat,vi=.int .i64 m/\m≤nt/\Hid (Bl w1 wr)) (fun vi _=>nt - (intOf vi).toNat)
      case atStart=>exact⟨0,rfl,Nat.zero_le _,HB3.out⟩
      case round =>
       obtain⟨m,rfl,hm,HB4⟩:=hrel;obtain⟨⟨c0,c1,c2,c3,c4⟩,-⟩:=cells5 (below_blk HB4.out H1.out.2.1);obtain⟨⟨d0,d1,d2,d3,d4⟩,-⟩:=cells5 (below_blk HB4.out H1.out.2.2)
       by_cases hmn:m<nt
       ·have hmz:(m:Int)<(nt:Int):=by omega
        have hm0:(0:Int)≤(m:Int):=by omega
        obtain⟨g,g',x,vl,vals,e1,e2,h1,h2,hsw⟩:=HT.out wr (H1.out.1.trans (HB4.out.mono H1.out.1.size)) m hmn;subst e1 e2;have HX1:=(show Hid (∀ k v,(entc x)[k]? = some v->wr.cell? ⟨g,m * 17+k,none⟩=some v)from h1);have HX2:=(show Hid (∀ k v,(entc (x.1,{ x.2 with vl:=vl,vals:=vals }))[k]? = some v->wr.cell? ⟨g',m * 17+k,none⟩=some v)from h2)
        have HSW:=(show Hid (∀ w2,Bl wr w2->Calls Tryz.prog 110 #[.agg (thc x.2),.agg (thc { x.2 with vl:=vl,vals:=vals })] w2 fun e w''=>e=.returned (.bool true)/\Bl w2 w'')from fun w2 hb=>hsw w2 ((H1.out.1.trans (HB4.out.mono H1.out.1.size)).trans (hb.mono (H1.out.1.trans (HB4.out.mono H1.out.1.size)).size)))
        have Hlt:Hid (g<wr.heap.size/\g'<wr.heap.size):=⟨World.block_lt_of_cell? _ _ (h1 0 _ rfl),World.block_lt_of_cell? _ _ (h2 0 _ rfl)⟩;have HQ1:=(show Hid (wr.heap[w.heap.size]? = some (.cells #[.slice pP i cP,.slice none 0 0,.slice (some ⟨g,0,none⟩) nt cT,.int .i64 N1.last,.slice pM k cM] 67 (0,0)))from below_blk HB4.out H1.out.2.1);have HQ2:=(show Hid (wr.heap[w.heap.size+1]? = some (.cells #[.slice pP' i cP',.slice none 0 0,.slice (some ⟨g',0,none⟩) nt cT',.int .i64 N1.last,.slice pM' k cM'] 67 (0,0)))from below_blk HB4.out H1.out.2.2);have hwi:wrap64 ((m:Int)+1)=(m:Int)+1:=by have:=HN.out;unfold wrap64;omega
        clear h1 h2 hsw c0 c1 c2 c3 c4 d0 d1 d2 d3 d4;obtain⟨⟨c0,c1,c2,c3,c4⟩,-⟩:=cells5 HQ1.out
        go_upto_region 21 with fail
        obtain⟨B0,hB0⟩:∃ B0,B0=w.heap.size:=⟨_,rfl⟩;rw [<- hB0]at HQ1 HQ2 ⊢;clear c0 c1 c2 c3 c4;refine wp_region_growK 28 (by kernel_rfl) rfl (by kernel_rfl) (by kernel_rfl) (fun a b=>Bl a b) (SmP B0 g g' m nt cT cT' x vl vals) (fun w'=>Bl wr w') (fun j v w w' _ h=>h) below_drew (fun a b h hR=>h.trans (hR.mono h.size)) ?_ ?_ ?_
        ·intro j q g b hq hgd;have hj:j<28:=(List.getElem?_eq_some_iff.1 hq).1
         match j,hj with
         | 0,_=>cases hq;cases hgd
         | 1,_=>cases hq;cases hgd
         | 2,_=>cases hq;cases hgd
         | 3,_=>cases hq;cases hgd
         | 4,_=>cases hq;cases hgd
         | 5,_=>cases hq;cases hgd
         | 6,_=>cases hq;cases hgd
         | 7,_=>cases hq;cases hgd
         | 8,_=>cases hq;cases hgd
         | 9,_=>cases hq;cases hgd
         | 10,_=>cases hq;cases hgd
         | 11,_=>cases hq;cases hgd
         | 12,_=>cases hq;cases hgd
         | 13,_=>cases hq;cases hgd
         | 14,_=>cases hq;cases hgd;exact fun v w h=>h
         | 15,_=>cases hq;cases hgd;exact fun v w h=>h
         | 16,_=>cases hq;cases hgd;exact fun v w h=>h
         | 17,_=>cases hq;cases hgd;exact fun v w h=>h
         | 18,_=>cases hq;cases hgd;exact fun v w h=>h
         | 19,_=>cases hq;cases hgd;exact fun v w h=>h
         | 20,_=>cases hq;cases hgd;exact fun v w h=>h
         | 21,_=>cases hq;cases hgd;exact fun v w h=>h
         | 22,_=>cases hq;cases hgd;exact fun v w h=>h
         | 23,_=>cases hq;cases hgd;exact fun v w h=>h
         | 24,_=>cases hq;cases hgd;exact fun v w h=>h
         | 25,_=>cases hq;cases hgd;exact fun v w h=>h
         | 26,_=>cases hq;cases hgd;exact fun v w h=>h
         | 27,_=>cases hq;cases hgd;exact fun v w h=>h
        ·intro j q a w7 hq hC hG;have hj:j<28:=(List.getElem?_eq_some_iff.1 hq).1
         match j,hj with
         | 0,_=>cases hq;have h2':a.tmps[2]?.getD undef=.pointer (some ⟨B0,0,none⟩):=gq (hG.fr 2 (by simp));unfold Oper.wp;simp [go_sem,Act.eval,h2'];exact⟨_,rfl,Below.refl _ _,rfl⟩
         | 1,_ =>
           cases hq;have h111':a.tmps[111]?.getD undef=_:=gq (hG.dep ⟨0,.data⟩ (by simp) rfl _ rfl);have c3:w7.cell? ⟨B0,2,none⟩=some (.slice (some ⟨g,0,none⟩) nt cT):=by rw [cell_blk (below_blk hC HQ1.out)];rfl
           unfold Oper.wp;simp [go_sem,Act.eval,h111',c3];exact⟨_,rfl,Below.refl _ _,rfl⟩
         | 2,_=>cases hq;have h8':a.tmps[8]?.getD undef=.int .i64 m:=gq (hG.fr 8 (by simp));unfold Oper.wp;simp [go_sem,Act.eval,h8'];exact⟨_,rfl,Below.refl _ _,rfl⟩
         | 3,_=>cases hq;have h112':a.tmps[112]?.getD undef=_:=gq (hG.dep ⟨1,.data⟩ (by simp) rfl _ rfl);have h113':a.tmps[113]?.getD undef=_:=gq (hG.dep ⟨2,.data⟩ (by simp) rfl _ rfl);unfold Oper.wp;simp [go_sem,Act.eval,h112',h113',hmz,hm0];exact⟨_,rfl,Below.refl _ _,rfl⟩
         | 4,_=>cases hq;have h114':a.tmps[114]?.getD undef=_:=gq (hG.dep ⟨3,.data⟩ (by simp) rfl _ rfl);unfold Oper.wp;simp [go_sem,Act.eval,h114'];exact⟨_,rfl,Below.refl _ _,rfl⟩
         | 5,_ =>
           cases hq;have h115':a.tmps[115]?.getD undef=_:=gq (hG.dep ⟨4,.data⟩ (by simp) rfl _ rfl);have c3:w7.cell? ⟨g,m * 17,none⟩=some (.int .i64 x.1):=(World.cell?_of_block (a:=⟨g,m * 17,none⟩) (hC.block g Hlt.out.1)).trans (HX1.out 0 _ rfl);unfold Oper.wp;simp [go_sem,Act.eval,h115',c3];exact⟨_,rfl,Below.refl _ _,rfl⟩
         | 6,_=>cases hq;have h3':a.tmps[3]?.getD undef=.pointer (some ⟨B0+1,0,none⟩):=gq (hG.fr 3 (by simp));unfold Oper.wp;simp [go_sem,Act.eval,h3'];exact⟨_,rfl,Below.refl _ _,rfl⟩
         | 7,_ =>
           cases hq;have h117':a.tmps[117]?.getD undef=_:=gq (hG.dep ⟨6,.data⟩ (by simp) rfl _ rfl);have c3:w7.cell? ⟨B0+1,2,none⟩=some (.slice (some ⟨g',0,none⟩) nt cT'):=by rw [cell_blk (below_blk hC HQ2.out)];rfl
           unfold Oper.wp;simp [go_sem,Act.eval,h117',c3];exact⟨_,rfl,Below.refl _ _,rfl⟩
         | 8,_=>cases hq;have h8':a.tmps[8]?.getD undef=.int .i64 m:=gq (hG.fr 8 (by simp));unfold Oper.wp;simp [go_sem,Act.eval,h8'];exact⟨_,rfl,Below.refl _ _,rfl⟩
         | 9,_=>cases hq;have h118':a.tmps[118]?.getD undef=_:=gq (hG.dep ⟨7,.data⟩ (by simp) rfl _ rfl);have h119':a.tmps[119]?.getD undef=_:=gq (hG.dep ⟨8,.data⟩ (by simp) rfl _ rfl);unfold Oper.wp;simp [go_sem,Act.eval,h118',h119',hmz,hm0];exact⟨_,rfl,Below.refl _ _,rfl⟩
         | 10,_=>cases hq;have h120':a.tmps[120]?.getD undef=_:=gq (hG.dep ⟨9,.data⟩ (by simp) rfl _ rfl);unfold Oper.wp;simp [go_sem,Act.eval,h120'];exact⟨_,rfl,Below.refl _ _,rfl⟩
         | 11,_ =>
           cases hq;have h121':a.tmps[121]?.getD undef=_:=gq (hG.dep ⟨10,.data⟩ (by simp) rfl _ rfl);have c3:w7.cell? ⟨g',m * 17,none⟩=some (.int .i64 x.1):=(World.cell?_of_block (a:=⟨g',m * 17,none⟩) (hC.block g' Hlt.out.2)).trans (HX2.out 0 _ rfl);unfold Oper.wp;simp [go_sem,Act.eval,h121',c3];exact⟨_,rfl,Below.refl _ _,rfl⟩
         | 12,_ =>
           cases hq;have h116:a.tmps.getD 116 undef=.int .i64 x.1:=hG.dep ⟨5,.data⟩ (by simp) rfl _ rfl;have h122:a.tmps.getD 122 undef=.int .i64 x.1:=hG.dep ⟨11,.data⟩ (by simp) rfl _ rfl;have h116':a.tmps[116]?.getD undef=.int .i64 x.1:=gq h116;have h122':a.tmps[122]?.getD undef=.int .i64 x.1:=gq h122;unfold Oper.wp;simp [go_sem,Act.eval,h116',h122'];exact⟨_,rfl,Below.refl _ _,rfl⟩
         | 13,_=>cases hq;have h123':a.tmps[123]?.getD undef=_:=gq (hG.dep ⟨12,.data⟩ (by simp) rfl _ rfl);unfold Oper.wp;simp [go_sem,Act.eval,h123'];exact⟨_,rfl,Below.refl _ _,rfl⟩
         | 14,_=>cases hq;have h2':a.tmps[2]?.getD undef=.pointer (some ⟨B0,0,none⟩):=gq (hG.fr 2 (by simp));unfold Oper.wp;simp [go_sem,Act.eval,h2'];exact⟨_,rfl,Below.refl _ _,rfl⟩
         | 15,_ =>
           cases hq;have h125':a.tmps[125]?.getD undef=_:=gq (hG.dep ⟨14,.data⟩ (by simp) rfl _ rfl);have c3:w7.cell? ⟨B0,2,none⟩=some (.slice (some ⟨g,0,none⟩) nt cT):=by rw [cell_blk (below_blk hC HQ1.out)];rfl
           unfold Oper.wp;simp [go_sem,Act.eval,h125',c3];exact⟨_,rfl,Below.refl _ _,rfl⟩
         | 16,_=>cases hq;have h8':a.tmps[8]?.getD undef=.int .i64 m:=gq (hG.fr 8 (by simp));unfold Oper.wp;simp [go_sem,Act.eval,h8'];exact⟨_,rfl,Below.refl _ _,rfl⟩
         | 17,_=>cases hq;have h126':a.tmps[126]?.getD undef=_:=gq (hG.dep ⟨15,.data⟩ (by simp) rfl _ rfl);have h127':a.tmps[127]?.getD undef=_:=gq (hG.dep ⟨16,.data⟩ (by simp) rfl _ rfl);unfold Oper.wp;simp [go_sem,Act.eval,h126',h127',hmz,hm0];exact⟨_,rfl,Below.refl _ _,rfl⟩
         | 18,_=>cases hq;have h128':a.tmps[128]?.getD undef=_:=gq (hG.dep ⟨17,.data⟩ (by simp) rfl _ rfl);unfold Oper.wp;simp [go_sem,Act.eval,h128'];exact⟨_,rfl,Below.refl _ _,rfl⟩
         | 19,_ =>
           cases hq;have h129:a.tmps.getD 129 undef=.pointer (some ⟨g,m * 17+1,none⟩):=hG.dep ⟨18,.data⟩ (by simp) rfl _ rfl;refine step_g (.agg (thc x.2)) ?_ (Below.refl _ _) rfl;rw [execOp_ldSmP130];show (ldW (a.tmps.getD 129 undef)).run _ _=_;rw [h129];exact loadWhat_mid fun k v hv=>by have:=(World.cell?_of_block (a:=⟨g,m * 17+(k+1),none⟩) (hC.block g Hlt.out.1)).trans (HX1.out (k+1) v (by rw [<- hv];show (_ :: (thc x.2).toList)[k+1]? = _;simp));rw [show m * 17+1+k=m * 17+(k+1) by omega];exact this
         | 20,_=>cases hq;have h3':a.tmps[3]?.getD undef=.pointer (some ⟨B0+1,0,none⟩):=gq (hG.fr 3 (by simp));unfold Oper.wp;simp [go_sem,Act.eval,h3'];exact⟨_,rfl,Below.refl _ _,rfl⟩
         | 21,_ =>
           cases hq;have h131':a.tmps[131]?.getD undef=_:=gq (hG.dep ⟨20,.data⟩ (by simp) rfl _ rfl);have c3:w7.cell? ⟨B0+1,2,none⟩=some (.slice (some ⟨g',0,none⟩) nt cT'):=by rw [cell_blk (below_blk hC HQ2.out)];rfl
           unfold Oper.wp;simp [go_sem,Act.eval,h131',c3];exact⟨_,rfl,Below.refl _ _,rfl⟩
         | 22,_=>cases hq;have h8':a.tmps[8]?.getD undef=.int .i64 m:=gq (hG.fr 8 (by simp));unfold Oper.wp;simp [go_sem,Act.eval,h8'];exact⟨_,rfl,Below.refl _ _,rfl⟩
         | 23,_=>cases hq;have h132':a.tmps[132]?.getD undef=_:=gq (hG.dep ⟨21,.data⟩ (by simp) rfl _ rfl);have h133':a.tmps[133]?.getD undef=_:=gq (hG.dep ⟨22,.data⟩ (by simp) rfl _ rfl);unfold Oper.wp;simp [go_sem,Act.eval,h132',h133',hmz,hm0];exact⟨_,rfl,Below.refl _ _,rfl⟩
         | 24,_=>cases hq;have h134':a.tmps[134]?.getD undef=_:=gq (hG.dep ⟨23,.data⟩ (by simp) rfl _ rfl);unfold Oper.wp;simp [go_sem,Act.eval,h134'];exact⟨_,rfl,Below.refl _ _,rfl⟩
         | 25,_ =>
           cases hq;have h135:a.tmps.getD 135 undef=.pointer (some ⟨g',m * 17+1,none⟩):=hG.dep ⟨24,.data⟩ (by simp) rfl _ rfl;refine step_g (.agg (thc { x.2 with vl:=vl,vals:=vals })) ?_ (Below.refl _ _) rfl
           rw [execOp_ldSmP136];show (ldW (a.tmps.getD 135 undef)).run _ _=_;rw [h135];exact loadWhat_mid fun k v hv=>by have:=(World.cell?_of_block (a:=⟨g',m * 17+(k+1),none⟩) (hC.block g' Hlt.out.2)).trans (HX2.out (k+1) v (by rw [<- hv];show (_ :: (thc { x.2 with vl:=vl,vals:=vals }).toList)[k+1]? = _;simp));rw [show m * 17+1+k=m * 17+(k+1) by omega];exact this
         | 26,_ =>
           cases hq;have h130':a.tmps[130]?.getD undef=_:=gq (hG.dep ⟨19,.data⟩ (by simp) rfl _ rfl);have h136:a.tmps.getD 136 undef=.agg (thc { x.2 with vl:=vl,vals:=vals }):=hG.dep ⟨25,.data⟩ (by simp) rfl _ rfl
           have h136':a.tmps[136]?.getD undef=.agg (thc { x.2 with vl:=vl,vals:=vals }):=gq h136
           unfold Oper.wp;simp [go_sem,callFunc,Act.eval,Tryz.func110,h130',h136'];refine Calls.mono (HSW.out _ hC) ?_;rintro e w8 ⟨rfl,hb8⟩;exact⟨_,rfl,hb8,rfl⟩
         | 27,_=>cases hq;have h137':a.tmps[137]?.getD undef=_:=gq (hG.dep ⟨26,.data⟩ (by simp) rfl _ rfl);unfold Oper.wp;simp [go_sem,Act.eval,h137'];exact⟨_,rfl,Below.refl _ _,rfl⟩
        intro a w7 hC hdf hsz hfr hphi;have e0:a.tmps.getD 111 undef=.pointer (some ⟨B0,2,none⟩):=hphi 0 _ rfl;have e1:a.tmps.getD 112 undef=.slice (some ⟨g,0,none⟩) nt cT:=hphi 1 _ rfl;have e2:a.tmps.getD 113 undef=.int .i64 m:=hphi 2 _ rfl;have e3:a.tmps.getD 114 undef=.pointer (some ⟨g,m * 17,none⟩):=hphi 3 _ rfl;have e4:a.tmps.getD 115 undef=.pointer (some ⟨g,m * 17,none⟩):=hphi 4 _ rfl;have p5:((a.tmps.getD 116 undef)=.int .i64 x.1):=hphi 5 _ rfl;obtain⟨u5,e5⟩:∃ u,a.tmps.getD 116 undef=u:=⟨_,rfl⟩;rw [e5]at p5;have e6:a.tmps.getD 117 undef=.pointer (some ⟨B0+1,2,none⟩):=hphi 6 _ rfl;have e7:a.tmps.getD 118 undef=.slice (some ⟨g',0,none⟩) nt cT':=hphi 7 _ rfl;have e8:a.tmps.getD 119 undef=.int .i64 m:=hphi 8 _ rfl;have e9:a.tmps.getD 120 undef=.pointer (some ⟨g',m * 17,none⟩):=hphi 9 _ rfl;have e10:a.tmps.getD 121 undef=.pointer (some ⟨g',m * 17,none⟩):=hphi 10 _ rfl;have p11:((a.tmps.getD 122 undef)=.int .i64 x.1):=hphi 11 _ rfl;obtain⟨u11,e11⟩:∃ u,a.tmps.getD 122 undef=u:=⟨_,rfl⟩;rw [e11]at p11;have p12:((a.tmps.getD 123 undef)=.bool false):=hphi 12 _ rfl;obtain⟨u12,e12⟩:∃ u,a.tmps.getD 123 undef=u:=⟨_,rfl⟩;rw [e12]at p12;have p13:((a.tmps.getD 124 undef)=.bool false):=hphi 13 _ rfl;obtain⟨u13,e13⟩:∃ u,a.tmps.getD 124 undef=u:=⟨_,rfl⟩;rw [e13]at p13;have e14:a.tmps.getD 125 undef=.pointer (some ⟨B0,2,none⟩):=hphi 14 _ rfl;have e15:a.tmps.getD 126 undef=.slice (some ⟨g,0,none⟩) nt cT:=hphi 15 _ rfl;have e16:a.tmps.getD 127 undef=.int .i64 m:=hphi 16 _ rfl;have e17:a.tmps.getD 128 undef=.pointer (some ⟨g,m * 17,none⟩):=hphi 17 _ rfl;have e18:a.tmps.getD 129 undef=.pointer (some ⟨g,m * 17+1,none⟩):=hphi 18 _ rfl;have e19:a.tmps.getD 130 undef=.agg (thc x.2):=hphi 19 _ rfl;have e20:a.tmps.getD 131 undef=.pointer (some ⟨B0+1,2,none⟩):=hphi 20 _ rfl;have e21:a.tmps.getD 132 undef=.slice (some ⟨g',0,none⟩) nt cT':=hphi 21 _ rfl;have e22:a.tmps.getD 133 undef=.int .i64 m:=hphi 22 _ rfl;have e23:a.tmps.getD 134 undef=.pointer (some ⟨g',m * 17,none⟩):=hphi 23 _ rfl;have e24:a.tmps.getD 135 undef=.pointer (some ⟨g',m * 17+1,none⟩):=hphi 24 _ rfl;have e25:a.tmps.getD 136 undef=.agg (thc { x.2 with vl:=vl,vals:=vals }):=hphi 25 _ rfl
        have e26:a.tmps.getD 137 undef=.bool true:=hphi 26 _ rfl;have e27:a.tmps.getD 138 undef=.bool false:=hphi 27 _ rfl;have ha:=act_of hdf hsz hfr;simp only [List.take_succ_cons,List.take_zero,List.filterMap_cons,List.filterMap_nil,List.foldl_cons,List.foldl_nil,List.setIfInBounds_toArray,List.set_cons_zero,List.set_cons_succ,e0,e1,e2,e3,e4,e5,e6,e7,e8,e9,e10,e11,e12,e13,e14,e15,e16,e17,e18,e19,e20,e21,e22,e23,e24,e25,e26,e27]at ha;clear hdf hsz hfr hphi e0 e1 e2 e3 e4 e5 e6 e7 e8 e9 e10 e11 e12 e13 e14 e15 e16 e17 e18 e19 e20 e21 e22 e23 e24 e25 e26 e27;subst ha;have HB5:Hid (Bl w1 w7):=HB4.out.trans (hC.mono HB4.out.size);have e138:u13=.bool false:=p13;subst e138;subst hB0;clear hC HQ1 HQ2 HSW HX1 HX2 Hlt;refine⟨rfl,?_⟩;unfold Oper.wp;simp [execOp,go_sem,Act.eval,wpTailG];refine ‹∀ (a:Act) (w:World),Code.wp Tryz.prog _ _ a w->_› _ _ ?_
        go_wp2_with fail
        go_roundw
        case rel=>exact⟨m+1,by go_num,by omega,HB5.out⟩
        case measure=>(rw [hwi];clear hwi;simp [intOf];omega)
       ·have hmz:¬ (m:Int)<(nt:Int):=by omega
        obtain rfl:m=nt:=by omega
        have hkk4:¬ (m:Int)<(m:Int):=by omega
        have HF:Hid (Bl w wr):=H1.out.1.trans (HB4.out.mono H1.out.1.size)
        go_wp2_with fail
        go_ret
        exact⟨rfl,HF.out⟩
end
end Go.Proofs.YthaliljaglldjaaGreat
