/- Part of the proof. -/
import Derived.Test.YthaliljaglldjaaGreatmBS
import Derived.Test.YthaliljaglldjaaGreatmBT
namespace Go.Proofs.YthaliljaglldjaaGreat
set_option maxHeartbeats 16000000
set_option maxRecDepth 20000
open Go.RowKit Go.ChangeMaps Go.MapKept
section
theorem sh:(Tryz.prog.info? 35).map (fun i=>(i.zero,i.size,i.bytes))=some (some (.int .i64 0),1,8):=by kernel_rfl
theorem ir (w:World) (n:Nat) (hn:n≤1024):∃ w',(Instr.makeSlice 39 (J (n:Int)) (J (n:Int))).run Tryz.prog w=.ok (.slice (some ⟨w.heap.size,0,none⟩) n n) w'/\Bl w w'/\fT w' (some ⟨w.heap.size,0,none⟩) (List.replicate n 0):=by
 obtain⟨iv,hi,hz,h1,h2⟩:=info_parts sh;obtain⟨w',hr,hrow,hgr⟩:=run_make_full (P:=Tryz.prog) w w.heap.size 39 35 iv (J 0) 1 Tryz.underlying39 hi hz h1 .i64 .i64 n (by rw [h2];omega) (by unfold maxLen;omega) aH;refine⟨w',hr,⟨hgr.os,hgr.tape,hgr.output,hgr.size,fun k hk=>hgr.block k hk (by simp)⟩,?_⟩;obtain⟨-,⟨h,-⟩ | ⟨g,cap,cur,hv,hbase,hb,h3,h4,h5,h6⟩⟩:=hrow
 ·cases h
 cases hv
 refine .inr ⟨w.heap.size,0,rfl,fun j x hx=>?_⟩
 have hj:j<n:=by
  have:=ji hx
  simpa using this
 have ex:x=0:=List.eq_of_mem_replicate (List.mem_of_getElem? hx);subst ex
 have h6':List.take (n * 1) cur.toList=List.replicate (n * 1) (Value.int .i64 0):=by
  rw [h6];exact toList_madeCells_one _ _
 rw [ag hb]
 have hl:cur.toList[0+j]? = (List.replicate (n * 1) (Value.int .i64 0))[0+j]?:=by
  rw [<- h6',List.getElem?_take];show _=if 0+j<n * 1 then _ else _
  rw [if_pos (by omega)]
 rw [Array.getElem?_toList]at hl;rw [hl,List.getElem?_replicate,if_pos (by omega)]
theorem zg (n:Nat) (hn:n≤3):dH (List.replicate n 0):=⟨by rw [List.length_replicate];omega,fun i p h=>by
 have ep:p=0:=List.eq_of_mem_replicate (List.mem_of_getElem? h)
 omega⟩
def PlI (w0:World) (p q:Nat) (c:Int) (wv:World):Prop:=∃ M N F G,Bp wv p q M N F G/\(∀ b,F b\/G b->w0.heap.size≤b)/\Bl w0 wv/\M.last≤c
theorem PlI.new {w0 w1 w2:World} {p q:Nat} {F G:Nat->Prop} {xs:List Int} (hW:IsW w1 p (WM.new xs) F) (hF:∀ b,F b->w0.heap.size≤b) (hb1:Bl w0 w1) (hR:IsR w2 q (WM.new xs) G) (hG:∀ b,G b->w1.heap.size≤b) (hb2:Bl w1 w2):PlI w0 p q 0 w2 :=
 ⟨_,_,F,G,⟨{
  W:=hW.below hb2
  R:=hR
  ap:=fun b h1 h2=>by have:=hW.lt b h1;have:=hG b h2;omega
  al:=⟨rfl,rfl,rfl,LikeT.nil⟩
  one:=fun x hx=>by cases hx
  may:=fun r t h=>by cases h
  wfs:=fun x hx=>by cases hx
  cutM:=fun x hx=>List.eq_of_mem_replicate hx
  cutN:=fun x hx=>List.eq_of_mem_replicate (List.mem_of_mem_drop hx)
  cutL:=by show ((List.replicate (xs.length+1) false).drop 1).length=xs.length;rw [List.length_drop,List.length_replicate];omega
  kp:=fun r t h=>by cases h },fun r t h=>(by cases h),fun r t h=>(by cases h)⟩,fun b h=>h.elim (hF b) fun h=>Nat.le_trans hb1.size (hG b h),hb1.trans (hb2.mono hb1.size),Int.le_refl _⟩
theorem PlI.below {w0 wv w':World} {p q:Nat} {c:Int} (h:PlI w0 p q c wv) (hb:Bl wv w'):PlI w0 p q c w':=by
 obtain⟨M,N,F,G,h1,h2,h3,h4⟩:=h;exact⟨M,N,F,G,h1.below hb,h2,h3.trans (hb.mono h3.size),h4⟩
theorem PlI.base {w0 wv:World} {p q:Nat} {c:Int} (h:PlI w0 p q c wv):Bl w0 wv:=by
 obtain⟨M,N,F,G,h1,h2,h3,h4⟩:=h;exact h3
theorem PlI.le {w0 wv:World} {p q:Nat} {c d:Int} (h:PlI w0 p q c wv) (hd:c≤d):PlI w0 p q d wv:=by
 obtain⟨M,N,F,G,h1,h2,h3,h4⟩:=h;exact⟨M,N,F,G,h1,h2,h3,by omega⟩
theorem StepQ.plI {w0 wv w':World} {p q:Nat} {c:Int} {M:WM} {F G:Nat->Prop} (h:StepQ wv p q M F G w') (h2:∀ b,F b\/G b->w0.heap.size≤b) (h3:Bl w0 wv) (h4:M.last≤c):PlI w0 p q (c+2) w':=by
 obtain⟨M',N',F',G',g1,g2,g3,g4,-,-⟩:=h;exact⟨M',N',F',G',g1,fun b hb=>(g3 b hb).elim (h2 b) fun h=>Nat.le_trans h3.size h,h3.trans (g2.below h3.size h2),by omega⟩
section
variable {w0 wv:World} {p q:Nat} {c:Int} {F1:Nat->Prop}
theorem PlI.made (hI:PlI w0 p q c wv) (hc:c+2≤100000) (d k h on ab:Int) (v:Val) (raw:Value) (hS:SlAt wv F1 raw v.l) (hF:∀ b,F1 b->b<w0.heap.size) (hwf:v.wf) (hroom:cp v=true) :
 Calls Tryz.prog 16 #[P_ p,P_ q,.agg (aU d k h on ab v raw)] wv fun e w'=>e=.returned (.bool true)/\PlI w0 p q (c+2) w':=by
 obtain⟨M,N,F,G,hB,h2,h3,h4⟩:=hI;exact(tz hB (by omega) d k h on ab v raw hS (fun b hb=>⟨fun h=>by have:=h2 b (.inl h);have:=hF b hb;omega,fun h=>by have:=h2 b (.inr h);have:=hF b hb;omega⟩) (fun b hb=>Nat.lt_of_lt_of_le (hF b hb) h3.size) hwf hroom).mono fun e w' ⟨he,hs⟩=>⟨he,hs.plI h2 h3 h4⟩
theorem PlI.acted (hI:PlI w0 p q c wv) (hc:c+2≤100000) (d k h on ab:Int) (hon:(Lit.int .i64 on).wf=true) (hab:(Lit.int .u8 ab).wf=true) (v:Val) (raw:Value) (hS:SlAt wv F1 raw v.l) (hF:∀ b,F1 b->b<w0.heap.size) (hwf:v.wf) (hroom:cp v=true) :
 Calls Tryz.prog 18 #[P_ p,P_ q,.agg (aU d k h on ab v raw)] wv fun e w'=>e=.returned (.bool true)/\PlI w0 p q (c+2) w':=by
 obtain⟨M,N,F,G,hB,h2,h3,h4⟩:=hI;refine(ur hB (by omega) d k h on ab hon hab v raw hS (fun b hb=>⟨fun h=>by have:=h2 b (.inl h);have:=hF b hb;omega,fun h=>by have:=h2 b (.inr h);have:=hF b hb;omega⟩) (fun b hb=>Nat.lt_of_lt_of_le (hF b hb) h3.size) hwf hroom).mono fun e w' ha=>?_;obtain⟨he,hs⟩:=StepQ.acted ha;exact⟨he,hs.plI h2 h3 h4⟩
theorem PlI.mint (hI:PlI w0 p q c wv) (hc:c+2≤100000) :
 Calls Tryz.prog 14 #[P_ p,.agg (wr 8 0 0 0 0 0 0 0 0 false)] wv fun e w5=>∃ r n,e=.returned (.tuple #[J r,J n]) /\
  Calls Tryz.prog 15 #[P_ q,.agg (wr 8 0 0 0 0 0 0 0 0 false)] w5 fun e w6=>e=.returned (.tuple #[J r,J n])/\PlI w0 p q (c+2) w6:=by
 obtain⟨M,N,F,G,hB,h2,h3,h4⟩:=hI;refine(AJ hB (by omega)).mono ?_;rintro e w5 ⟨r,n,he,hc⟩;exact⟨r,n,he,hc.mono fun e w6 ⟨he,hs⟩=>⟨he,hs.plI h2 h3 h4⟩⟩
theorem PlI.len (hI:PlI w0 p q c wv) (hc:c+2≤100000) {on:Int} (hon:(Lit.int .i64 on).wf=true) :
 Calls Tryz.prog 19 #[P_ p,J on] wv fun e w5=>∃ r n,e=.returned (.tuple #[J r,J n])/\PlI w0 p q c w5/\Bl wv w5 /\
  ∀ w',Bl w5 w'->Calls Tryz.prog 20 #[P_ q,J on] w' fun e w6=>e=.returned (.tuple #[J r,J n])/\PlI w0 p q c w6:=by
 obtain⟨M,N,F,G,hB,h2,h3,h4⟩:=hI;refine(rG hB.both.W hB.pl hon).mono ?_;rintro e w5 ⟨he,hb⟩
 have hle:gx N on=gx M on:=by
  obtain⟨h1,h2⟩:=bO hB.both.al.things on;unfold gx
  cases hm:M.at on with
  | none =>
    have:N.at on=none:=h1 hm;rw [this]
  | some t =>
    obtain⟨t',ht,vl,vals,rfl⟩:=h2 t hm;have:N.at on=_:=ht;rw [this];rfl
 refine⟨_,_,he,⟨M,N,F,G,hB.below hb,h2,h3.trans (hb.mono h3.size),h4⟩,hb,fun w' hb'=>?_⟩;have hbb:=hb.trans (hb'.mono hb.size);have hR:=hB.both.R.below hbb;refine(wh hR (hB.both.good (by omega)).ok on fun t ht=>?_).mono ?_
 ·exact(hR.dp ht).vs.form
 ·rintro e w6 ⟨he,hb6⟩;have hb3:=hbb.trans (hb6.mono hbb.size);rw [hle]at he;exact⟨he,M,N,F,G,hB.below hb3,h2,h3.trans (hb3.mono h3.size),h4⟩
theorem PlI.same (hI:PlI w0 p q c wv) (hc:c≤100000):Calls Tryz.prog 17 #[P_ p,P_ q] wv fun e w'=>e=.returned (.bool true)/\Bl w0 w':=by
 obtain⟨M,N,F,G,hB,h2,h3,h4⟩:=hI;exact(uK hB.both (by omega)).mono fun e w' ⟨he,hb⟩=>⟨he,h3.trans (hb.mono h3.size)⟩
end
def uo (a:Value):Sem Next:=do pure (.value (← Instr.loadAt 49 a))
def xJ (a x:Value):Sem Next:=do Instr.storeAt 49 a x;pure .skip
theorem oL:(Tryz.prog.info? 49).map (·.size)=some 10:=by kernel_rfl
theorem oD (ρ:Operand->Value) (d:Option Tmp) (a:Operand) (ty:TypeId) (pos:String) (af:Array Edge) (g:Option (Nat × Bool)) :
 execOp ρ { dst:=d,op:=.load 49 a,type:=ty,pos:=pos,after:=af,guard:=g } = uo (ρ a):=rfl
theorem At (ρ:Operand->Value) (d:Option Tmp) (a x:Operand) (ty:TypeId) (pos:String) (af:Array Edge) (g:Option (Nat × Bool)) :
 execOp ρ { dst:=d,op:=.store 49 a x,type:=ty,pos:=pos,after:=af,guard:=g } = xJ (ρ a) (ρ x):=rfl
theorem ui {w:World} {b o:Nat} {t:St8} (h:w.rangeAt b o (qY t)):(uo (R_ b o)).run Tryz.prog w=.ok (.value (.agg (aU t.d t.k t.h t.on t.ab t.v t.raw))) w:=by
 have:=run_loadAt_mid w b o 49 (qY t) _ h Tryz.underlying49 rfl oL;simp only [uo,Sem.run_bind,this,Result.andThen,Sem.run_pure,Array.toArray_toList]
theorem ue {w:World} {b:Nat} {d k h on ab:Int} {v:Val} {raw:Value} (hg:w.heap[b]? = some (.cells (aU d k h on ab v raw) 49 (0,0))):(uo (P_ b)).run Tryz.prog w=.ok (.value (.agg (aU d k h on ab v raw))) w:=by
 have:=cA (P:=Tryz.prog) hg Tryz.underlying49 rfl (by simpa [aU]using oL);simp only [uo,Sem.run_bind,this,Result.andThen,Sem.run_pure]
theorem tl {w:World} {b:Nat} {c c':Array Value} (hg:w.heap[b]? = some (.cells c 49 (0,0))) (hs:c.size=10) (hs':c'.size=10) (h1:c'.all (·.oneCell')=true) :
 (xJ (P_ b) (.agg c')).run Tryz.prog w=.ok .skip (w.setRow b c'):=by
 have:=bI (P:=Tryz.prog) hg (by rw [hs'];exact oL) (by rw [hs,hs']) h1;simp only [xJ,Sem.run_bind,this,Result.andThen,Sem.run_pure]
attribute [local go_sem ↓] jf aW oD At in
theorem plays8_W (W:World) (sides:Int) (sa:Option Addr) (n c:Nat) (ts:List St8) (hA:StA8 W sa ts) (hok:∀ t ∈ ts,t.ok W) (hn:n=ts.length) :
 Calls Tryz.prog 4 #[J sides,.slice sa n c] W fun e W'=>e=.returned (.bool true)/\Bl W W':=by
 have HA:Hid (StA8 W sa ts/\(∀ t ∈ ts,t.ok W)/\n=ts.length):=⟨hA,hok,hn⟩;clear hA hok hn
 go_enter Tryz.func4,Tryz.ntmps4
 go_upto_region 2 with fail
 obtain⟨NN,hNN⟩:∃ NN,NN=max 1 (min sides 4):=⟨_,rfl⟩;obtain⟨m,hnn,hm3⟩:∃ m:Nat,NN=(m:Int)+1/\m≤3:=⟨(NN - 1).toNat,by omega,by omega⟩;rw [<- hNN,hnn];clear hNN hnn;have hwm:wrap64 ((m:Int)+1 - 1)=(m:Int):=by unfold wrap64;omega
 by_cases hn1:(n:Int) > 80
 ·go_wp2_with fail
  refine(gF W).mono ?_;rintro e w2 ⟨rfl,hb2⟩;have H2:Hid (Bl W w2):=hb2;clear hb2
  go_wp2_with fail
  go_ret
  exact⟨rfl,H2.out⟩
 obtain⟨wa,hma,hba,hsa⟩:=ir W m (by omega);have HT:Hid (dH (List.replicate m 0)):=zg m hm3
 have HNw:=(show Hid (Calls Tryz.prog 12 #[.slice (some ⟨W.heap.size,0,none⟩) m m] wa (lU wa (List.replicate m 0)))from by
  have:=wV wa (some ⟨W.heap.size,0,none⟩) m (List.replicate m 0) hsa
  rwa [List.length_replicate]at this)
 have HBa:Hid (Bl W wa):=hba;clear hba hsa
 go_wp2_with fail
 refine Calls.mono HNw.out ?_;rintro e w5 hpost;obtain⟨p,F,rfl,hW,hF,hb⟩:=(Or.resolve_right hpost (fun h=>h.1 HT.out)).2;clear hpost hma HNw;have H5:Hid (IsW w5 p (WM.new (List.replicate m 0)) F/\(∀ b,F b->W.heap.size≤b)/\Bl W w5):=⟨hW,fun b h=>Nat.le_trans HBa.out.size (hF b h),HBa.out.trans (hb.mono HBa.out.size)⟩;clear hW hF hb HBa;obtain⟨wb,hmb,hbb,hsb⟩:=ir w5 m (by omega);have HNr:Hid _:=yo wb (some ⟨w5.heap.size,0,none⟩) m (List.replicate m 0) hsb HT.out;rw [List.length_replicate]at HNr;have HBb:Hid (Bl w5 wb):=hbb;clear hbb hsb
 go_wp2_with fail
 refine Calls.mono HNr.out ?_;rintro e w6 ⟨q,G,rfl,hR,hG,hb⟩;have HI:Hid (PlI W p q (2 * ((0:Nat):Int)) w6):=(PlI.new H5.out.1 H5.out.2.1 H5.out.2.2 hR (fun b hb=>Nat.le_trans HBb.out.size (hG b hb)) (HBb.out.trans (hb.mono HBb.out.size)));clear hR hG hb H5 HBb HNr hmb hwm
 go_wp2_with fail
 go_loopw [9] (fun vi wr=>∃ i:Nat,vi=J i/\i≤n/\Hid (PlI W p q (2 * (i:Int)) wr)) (fun vi _=>n - (intOf vi).toNat)
 case atStart=>exact⟨0,rfl,Nat.zero_le _,HI.out⟩
 case round =>
  clear HI;obtain⟨i,rfl,hi,HI⟩:=hrel
  by_cases hin:i<n
  ·have hiz:(i:Int)<(n:Int):=by omega
   have hi0:(0:Int)≤(i:Int):=by omega
   obtain⟨t,ht⟩:∃ t,ts[i]? = some t:=⟨_,List.getElem?_eq_getElem (by have:=HA.out.2.2;omega)⟩;obtain⟨b,o,rfl,hr⟩:=HA.out.1.at ht;have hld:=ui (hr wr HI.out.base);have hok:=HA.out.2.1 t (List.mem_of_getElem? ht);have hwi:wrap64 ((i:Int)+1)=(i:Int)+1:=by unfold wrap64;omega
   obtain⟨d,k,h,on,ab,v,raw⟩:=t;obtain⟨pa,cv,hraw⟩:=hok.1.form;simp only at hraw hld;subst hraw;have HOk:Hid (SlAt W (fun b=>b<W.heap.size) (.slice pa v.l.length cv) v.l/\v.wf/\(Lit.int .i64 on).wf=true/\(Lit.int .u8 ab).wf=true):=hok;clear ht hr hok;have hst:=tl (c':=aU d k h on ab v (.slice pa v.l.length cv)) (ai wr (.cells #[J 0,U 0,J 0,J 0,U 0,U 0,J 0,T_,S_,J 0] 49)) rfl rfl (by simp [go_sem,aU])
   have H2:Hid (∀ w2,w2=(wr.alloc (.cells #[J 0,U 0,J 0,J 0,U 0,U 0,J 0,T_,S_,J 0] 49)).setRow wr.heap.size (aU d k h on ab v (.slice pa v.l.length cv))->Bl wr w2/\w2.heap[wr.heap.size]? = some (.cells (aU d k h on ab v (.slice pa v.l.length cv)) 49 (0,0))):=fun w2 e=>by
    subst e;exact⟨Below.setRow ((Below.refl _ wr).alloc aH _) aH _,ah (ai _ _)⟩
   simp only [aU]at hld hst H2
   go_upto_region 12 with fail
   clear hld hst;revert H2;generalize hw2:World.setRow _ _ _=w2;intro H2
   replace H2:=(show Hid (Bl wr w2/\w2.heap[wr.heap.size]? = some (.cells (aU d k h on ab v (.slice pa v.l.length cv)) 49 (0,0)))from H2.out w2 rfl)
   clear hw2;have HI2:Hid (PlI W p q (2 * (i:Int)) w2/\w2.heap[wr.heap.size]? = some (.cells (aU d k h on ab v (.slice pa v.l.length cv)) 49 (0,0))):=⟨HI.out.below H2.out.1,H2.out.2⟩;clear HI H2;generalize wr.heap.size=n10 at *;have hl60:=bH HI2.out.2;simp only [au]at hl60
   go_wp2_with fail
   refine(gE v (.slice pa v.l.length cv) (HOk.out.1.on HI2.out.1.base)).mono ?_;rintro e w3 ⟨raw',rfl,⟨pr,nr,cr,rfl⟩,hb3,-⟩;have H3:Hid (PlI W p q (2 * (i:Int)) w3/\w3.heap[n10]? = some (.cells (aU d k h on ab v (.slice pa v.l.length cv)) 49 (0,0))):=⟨HI2.out.1.below hb3,ae hb3 HI2.out.2⟩;clear hb3 HI2 hl60
   have H4:Hid (∀ w4,w4=(w3.alloc (.cells zV 27)).setRow w3.heap.size (au v (.slice pr nr cr))->PlI W p q (2 * (i:Int)) w4/\w4.heap[n10]? = some (.cells (aU d k h on ab v (.slice pa v.l.length cv)) 49 (0,0))):=fun w4 e=>by
    subst e;have hb:Bl w3 ((w3.alloc (.cells zV 27)).setRow w3.heap.size (au v (.slice pr nr cr))):=Below.setRow ((Below.refl _ w3).alloc aH _) aH _;exact⟨H3.out.1.below hb,ae hb H3.out.2⟩
   have hst11:=az (c':=au v (.slice pr nr cr)) (ai w3 (.cells zV 27)) rfl rfl (by simp [go_sem,au]);obtain⟨RB,hRB⟩:∃ RB,RB=cp v:=⟨_,rfl⟩;have HRB:Hid (RB=cp v):=hRB;rw [<- hRB];clear hRB;simp only [au,zV]at hst11 H4 ⊢
   go_upto_region 13 with fail
   clear hst11;revert H4;generalize hw4:World.setRow _ _ _=w4;intro H4
   replace H4:=(show Hid (PlI W p q (2 * (i:Int)) w4/\w4.heap[n10]? = some (.cells (aU d k h on ab v (.slice pa v.l.length cv)) 49 (0,0)))from H4.out w4 rfl)
   clear H3 hw4
   cases RB with
   | false =>
     go_wp2_with fail
     refine(gF w4).mono ?_;rintro e w5 ⟨rfl,hb5⟩;have HF:Hid (Bl W w5):=H4.out.1.base.trans (hb5.mono H4.out.1.base.size);clear hb5 H4
     go_wp2_with fail
     go_ret
     exact⟨rfl,HF.out⟩
   | true =>
     have k0:w4.cell? ⟨n10,0,none⟩=some (.int .i64 d):=by rw [ag H4.out.2];rfl
     have k3:w4.cell? ⟨n10,3,none⟩=some (.int .i64 on):=by rw [ag H4.out.2];rfl
     have hldS:=ue H4.out.2;have HSl:Hid (SlAt w4 (fun b=>b<W.heap.size) (.slice pa v.l.length cv) v.l):=HOk.out.1.on H4.out.1.base;have HC:Hid (2 * (i:Int)+2≤100000):=by show _≤_;omega
     by_cases d0:d=0
     ·subst d0;have HM:Hid _:=H4.out.1.made HC.out 0 k h on ab v (.slice pa v.l.length cv) HSl.out (fun b hb=>hb) HOk.out.2.1 HRB.out.symm;simp only [aU]at hldS HM;clear H4 HSl k3
      go_wp2_with fail
      refine Calls.mono HM.out ?_;rintro e w5 ⟨rfl,h5⟩;have H5:Hid (PlI W p q (2 * (i:Int)+2) w5):=h5;clear h5 HM hldS k0
      go_wp2_with fail
      go_roundw
      case rel=>exact⟨i+1,by go_num,by omega,by have:=H5.out;rw [Int.natCast_succ,show 2 * ((i:Int)+1)=2 * (i:Int)+2 by omega];exact this⟩
      case measure=>(clear hwi;simp [intOf];omega)
     by_cases d12:d=1\/d=2
     ·have HM:Hid _:=H4.out.1.acted HC.out d k h on ab HOk.out.2.2.1 HOk.out.2.2.2 v (.slice pa v.l.length cv) HSl.out (fun b hb=>hb) HOk.out.2.1 HRB.out.symm;simp only [aU]at hldS HM;clear H4 HSl k3 d0
      rcases d12 with rfl | rfl
      ·go_wp2_with fail
       refine Calls.mono HM.out ?_;rintro e w5 ⟨rfl,h5⟩;have H5:Hid (PlI W p q (2 * (i:Int)+2) w5):=h5;clear h5 HM hldS k0
       go_wp2_with fail
       go_roundw
       case rel=>exact⟨i+1,by go_num,by omega,by have:=H5.out;rw [Int.natCast_succ,show 2 * ((i:Int)+1)=2 * (i:Int)+2 by omega];exact this⟩
       case measure=>(clear hwi;simp [intOf];omega)
      ·go_wp2_with fail
       refine Calls.mono HM.out ?_;rintro e w5 ⟨rfl,h5⟩;have H5:Hid (PlI W p q (2 * (i:Int)+2) w5):=h5;clear h5 HM hldS k0
       go_wp2_with fail
       go_roundw
       case rel=>exact⟨i+1,by go_num,by omega,by have:=H5.out;rw [Int.natCast_succ,show 2 * ((i:Int)+1)=2 * (i:Int)+2 by omega];exact this⟩
       case measure=>(clear hwi;simp [intOf];omega)
     by_cases d3:d=3
     ·subst d3;have HM:Hid _:=H4.out.1.len HC.out HOk.out.2.2.1;have HB4:Hid _:=H4.out.2;clear H4 HSl hldS d0 d12
      go_wp2_with fail
      refine Calls.mono HM.out ?_;rintro e w5 ⟨r5,n5,rfl,h5,hb5,hl5⟩;have H5:Hid _:=hl5 w5 br;have k3':w5.cell? ⟨n10,3,none⟩=some (.int .i64 on):=by rw [ag (ae hb5 HB4.out)];rfl
      clear h5 hb5 hl5 HM k0 k3
      go_wp2_with fail
      refine Calls.mono H5.out ?_;rintro e w6 ⟨rfl,h6⟩;have H6:Hid (PlI W p q (2 * (i:Int)+2) w6):=h6.le (by omega);clear h6 H5 k3'
      go_wp2_with fail
      go_roundw
      case rel=>exact⟨i+1,by go_num,by omega,by have:=H6.out;rw [Int.natCast_succ,show 2 * ((i:Int)+1)=2 * (i:Int)+2 by omega];exact this⟩
      case measure=>(clear hwi;simp [intOf];omega)
     by_cases d4:d=4
     ·subst d4;have HM:Hid _:=H4.out.1.mint HC.out;clear H4 HSl hldS d0 d12 d3 k3
      go_wp2_with fail
      refine Calls.mono HM.out ?_;rintro e w5 ⟨r5,n5,rfl,h5⟩;have H5:Hid _:=h5;clear h5 HM k0
      go_wp2_with fail
      refine Calls.mono H5.out ?_;rintro e w6 ⟨rfl,h6⟩;have H6:Hid (PlI W p q (2 * (i:Int)+2) w6):=h6;clear h6 H5
      go_wp2_with fail
      go_roundw
      case rel=>exact⟨i+1,by go_num,by omega,by have:=H6.out;rw [Int.natCast_succ,show 2 * ((i:Int)+1)=2 * (i:Int)+2 by omega];exact this⟩
      case measure=>(clear hwi;simp [intOf];omega)
     have c0:(d==0)=false:=by simpa using d0
     have c1:(d==1)=false:=by simpa using fun e=>d12 (.inl e)
     have c2:(d==2)=false:=by simpa using fun e=>d12 (.inr e)
     have c3:(d==3)=false:=by simpa using d3
     have c4:(d==4)=false:=by simpa using d4
     have H6:Hid (PlI W p q (2 * (i:Int)+2) w4):=H4.out.1.le (by omega);clear H4 HSl hldS d0 d12 d3 d4 k3
     go_wp2_with fail
     go_roundw
     case rel=>exact⟨i+1,by go_num,by omega,by have:=H6.out;rw [Int.natCast_succ,show 2 * ((i:Int)+1)=2 * (i:Int)+2 by omega];exact this⟩
     case measure=>(clear hwi;simp [intOf];omega)
  ·have hiz:¬ (i:Int)<(n:Int):=by omega
   obtain rfl:i=n:=by omega
   have hkk:¬ (i:Int)<(i:Int):=by omega
   have HSm:Hid _:=HI.out.same (by omega);clear HI
   go_wp2_with fail
   refine Calls.mono HSm.out ?_;rintro e w7 ⟨rfl,hb7⟩;have H7:Hid (Bl W w7):=hb7;clear hb7 HSm
   go_wp2_with fail
   refine(gF w7).mono ?_;rintro e w8 ⟨rfl,hb8⟩;have H8:Hid (Bl W w8):=H7.out.trans (hb8.mono H7.out.size);clear hb8 H7
   go_wp2_with fail
   go_ret
   exact⟨rfl,H8.out⟩
end
end Go.Proofs.YthaliljaglldjaaGreat
