/- Part of the proof. -/
import Derived.Test.YthaliljaglldjaaGreatmCA
import Derived.Test.YthaliljaglldjaaGreatmCB
namespace Go.Proofs.YthaliljaglldjaaGreat
set_option maxHeartbeats 16000000
set_option maxRecDepth 20000
open Go.RowKit Go.ChangeMaps Go.MapKept
section
variable {w:World} {p q:Nat} {M:WM} {F G:Nat->Prop}
def TI (w0:World) (p q:Nat) (c:Int) (wr:World):Prop:=∃ M F G,TS wr p q M F G/\M.last≤c/\(∀ b,F b\/G b->w0.heap.size≤b)/\Bl w0 wr
theorem likeT_refl13 (l:List (Int × Th)):LikeT l l:=⟨rfl,fun _ x hx=>⟨x.2.vl,x.2.vals,hx⟩⟩
theorem TP.no11 (h:TP M) {r:Int} {t:Th} (ht:M.at r=some t):t.kind≠11:=by
 rcases h.at ht with ⟨k,hh,e,h1⟩ | ⟨hh,m,e,-⟩ | ⟨hh,m,e,-⟩ | ⟨hh,m,e,-⟩ | ⟨x,d,e,-⟩ | ⟨hh,x,m,e,-⟩ | ⟨hh,x,m,e,-⟩
 ·rw [e];show k≠11;omega
 ·rw [e];exact(by decide:(3:Int)≠11)
 ·rw [e];exact(by decide:(8:Int)≠11)
 ·rw [e];exact(by decide:(13:Int)≠11)
 ·rw [e];exact(by decide:(14:Int)≠11)
 ·rw [e];exact(by decide:(15:Int)≠11)
 ·rw [e];exact(by decide:(16:Int)≠11)
theorem TS.both (S:TS w p q M F G) (hl:M.last≤100000):Both w p q M M F G where
 W:=S.W
 R:=S.R
 ap:=S.ap
 al:=⟨rfl,rfl,rfl,likeT_refl13 _⟩
 one:=fun x hx=>((S.tp.q hl).good.ok.cell x hx).1
 may:=fun r t ht=>by
  obtain⟨k,h,n,tg,bi,s,e⟩:=(S.tp.at ht).lt;exact⟨_,_,_,_,_,_,_,_,e⟩
 wfs:=fun x hx=>by
  obtain⟨k,h,n,tg,bi,s,e⟩:=(S.tp.things x hx).lt;rw [e];exact⟨nil_wf,nilL_wf⟩
 cutM:=S.tp.cuts
 cutN:=fun b hb=>S.tp.cuts b (List.mem_of_mem_drop hb)
 cutL:=by rw [List.length_drop,S.tp.ok.cuts];rfl
 kp:=fun r t ht hk=>absurd hk (S.tp.no11 ht)
theorem told13 {w0 wr:World} {c:Int} (hI:TI w0 p q c wr) (hc:c≤100000) :
 Calls Tryz.prog 25 #[.pointer (some ⟨p,0,none⟩)] wr fun e w1=>∃ v1,e=.returned v1/\Calls Tryz.prog 26 #[.pointer (some ⟨q,0,none⟩)] w1 fun e w2=>∃ v2,e=.returned v2 /\
  Calls Tryz.prog 24 #[v1,v2] w2 fun e w3=>e=.returned (.bool true)/\TI w0 p q c w3:=by
 obtain⟨M,F,G,S,hl,hF,hb⟩:=hI;have hB:=S.both (by omega);have hM:=hB.W.ok;have hlen:=hB.lenM;have hp:M.parents.length≤15:=by have:=hM.sides;omega
 have hmd:M.made.length=M.parents.length+1:=hM.made;refine(Tell_G hB.W hB.may hB.cutM (by omega)).mono ?_;rintro e w1 ⟨v1,rfl,h1,hb1⟩;refine⟨v1,rfl,(tell7_W (hB.R.below hb1) (hB.good (by omega)).ok hB.rmay hp hB.cutN hB.cutL (by omega) (by omega)).mono ?_⟩;rintro e w2 ⟨v2,rfl,h2,hb2⟩;refine⟨v2,rfl,(same7_W (h1.below hb2) h2.toG hB.al (by omega) (by omega) (by omega) hB.wfs).mono ?_⟩;rintro e w3 ⟨rfl,hb3⟩;have hbb:=(hb1.trans (hb2.mono hb1.size)).trans (hb3.mono (Nat.le_trans hb1.size hb2.size));exact⟨rfl,M,F,G,S.below hbb,hl,hF,hb.trans (hbb.mono hb.size)⟩
theorem stepped13 {w0 wr:World} {c:Int} (hI:TI w0 p q c wr) (hc:c+2≤100000) (t:St5) (h1:(Lit.int .i64 t.2.2.1).wf=true) (h2:(Lit.int .i64 t.2.2.2.1).wf=true) :
 Calls Tryz.prog 28 #[.pointer (some ⟨p,0,none⟩),.pointer (some ⟨q,0,none⟩),.agg (stc t).toArray] wr fun e w1=>e=.returned (.bool true)/\TI w0 p q (c+2) w1:=by
 obtain⟨M,F,G,S,hl,hF,hb⟩:=hI;refine(both13_any S (by omega) t.1 t.2.1 t.2.2.2.2 h1 h2).mono ?_;rintro e w1 ⟨rfl,M',F',G',S',hl',hk,hn⟩;exact⟨rfl,M',F',G',S',by omega,fun b h=>(hn b h).elim (hF b) fun h=>Nat.le_trans hb.size h,hb.trans (hk.below hb.size fun b h=>hF b h)⟩
theorem tree13:TreeOk [0,0]:=⟨by decide,fun i p h=>by
 match i,h with
 | 0,h=>cases h;exact⟨by decide,by decide⟩
 | 1,h=>cases h;exact⟨by decide,by decide⟩
 | i+2,h=>simp at h⟩
theorem tp_new:(WM.new [0,0]).ok->TP (WM.new [0,0]):=fun h=>⟨h,fun x hx=>(by cases hx),rfl,fun x hx=>by
 have hx':x ∈ List.replicate 3 false:=hx
 simpa using hx'⟩
theorem sideArg13 (w:World) (ty:TypeId):SideArg (w.alloc (.cells #[.int .i64 0,.int .i64 0] ty)) (some ⟨w.heap.size,0,none⟩) [0,0]:=.inr ⟨_,0,rfl,fun j x hj=>by
 match j,hj with
 | 0,hj=>cases hj;rw [cell_blk (blk_new _ _)];rfl
 | 1,hj=>cases hj;rw [cell_blk (blk_new _ _)];rfl
 | j+2,hj=>simp at hj⟩
def ldS13 (a:Value):Sem Next:=do pure (.value (← Instr.loadAt 72 a))
theorem sizeS13:(Tryz.prog.info? 72).map (·.size)=some 5:=by kernel_rfl
theorem execOp_ldS13 (ρ:Operand->Value) (d:Option Tmp) (a:Operand) (ty:TypeId) (pos:String) (af:Array Edge) (g:Option (Nat × Bool)) :
 execOp ρ { dst:=d,op:=.load 72 a,type:=ty,pos:=pos,after:=af,guard:=g } = ldS13 (ρ a):=rfl
theorem ldS13_mid {w:World} {b o:Nat} {t:St5} (h:w.rangeAt b o (stc t)):(ldS13 (.pointer (some ⟨b,o,none⟩))).run Tryz.prog w=.ok (.value (.agg (stc t).toArray)) w:=by
 have:=run_loadAt_mid w b o 72 (stc t) _ h Tryz.underlying72 rfl sizeS13;simp only [ldS13,Sem.run_bind,this,Result.andThen,Sem.run_pure]
attribute [local go_sem ↓] execOp_ldS13 in
theorem plays13_W (W:World) (sa:Option Addr) (n c:Nat) (ts:List St5) (hA:StArg W sa ts) (hwf:∀ t ∈ ts,(Lit.int .i64 t.2.2.1).wf=true/\(Lit.int .i64 t.2.2.2.1).wf=true) (hn:n=ts.length) :
 Calls Tryz.prog 6 #[.slice sa n c] W fun e W'=>e=.returned (.bool true)/\Bl W W':=by
 have HA:Hid (StArg W sa ts/\(∀ t ∈ ts,(Lit.int .i64 t.2.2.1).wf=true/\(Lit.int .i64 t.2.2.2.1).wf=true)/\n=ts.length):=⟨hA,hwf,hn⟩;clear hA hwf hn
 go_enter Tryz.func6,Tryz.ntmps6
 go_wp2_with fail
 have HS1:=(show Hid (SideArg (W.alloc (.cells #[.int .i64 0,.int .i64 0] 35)) (some ⟨W.heap.size,0,none⟩) [0,0]/\Bl W (W.alloc (.cells #[.int .i64 0,.int .i64 0] 35)))from⟨sideArg13 W _,(Below.refl _ W).alloc (Nat.le_refl _) _⟩);refine(New_W _ (some ⟨W.heap.size,0,none⟩) 2 [0,0] HS1.out.1).mono ?_;rintro e w5 hpost;obtain⟨p,F,rfl,hW,hF,hb⟩:=(Or.resolve_right hpost (fun h=>h.1 tree13)).2;clear hpost;have H5:Hid (IsW w5 p (WM.new [0,0]) F/\(∀ b,F b->W.heap.size≤b)/\Bl W w5):=⟨hW,fun b h=>Nat.le_trans HS1.out.2.size (hF b h),HS1.out.2.trans (hb.mono HS1.out.2.size)⟩;have HB:=(show Hid (SideArg (w5.alloc (.cells #[.int .i64 0,.int .i64 0] 35)) (some ⟨w5.heap.size,0,none⟩) [0,0]/\Bl w5 (w5.alloc (.cells #[.int .i64 0,.int .i64 0] 35)))from⟨sideArg13 w5 _,(Below.refl _ w5).alloc (Nat.le_refl _) _⟩);clear hW hF hb HS1
 go_wp2_with fail
 refine(new7_W _ (some ⟨w5.heap.size,0,none⟩) 2 [0,0] HB.out.1 tree13).mono ?_;rintro e w6 ⟨q,G,rfl,hR,hG,hb⟩;have hb56:=HB.out.2.trans (hb.mono HB.out.2.size);have HI:Hid (TI W p q 0 w6):=⟨_,F,G,⟨H5.out.1.below hb56,hR,fun b h1 h2=>by have:=H5.out.1.lt b h1;have:=hG b h2;have:=HB.out.2.size;omega,tp_new H5.out.1.ok⟩,Int.le_refl _,fun b h=>h.elim (H5.out.2.1 b) fun h=>Nat.le_trans H5.out.2.2.size (Nat.le_trans HB.out.2.size (hG b h)),H5.out.2.2.trans (hb56.mono H5.out.2.2.size)⟩;clear hR hG hb hb56 H5 HB
 by_cases hn1:(n:Int) > 120
 ·have HB:Hid (Bl W w6):=by obtain⟨M,F,G,-,-,-,h⟩:=HI.out;exact h
  clear HI
  go_wp2_with fail
  refine(lives13_W w6).mono ?_;rintro e w2 ⟨rfl,hb2⟩;have H2:Hid (Bl W w2):=HB.out.trans (hb2.mono HB.out.size);clear hb2 HB
  go_wp2_with fail
  go_ret
  exact⟨rfl,H2.out⟩
 go_wp2_with fail
 go_loopw [7] (fun vi wr=>∃ i:Nat,vi=.int .i64 i/\i≤n/\Hid (TI W p q (2 * i) wr)) (fun vi _=>n - (intOf vi).toNat)
 case atStart=>exact⟨0,rfl,Nat.zero_le _,HI.out⟩
 case round =>
  clear HI;obtain⟨i,rfl,hi,HI⟩:=hrel
  by_cases hin:i<n
  ·have hiz:(i:Int)<(n:Int):=by omega
   have hi0:(0:Int)≤(i:Int):=by omega
   obtain⟨t,ht⟩:∃ t,ts[i]? = some t:=⟨_,List.getElem?_eq_getElem (by have:=HA.out.2.2;omega)⟩;obtain⟨b,o,rfl,hr⟩:=HA.out.1.at ht;have hbW:Bl W wr:=by obtain⟨M,F,G,-,-,-,h⟩:=HI.out;exact h
   have hld:=ldS13_mid (hr wr hbW);obtain⟨w1',w2'⟩:=HA.out.2.1 t (List.mem_of_getElem? ht);have HS:=(show Hid _ from stepped13 HI.out (by omega) t w1' w2');have hwi:wrap64 ((i:Int)+1)=(i:Int)+1:=by unfold wrap64;omega
   clear ht hr hbW w1' w2' HI
   go_wp2_with fail
   refine Calls.mono HS.out ?_;rintro e w2 ⟨rfl,hI2⟩;have HT:=(show Hid _ from told13 hI2 (by omega));clear hI2 HS hld
   go_wp2_with fail
   refine Calls.mono HT.out ?_;rintro e w3 ⟨v1,rfl,h3⟩;have H3:=(show Hid _ from h3);clear h3 HT
   go_wp2_with fail
   refine Calls.mono H3.out ?_;rintro e w4 ⟨v2,rfl,h4⟩;have H4:=(show Hid _ from h4);clear h4 H3
   go_wp2_with fail
   refine Calls.mono H4.out ?_;rintro e w5 ⟨rfl,h5⟩;have H5:=(show Hid (TI W p q (2 * (i:Int)+2) w5)from h5);clear h5 H4
   go_wp2_with fail
   go_roundw
   case rel=>exact⟨i+1,by go_num,by omega,by have:=H5.out;rw [show (2 * ((i+1:Nat):Int))=2 * (i:Int)+2 by omega];exact this⟩
   case measure=>(simp [intOf];omega)
  ·have hiz:¬ (i:Int)<(n:Int):=by omega
   obtain rfl:i=n:=by omega
   have hkk:¬ (i:Int)<(i:Int):=by omega
   have HB:Hid (Bl W wr):=by obtain⟨M,F,G,-,-,-,h⟩:=HI.out;exact h
   clear HI
   go_wp2_with fail
   refine(lives13_W wr).mono ?_;rintro e w2 ⟨rfl,hb2⟩;have H2:Hid (Bl W w2):=HB.out.trans (hb2.mono HB.out.size);clear hb2 HB
   go_wp2_with fail
   go_ret
   exact⟨rfl,H2.out⟩
end
end Go.Proofs.YthaliljaglldjaaGreat
