/- Part of the proof. -/
import Derived.Test.YthaliljaglldjaaGreatmBL
namespace Go.Proofs.YthaliljaglldjaaGreat
set_option maxHeartbeats 16000000
set_option maxRecDepth 20000
open Go.RowKit Go.ChangeMaps Go.MapKept
section
def eT (f:Int->Val->Int × Bool) (st:Int × Bool) (y:Val):Int × Bool:=if st.2=true then f st.1 y else st
def ej:Nat->Int->Int->Val->Int × Bool
 | 0,x,_,_=>(x - 1,false)
 | n+1,x,d,v=>if x - 1<0\/d<0\/600<(v.l.length:Int)then (x - 1,false)else v.l.foldl (eT fun x y=>ej n x (d - 1) y) (x - 1,true)
theorem nU {n:Nat} {x d:Int} {v:Val} (h:x - 1<0\/d<0\/600<(v.l.length:Int)):ej n x d v=(x - 1,false):=by
 cases n with
 | zero=>rfl
 | succ n=>exact if_pos h
theorem qn {n:Nat} {x d:Int} {v:Val} (h:¬ (x - 1<0\/d<0\/600<(v.l.length:Int))):ej (n+1) x d v=v.l.foldl (eT fun x y=>ej n x (d - 1) y) (x - 1,true):=if_neg h
theorem mA (f:Int->Val->Int × Bool):∀ (l:List Val) (x:Int),l.foldl (eT f) (x,false)=(x,false)
 | [],_=>rfl
 | _ :: l,x=>mA f l x
theorem rJ {f:Int->Val->Int × Bool} {l:List Val} {i:Nat} {y:Val} {st:Int × Bool} {x x5:Int} (hy:l[i]? = some y) (h:(l.take i).foldl (eT f) st=(x,true)) (hf:f x y=(x5,false)):l.foldl (eT f) st=(x5,false):=by
 have e:l=l.take i ++ (y :: l.drop (i+1)):=by
  obtain⟨hi,rfl⟩:=List.getElem?_eq_some_iff.1 hy;rw [<- List.drop_eq_getElem_cons hi,List.take_append_drop]
 rw [e,List.foldl_append,h,List.foldl_cons];show List.foldl (eT f) (f x y) _=_;rw [hf];exact mA f _ _
theorem rz {f:Int->Val->Int × Bool} {l:List Val} {i:Nat} {y:Val} {st:Int × Bool} {x x5:Int} {b:Bool} (hy:l[i]? = some y) (h:(l.take i).foldl (eT f) st=(x,true)) (hf:f x y=(x5,b)):(l.take (i+1)).foldl (eT f) st=(x5,b):=by
 rw [List.take_add_one,hy,List.foldl_append,h];exact hf
theorem mr {f:Int->Val->Int × Bool} (hf:∀ x y x',f x y=(x',true)->0≤x'/\x'≤x):∀ (l:List Val) (x x':Int),0≤x->l.foldl (eT f) (x,true)=(x',true)->0≤x'/\x'≤x
 | [],x,x',h0,h=>by
   cases h
   exact⟨h0,Int.le_refl _⟩
 | y :: l,x,x',h0,h=>by
   have h':l.foldl (eT f) (f x y)=(x',true):=h;obtain⟨z,hz⟩:∃ z,f x y=z:=⟨_,rfl⟩;obtain⟨x1,b1⟩:=z;rw [hz]at h'
   cases b1 with
   | false =>
     rw [mA]at h'
     cases h'
   | true =>
     have h1:=hf x y x1 hz;have h2:=mr hf l x1 x' h1.1 h';omega
theorem pV:∀ (n:Nat) (x d:Int) (v:Val) (x':Int),ej n x d v=(x',true)->0≤x'/\x'≤x
 | 0,x,d,v,x',h=>by cases h
 | n+1,x,d,v,x',h=>by
   by_cases hb:x - 1<0\/d<0\/600<(v.l.length:Int)
   ·rw [nU hb]at h
    cases h
   ·rw [qn hb]at h;have:=mr (fun x y x' h=>pV n x (d - 1) y x' h) _ _ _ (by omega) h;omega
def ph (w w':World) (n:Nat) (raw':Value) (l:List Val):Prop:=SlAt w' (fun b=>w.heap.size≤b) raw' l/\Sp w' (fun b=>w.heap.size≤b) n raw'/\(l = []->raw'=.slice none 0 0)
def je (w:World) (v:Val) (q n:Nat) (st:Int × Bool) (e:Ending) (w':World):Prop :=
 ∃ raw' B x',st=(x',B)/\e=.returned (.tuple #[.agg (au v raw'),.bool B])/\(∃ p n c,raw'=.slice p n c)/\Keeps (fun b=>b=q) w w'/\w'.heap[q]? = some (.cells #[J x'] 3 (0,0))/\(B=true->ph w w' n raw' v.l)
theorem gp {w w':World} {kind nn r:Int} {s:ByteArray} {l:List Val} {q k:Nat} (p:Option Addr) (n c:Nat) {x':Int} {st:Int × Bool} (hs:st=(x',false)) (hk:Keeps (fun b=>b=q) w w') (hc:w'.heap[q]? = some (.cells #[J x'] 3 (0,0))) :
 je w ⟨kind,nn,s,l,r⟩ q k st (.returned (.tuple #[.agg (V_ kind nn s (.slice p n c) r),.bool false])) w':=⟨_,false,x',hs,rfl,⟨p,n,c,rfl⟩,hk,hc,fun e=>by cases e⟩
theorem tq {w w':World} {kind nn r:Int} {s:ByteArray} {l:List Val} {q k:Nat} (p:Option Addr) (n c:Nat) {x':Int} {st:Int × Bool} (hs:st=(x',true)) (hk:Keeps (fun b=>b=q) w w') (hc:w'.heap[q]? = some (.cells #[J x'] 3 (0,0))) (hq:ph w w' k (.slice p n c) l) :
 je w ⟨kind,nn,s,l,r⟩ q k st (.returned (.tuple #[.agg (V_ kind nn s (.slice p n c) r),.bool true])) w':=⟨_,true,x',hs,rfl,⟨p,n,c,rfl⟩,hk,hc,fun _=>hq⟩
def sS (n:Nat):Prop:=∀ (v:Val) (raw:Value) (w:World) (F:Nat->Prop) (q:Nat) (x d:Int),d<n->d≤40->0≤x/\x≤600->SlAt w F raw v.l->¬ F q->w.heap[q]? = some (.cells #[J x] 3 (0,0)) ->
 Calls Tryz.prog 63 #[.agg (au v raw),P_ q,J d] w (je w v q (n+1) (ej n x d v))
structure CopS (w:World) (A:Array Value) (v:Val) (q b8 n:Nat) (u:Value) (l:List Val) (x:Int) (wr:World):Prop where
 at0:Cop0 w A q x wr
 hb8:w.heap.size+2≤b8
 copy:wr.heap[b8]? = some (.cells (au v u) 27 (0,0))
 row:RowS wr (b8+1) n u l
 nl:l = []->u=.slice none 0 0
theorem CopS.keeps {w wr w':World} {A:Array Value} {v:Val} {q b8 n:Nat} {u:Value} {l:List Val} {x x':Int} (h:CopS w A v q b8 n u l x wr) (hk:Keeps (fun b=>b=q) wr w') (hq:q<w.heap.size) (hc:w'.heap[q]? = some (.cells #[J x'] 3 (0,0))):CopS w A v q b8 n u l x' w' where
 at0:=⟨h.at0.keeps.trans hk (fun _ _ h=>h) (fun _ _ h=>h),hk.none h.at0.box (fun e=>by have e':w.heap.size=q:=e;omega),hk.none h.at0.res (fun e=>by have e':w.heap.size+1=q:=e;omega),hc⟩
 hb8:=h.hb8
 copy:=hk.none h.copy (fun e=>by have:=h.hb8;have e':b8=q:=e;omega)
 row:=h.row.keeps hk fun b e hb=>by have:=h.hb8;have e':b=q:=e;omega
 nl:=h.nl
theorem CopS.below {w wr w':World} {A:Array Value} {v:Val} {q b8 n:Nat} {u:Value} {l:List Val} {x:Int} (h:CopS w A v q b8 n u l x wr) (hq:q<w.heap.size) (hb:Bl wr w'):CopS w A v q b8 n u l x w' :=
 h.keeps (Keeps.of_below hb) hq (ae hb h.at0.cnt)
theorem CopS.more {w wr w1:World} {A:Array Value} {kind nn r:Int} {s:ByteArray} {lv:List Val} {q b8 n:Nat} {u u':Value} {l l':List Val} {x:Int} (h:CopS w A ⟨kind,nn,s,lv,r⟩ q b8 n u l x wr) (hq:q<w.heap.size) (hg:Keeps (fun b=>u.ownBlock=some b) wr w1) (hr:RowS w1 (b8+1) n u' l') (hnl:l' ≠ []) :
 CopS w A ⟨kind,nn,s,lv,r⟩ q b8 n u' l' x (w1.setCell ⟨b8,3,none⟩ u')/\w1.heap[b8]? = some (.cells (V_ kind nn s u r) 27 (0,0)):=by
 have hne:∀ k,u.ownBlock=some k->b8+1≤k:=fun k e=>(h.row.own k e).1;have hb8:=h.hb8;have hk:Keeps (fun b=>b8+1≤b) wr w1:=hg.mono fun b _ e=>hne b e;have hcp:=hk.none h.copy (by show ¬ b8+1≤b8;omega)
 have old:∀ {k:Nat} {o:Obj},wr.heap[k]? = some o->k<b8->(w1.setCell ⟨b8,3,none⟩ u').heap[k]? = some o:=fun {k o} e hk8=>by
  rw [Below.heap_setCell w1 ⟨b8,3,none⟩ _ _ (by simp;omega)];exact hk.none e (by show ¬ b8+1≤k;omega)
 refine⟨⟨⟨?_,old h.at0.box (by omega),old h.at0.res (by omega),old h.at0.cnt (by omega)⟩,hb8,?_,?_,fun e=>absurd e hnl⟩,hcp⟩
 ·refine(h.at0.keeps.trans hk (T:=fun b=>b=q) (fun _ _ h=>h) (fun y hy h=>by have:b8+1≤y:=h;omega)).trans (Keeps.setCell (S:=fun b=>b=b8) w1 ⟨b8,3,none⟩ u' rfl) (fun _ _ h=>h) (fun y hy h=>by have:y=b8:=h;omega)
 ·rw [aA hcp];rfl
 ·exact hr.keeps (Keeps.setCell (S:=fun b=>b=b8) w1 ⟨b8,3,none⟩ u' rfl) fun b e hb=>by have e':b=b8:=e;omega
theorem CopS.copQ {w wr w':World} {A:Array Value} {v:Val} {q b8 n:Nat} {u:Value} {l:List Val} {x:Int} {c:Array Value} (h:CopS w A v q b8 n u l x wr) (hl:l.length≤600) (e:w'=wr.setRow (w.heap.size+1) c):ph w w' (n+1) u l:=by
 have hk:=aQ wr (w.heap.size+1) c;rw [<- e]at hk;have hr:=h.row.keeps hk fun b e hb=>by have:=h.hb8;have e':b=w.heap.size+1:=e;omega
 exact⟨hr.at.mono fun b hb=>by have:=h.hb8;omega,(hr.sp hl).mono fun b hb=>by have:=h.hb8;omega,h.nl⟩
attribute [local go_sem ↓] kC Ap pi kB in
theorem kQ (n:Nat) (ih:∀ m,n=m+1->sS m):sS n:=by
 intro v raw w F q x d hd hd40 hx hS hFq hq;obtain⟨pa,c,rfl⟩:=hS.form;obtain⟨kind,nn,s,l,r⟩:=v;have IH:Hid _:=ih;have HS:Hid (SlAt w F (.slice pa l.length c) l):=hS;have HFq:Hid (¬ F q):=hFq;have hqlt:=aw hq;have HX0:Hid (wrap64 (x - 1)=x - 1/\0≤x/\x≤600):=⟨by unfold wrap64;omega,hx⟩;have hq2:((w.alloc (.cells (V_ kind nn s (.slice pa l.length c) r) 27)).alloc (.cells zV 27)).heap[q]? = some (.cells #[J x] 3 (0,0)):=aG _ _ (aG _ _ hq);have hcq:=ag hq2 0;have hfq:=av hq2 0;have H2:Hid _:=hq2;have Hq:Hid _:=hq;clear ih hS hFq hq hq2 hx;simp only [au];simp only [zV]at hcq hfq
 go_enter Tryz.func63,Tryz.ntmps63
 go_upto_region 2 with fail
 have HC:Hid (Cop0 w (V_ kind nn s (.slice pa l.length c) r) q (wrap64 (x - 1)) (((w.setCell ⟨q,0,none⟩ (J (wrap64 (x - 1)))).alloc (.cells (V_ kind nn s (.slice pa l.length c) r) 27)).alloc (.cells zV 27))):=by
  refine⟨((Keeps.setCell (S:=fun b=>b=q) w ⟨q,0,none⟩ _ rfl).alloc _).alloc _,?_,?_,?_⟩
  ·have:=aL (w.setCell ⟨q,0,none⟩ (J (wrap64 (x - 1)))) (.cells (V_ kind nn s (.slice pa l.length c) r) 27) (.cells zV 27)
   simpa using this
  ·have:=aK (w.setCell ⟨q,0,none⟩ (J (wrap64 (x - 1)))) (.cells (V_ kind nn s (.slice pa l.length c) r) 27) (.cells zV 27)
   simpa using this
  ·exact aG _ _ (aG _ _ (by rw [aA Hq.out];rfl))
 simp only [zV]at HC;revert HC;generalize ((w.setCell _ _).alloc _).alloc _=w3;obtain⟨X,hX⟩:∃ X,X=wrap64 (x - 1):=⟨_,rfl⟩;have HX:Hid (X=x - 1/\0≤x/\x≤600):=⟨hX.trans HX0.out.1,HX0.out.2⟩;rw [<- hX];clear hX HX0;intro HC;clear hcq hfq H2;have hcq:w3.cell? ⟨q,0,none⟩=some (.int .i64 X):=by rw [ag HC.out.cnt];rfl
 obtain⟨⟨a0,a1,a2,a3,a4⟩,-⟩:=ax HC.out.box
 by_cases hbad:X<0\/d<0\/600<(l.length:Int)
 ·obtain⟨hst,HE⟩:=HC.out.put (c':=#[U kind,J nn,.string s,.slice pa l.length c,J r]) hqlt rfl (by simp [go_sem]);clear HC
  have HCF:Hid (ej n x d ⟨kind,nn,s,l,r⟩=(X,false)):=by
   show _=_;rw [HX.out.1];exact nU (by rw [<- HX.out.1];exact hbad)
  by_cases h0:X<0
  ·go_wp2_with fail
   refine bodyPost_ret (cU _ _ _ _ _ (HE.out _ rfl).1 rfl rfl rfl) rfl (gp _ _ _ HCF.out (HE.out _ rfl).2.1 (HE.out _ rfl).2.2)
  ·by_cases h1:d<0
   ·go_wp2_with fail
    refine bodyPost_ret (cU _ _ _ _ _ (HE.out _ rfl).1 rfl rfl rfl) rfl (gp _ _ _ HCF.out (HE.out _ rfl).2.1 (HE.out _ rfl).2.2)
   ·have h2:600<(l.length:Int):=by omega
    go_wp2_with fail
    refine bodyPost_ret (cU _ _ _ _ _ (HE.out _ rfl).1 rfl rfl rfl) rfl (gp _ _ _ HCF.out (HE.out _ rfl).2.1 (HE.out _ rfl).2.2)
 ·obtain⟨h0,h1,h2⟩:¬ X<0/\¬ d<0/\¬ 600<(l.length:Int):=⟨fun h=>hbad (.inl h),fun h=>hbad (.inr (.inl h)),fun h=>hbad (.inr (.inr h))⟩
  obtain⟨m,rfl⟩:∃ m,n=m+1:=by
   cases n with
   | zero=>omega
   | succ m=>exact⟨m,rfl⟩
  have hwd:wrap64 (d - 1)=d - 1:=by unfold wrap64;omega
  have HCF:Hid (ej (m+1) x d ⟨kind,nn,s,l,r⟩=l.foldl (eT fun x y=>ej m x (d - 1) y) (X,true)):=by
   show _=_;rw [HX.out.1];exact qn (by rw [<- HX.out.1];exact hbad)
  have HX1:Hid (0≤X/\X≤600):=by have:=HX.out;show _/\_;omega
  clear hbad
  go_upto_region 7 with fail
  have HR:Hid (∃ u x',CopS w (V_ kind nn s (.slice pa l.length c) r) ⟨kind,nn,s,l,r⟩ q w3.heap.size (m+1) u [] x' (w3.alloc (.cells (V_ kind nn s (S_) r) 27))/\(l.take 0).foldl (eT fun x y=>ej m x (d - 1) y) (X,true)=(x',true)) :=
   ⟨_,X,⟨⟨HC.out.keeps.alloc _,aG _ _ HC.out.box,aG _ _ HC.out.res,aG _ _ HC.out.cnt⟩,by have:=aw HC.out.res;omega,ai _ _,RowS.nil _ _ _,fun _=>rfl⟩,rfl⟩
  revert HR;generalize w3.alloc _=w4;generalize w3.heap.size=b8;intro HR;clear HC hcq a0 a1 a2 a3 a4;clear w3
  go_loopw [9] (fun vi wr=>∃ i:Nat,vi=J i/\i≤l.length/\Hid (∃ u x',CopS w (V_ kind nn s (.slice pa l.length c) r) ⟨kind,nn,s,l,r⟩ q b8 (m+1) u (l.take i) x' wr/\(l.take i).foldl (eT fun x y=>ej m x (d - 1) y) (X,true)=(x',true))) (fun vi _=>l.length - (intOf vi).toNat)
  case atStart=>exact⟨0,rfl,Nat.zero_le _,HR⟩
  case round =>
   clear HR;obtain⟨i,rfl,hi,HR⟩:=hrel;obtain⟨u,x',hR,hfold⟩:=HR.out;have HFo:Hid ((l.take i).foldl (eT fun x y=>ej m x (d - 1) y) (X,true)=(x',true)):=hfold;clear hfold;have HR:Hid _:=hR;obtain⟨⟨a0,a1,a2,a3,a4⟩,-⟩:=ax hR.at0.box
   by_cases hil:i<l.length
   ·obtain⟨y,hy⟩:∃ y,l[i]? = some y:=⟨_,List.getElem?_eq_getElem hil⟩;have hSr:=HS.out.keeps hR.at0.keeps (fun b e hb=>HFq.out (by have:b=q:=e;rw [<- this];exact hb));obtain⟨b,o,c',raw,hpe,hrg,-,-,hSx⟩:=hSr.range hy
    cases hpe
    obtain⟨yk,yn,ys,yl,yr⟩:=y;obtain⟨pa2,c2,rfl⟩:=hSx.form;have hld0:=aY hrg rfl;have hld:(bp (R_ b (o+i * 5))).run Tryz.prog wr=.ok (.value (.agg (V_ yk yn ys (.slice pa2 yl.length c2) yr))) wr:=hld0;have hiz:(i:Int)<(l.length:Int):=by omega
    have hwi:wrap64 ((i:Int)+1)=(i:Int)+1:=by unfold wrap64;omega
    have HSX:Hid (SlAt wr F (.slice pa2 yl.length c2) yl):=hSx;have HY0:Hid (l[i]? = some ⟨yk,yn,ys,yl,yr⟩):=hy;have HTk:Hid (l.take (i+1)=l.take i ++ [⟨yk,yn,ys,yl,yr⟩]):=by show _=_;rw [List.take_add_one,hy];rfl
    clear hld0 hy hrg hSx hSr hR
    go_wp2_with fail
    refine(IH.out m rfl ⟨yk,yn,ys,yl,yr⟩ (.slice pa2 yl.length c2) _ F q x' (d - 1) (by omega) (by omega) (by have h1:=mr (fun x y x' h=>pV m x (d - 1) y x' h) _ _ _ HX1.out.1 HFo.out;have:=HX1.out;omega) HSX.out HFq.out HR.out.at0.cnt).mono ?_;rintro e w5 ⟨raw',B,x5,hst5,rfl,⟨pr,nr,cr,rfl⟩,hk5,hc5,hq5⟩;have HF5:Hid ((l.take (i+1)).foldl (eT fun x y=>ej m x (d - 1) y) (X,true)=(x5,B)/\(B=false->l.foldl (eT fun x y=>ej m x (d - 1) y) (X,true)=(x5,false))):=⟨rz HY0.out HFo.out hst5,fun e=>rJ HY0.out HFo.out (by rw [<- e];exact hst5)⟩;clear hst5 HFo HY0;have HR5:Hid _:=HR.out.keeps hk5 hqlt hc5;have HQ5:Hid (B=true->ph wr w5 (m+1) (.slice pr nr cr) yl/\b8+1≤wr.heap.size/\(∀ b,u.ownBlock=some b->b<wr.heap.size)):=fun e=>⟨hq5 e,aw HR.out.copy,fun b hb=>(HR.out.row.own b hb).2⟩;have HB6:Hid (Bl w5 (w5.alloc (.cells (V_ yk yn ys (.slice pr nr cr) yr) 27))):=br.alloc aH _;have HR6:Hid _:=HR5.out.below hqlt HB6.out;clear hk5 hc5 hq5 HR HSX hld a0 a1 a2 a3 a4;simp only [au]
    cases B with
    | false =>
      have HFx:Hid (ej (m+1) x d ⟨kind,nn,s,l,r⟩=(x5,false)):=HCF.out.trans (HF5.out.2 (by first | rfl | trivial));obtain⟨hst,HE⟩:=HR6.out.at0.put (c':=#[U kind,J nn,.string s,.slice (some ⟨b,o,none⟩) l.length c,J r]) hqlt rfl (by simp [go_sem]);obtain⟨⟨a0,a1,a2,a3,a4⟩,-⟩:=ax HR6.out.at0.box;clear HR6 HR5 HB6 HQ5
      go_wp2_with fail
      refine bodyPost_ret (cU _ _ _ _ _ (HE.out _ rfl).1 rfl rfl rfl) rfl (gp _ _ _ HFx.out (HE.out _ rfl).2.1 (HE.out _ rfl).2.2)
    | true =>
      go_upto_region 12 with fail
      have HY:Hid ((w5.alloc (.cells (V_ yk yn ys (.slice pr nr cr) yr) 27)).heap[w5.heap.size]? = some (.cells (V_ yk yn ys (.slice pr nr cr) yr) 27 (0,0))):=ai _ _
      have HYy:Hid (SlAt (w5.alloc (.cells (V_ yk yn ys (.slice pr nr cr) yr) 27)) (fun b=>b8+1≤b/\u.ownBlock≠some b) (.slice pr nr cr) yl/\Sp (w5.alloc (.cells (V_ yk yn ys (.slice pr nr cr) yr) 27)) (fun b=>b8+1≤b/\u.ownBlock≠some b) (m+1) (.slice pr nr cr)):=by
       obtain⟨⟨q1,q2,-⟩,q3,q4⟩:=HQ5.out rfl;have hf:∀ b,wr.heap.size≤b->b8+1≤b/\u.ownBlock≠some b:=fun b hb=>⟨by omega,fun e=>by have:=q4 b e;omega⟩;exact⟨(q1.on HB6.out).mono hf,(q2.on HB6.out).mono hf⟩
      clear HB6 HR5 HQ5;revert HR6 HY HYy;generalize w5.alloc _=w6;generalize w5.heap.size=b10;intro HR6 HY HYy;clear w5;have hcp:=HR6.out.copy;simp only [au]at hcp;have e3:=ag hcp 3;obtain⟨⟨y0,y1,y2,y3,y4⟩,-⟩:=ax HY.out;have HRW:Hid _:=HR6.out.row;have HN:Hid (((l.take i).length:Int)≤1000):=(by rw [List.length_take];omega:((l.take i).length:Int)≤1000);have HBs:Hid (b8+1≤w6.heap.size):=aw HR6.out.copy;clear hcp HY
      go_wp2_with (at_builtin;refine nT rfl _ _ rfl (b8+1) (m+1) u (l.take i) rfl HRW ⟨yk,yn,ys,yl,yr⟩ (.slice pr nr cr) HYy rfl HN HBs ?_;intro v' w7 hrow hg
                   obtain⟨p9,c9,e9⟩:=hrow.out.at.form;rw [<- HTk.out]at e9;obtain⟨n9,hn9⟩:∃ n9,n9=(l.take (i+1)).length:=⟨_,rfl⟩;rw [<- hn9]at e9;subst e9;clear hn9;obtain⟨hR7,hb7⟩:=HR6.out.more hqlt hg.out hrow.out (by simp);rw [<- HTk.out]at hR7;have e7:=ag hb7 3;have f7:=av hb7 3;have HR7:Hid _:=hR7
                   clear hrow hg hR7 hb7 HR6 HRW e3 HYy HN HBs)
      go_roundw
      case rel=>exact⟨i+1,by go_num,by omega,_,_,HR7.out,HF5.out.1⟩
      case measure=>simp [intOf];omega
   ·obtain rfl:i=l.length:=by omega
    have hiz:¬ ((l.length:Int)<(l.length:Int)):=by omega
    rw [List.take_length]at hR;have HFe:Hid (ej (m+1) x d ⟨kind,nn,s,l,r⟩=(x',true)):=by have:=HFo.out;rw [List.take_length]at this;exact HCF.out.trans this
    obtain⟨p8,c8,he8⟩:=hR.row.at.form;have HQ:Hid (∀ w4,w4=wr.setRow (w.heap.size+1) (V_ kind nn s u r)->ph w w4 (m+1+1) u l):=fun w4 e=>hR.copQ (by omega) e;obtain⟨n8,hn8⟩:∃ n8,n8=l.length:=⟨_,rfl⟩;rw [<- hn8]at he8;subst he8;obtain⟨hst,HE⟩:=hR.at0.put (c':=#[U kind,J nn,.string s,.slice p8 n8 c8,J r]) hqlt rfl (by simp [go_sem]);have hcp:=hR.copy;simp only [au]at hcp;obtain⟨⟨b0,b1,b2,b3,b4⟩,-⟩:=ax hcp;clear hcp hR HR hn8
    go_wp2_with fail
    refine bodyPost_ret (cU _ _ _ _ _ (HE.out _ rfl).1 rfl rfl rfl) rfl (tq _ _ _ HFe.out (HE.out _ rfl).2.1 (HE.out _ rfl).2.2 (HQ.out _ rfl))
theorem ul (n:Nat):sS n:=by
 induction n with
 | zero=>exact kQ 0 (fun m h=>by cases h)
 | succ n ih=>exact kQ (n+1) (fun m h=>by cases h;exact ih)
def cp (v:Val):Bool:=(ej 41 600 40 v).2
def wQ (w:World) (v:Val) (e:Ending) (w':World):Prop :=
 ∃ raw',e=.returned (.tuple #[.agg (au v raw'),.bool (cp v)])/\(∃ p n c,raw'=.slice p n c)/\Bl w w'/\(cp v=true->ph w w' 42 raw' v.l)
attribute [local go_sem ↓] lJ in
theorem gE {w:World} {F:Nat->Prop} (v:Val) (raw:Value) (hS:SlAt w F raw v.l):Calls Tryz.prog 10 #[.agg (au v raw)] w (wQ w v):=by
 obtain⟨pa,c,rfl⟩:=hS.form;have hS3:=(((hS.lt.on (br.alloc aH (.cells (au v (.slice pa v.l.length c)) 27))).on (br.alloc aH (.cells zV 27)))).on (br.alloc aH (.cells #[J 600] 3))
 have hcall:=ul 41 v (.slice pa v.l.length c) _ _ (w.heap.size+2) 600 40 (by decide) (by decide) ⟨by decide,by decide⟩ hS3 (fun e=>by have:=e.2;omega) (by
  have:=ai ((w.alloc (.cells (au v (.slice pa v.l.length c)) 27)).alloc (.cells zV 27)) (.cells #[J 600] 3)
  simpa using this)
 have HB3:Hid (Bl w (((w.alloc (.cells (au v (.slice pa v.l.length c)) 27)).alloc (.cells zV 27)).alloc (.cells #[J 600] 3)) /\
  (((w.alloc (.cells (au v (.slice pa v.l.length c)) 27)).alloc (.cells zV 27)).alloc (.cells #[J 600] 3)).heap[w.heap.size+1]? = some (.cells zV 27 (0,0))) :=
  ⟨((br.alloc aH _).alloc (by simp) _).alloc (by simp;omega) _,aG _ _ (aK _ _ _)⟩
 have HB:Hid (cp v=(ej 41 600 40 v).2):=rfl;unfold wQ;generalize cp v=RB at HB ⊢;obtain⟨kind,nn,s,l,r⟩:=v;have HC:Hid _:=hcall;clear hS hS3 hcall;simp only [au,zV]at HC HB3 ⊢
 go_enter Tryz.func10,Tryz.ntmps10
 go_wp2_with fail
 refine Calls.mono HC.out ?_;rintro e w4 ⟨raw',B,x',hst4,rfl,⟨p,m,c',rfl⟩,hk,-,hq⟩;have hB:RB=B:=by rw [HB.out,hst4]
 subst hB;clear HB hst4;have HB4:Hid (Bl w w4):=HB3.out.1.trans (hk.below HB3.out.1.size fun y hy=>by have:y=w.heap.size+2:=hy;omega);have hg:w4.heap[w.heap.size+1]? = some (.cells O 27 (0,0)):=hk.none HB3.out.2 (fun e=>by have:w.heap.size+1=w.heap.size+2:=e;omega);have hst:=az (c':=#[U kind,J nn,.string s,.slice p m c',J r]) hg rfl rfl (by simp [go_sem])
 have HQ:Hid (RB=true->ph w (w4.setRow (w.heap.size+1) (V_ kind nn s (.slice p m c') r)) 42 (.slice p m c') l):=fun e=>by
  obtain⟨q1,q2,q3⟩:=hq e;have hs:(((w.alloc (.cells (V_ kind nn s (.slice pa l.length c) r) 27)).alloc (.cells O 27)).alloc (.cells #[J 600] 3)).heap.size=w.heap.size+3:=by simp
  have hk:=aQ w4 (w.heap.size+1) (V_ kind nn s (.slice p m c') r);exact⟨(q1.keeps hk fun b e hb=>by have e':b=w.heap.size+1:=e;have:_≤b:=hb;omega).mono fun b hb=>by have:_≤b:=hb;omega,(q2.keeps hk fun b e hb=>by have e':b=w.heap.size+1:=e;have:_≤b:=hb;omega).mono fun b hb=>by have:_≤b:=hb;omega,q3⟩
 have HG:Hid _:=ah (c':=#[U kind,J nn,.string s,.slice p m c',J r]) hg;clear hk hg hq HC HB3;simp only [au]
 go_wp2_with fail
 refine bodyPost_ret (me _ _ _ RB _ HG.out rfl rfl rfl) rfl ⟨_,rfl,⟨p,m,c',rfl⟩,Below.setRow HB4.out (by omega) _,HQ.out⟩
end
section
theorem Below.setCells {w w':World} {F:Nat->Prop} {b:Nat} (h:Keeps F w w') (hF:F b):∀ (cs:List Value) (o:Nat),Keeps F w (w'.setCells b o cs)
 | [],_=>h
 | v :: r,o=>by
   show Keeps F w ((w'.setCell ⟨b,o,none⟩ v).setCells b (o+1) r);refine Below.setCells (h.trans (Keeps.setCell (S:=F) w' ⟨b,o,none⟩ v hF) (fun _ _ h=>h) (fun _ _ h=>h)) hF r (o+1)
theorem pe {w:World} {b o:Nat} {cs:Array Value} (ht:w.there b o cs.size) (hs:cs.size=5) (h1:cs.all (·.oneCell')=true):(bZ (R_ b o) (.agg cs)).run Tryz.prog w=.ok .skip (w.setCells b o cs.toList):=by
 have:=run_storeAt_mid (P:=Tryz.prog) w b o 27 cs ht (by rw [hs];exact dh) h1;simp only [bZ,Sem.run_bind,this,Result.andThen,Sem.run_pure]
def jK (w:World) (F:Nat->Prop) (w':World):Prop:=Keeps F w w'/\∀ m u,Sp w F m u->Sp w' F m u
def mw (n:Nat):Prop:=∀ (k x r:Int) (s:ByteArray) (raw:Value) (w:World) (F:Nat->Prop),(∀ b,F b->b<w.heap.size)->Sp w F n raw ->
 Calls Tryz.prog 89 #[.agg (V_ k x s raw r)] w fun e w'=>e=.returned (.tuple #[])/\jK w F w'
structure SpL (w:World) (F:Nat->Prop) (A:Array Value) (wr:World):Prop where
 q:jK w F wr
 box:wr.heap[w.heap.size]? = some (.cells A 27 (0,0))
theorem SpL.next {w wr w5:World} {F:Nat->Prop} {A:Array Value} (h:SpL w F A wr) (hF:∀ b,F b->b<w.heap.size) (hq:jK wr F w5):SpL w F A w5 :=
 ⟨⟨h.q.1.trans hq.1 (fun _ _ h=>h) (fun _ _ h=>h),fun m u hu=>hq.2 m u (h.q.2 m u hu)⟩,hq.1.none h.box (fun e=>by have:=hF _ e;omega)⟩
theorem SpL.below {w wr w5:World} {F:Nat->Prop} {A:Array Value} (h:SpL w F A wr) (hb:Bl wr w5):SpL w F A w5 :=
 ⟨⟨h.q.1.trans (Keeps.of_below hb) (fun _ _ h=>h) (fun _ _ h=>h),fun m u hu=>(h.q.2 m u hu).on hb⟩,ae hb h.box⟩
theorem SpL.over {w wr:World} {F:Nat->Prop} {A:Array Value} (h:SpL w F A wr) (hF:∀ b,F b->b<w.heap.size) {b j:Nat} (hb:F b) (k x r:Int) (s:ByteArray) :
 SpL w F A (wr.setCells b (j * 5) [U k,J x,.string s,S_,J r]) :=
 ⟨⟨Below.setCells h.q.1 hb _ _,fun m u hu=>(h.q.2 m u hu).over b j k x r s⟩,(Below.setCells (Keeps.of_below (S:=F) (Below.refl wr.heap.size wr)) hb _ _).none h.box (fun e=>by have:=hF _ e;omega)⟩
def zP (B0 b len c i:Nat) (j:Nat) (v:Value) (_:World):Prop :=
 match j with
 | 0=>v=R_ B0 3
 | 1=>v=.slice (some ⟨b,0,none⟩) len c
 | 2=>v=J i
 | 3=>v=.agg (V_ 1 (-5) ⟨#[]⟩ (S_) 0)
 | 4=>v=R_ b (i * 5)
 | _=>True
theorem kD:bX 14 27 13 bp:=fun _ _ _ _ _=>rfl
theorem ic:ff 27 20 19 bZ:=fun _ _ _ _ _=>rfl
attribute [local go_sem ↓] kD ic in
theorem jV (n:Nat) (ih:∀ m,n=m+1->mw m):mw n:=by
 intro k x r s raw w F hF hS;obtain⟨m,p,len,c,rfl,rfl,hl⟩:=hS.form;have HS:Hid (∀ w',jK w F w'->Sp w' F (m+1) (.slice p len c)):=fun w' h=>h.2 _ _ hS;have HF:Hid ((∀ b,F b->b<w.heap.size)/\len≤600):=⟨hF,hl⟩;have IH:Hid (mw m):=ih m rfl
 have H0:Hid (SpL w F (V_ k x s (.slice p len c) r) (w.alloc (.cells (V_ k x s (.slice p len c) r) 27))) :=
  ⟨⟨Keeps.of_below ((Below.refl _ w).alloc aH _),fun m u hu=>hu.on ((Below.refl _ w).alloc aH _)⟩,ai _ _⟩
 clear hF hS hl ih
 go_enter Tryz.func89,Tryz.ntmps89
 go_wp2_with fail
 go_loopw [2] (fun vi wr=>∃ i:Nat,vi=J i/\i≤len/\Hid (SpL w F (V_ k x s (.slice p len c) r) wr)) (fun vi _=>len - (intOf vi).toNat)
 case atStart=>exact⟨0,rfl,Nat.zero_le _,H0.out⟩
 case round =>
  clear H0;obtain⟨i,rfl,hi,HR⟩:=hrel;have c3:wr.cell? ⟨w.heap.size,3,none⟩=some (.slice p len c):=by rw [ag HR.out.box];rfl
  by_cases hil:i<len
  ·have hiz:(i:Int)<(len:Int):=by omega
   have hi0:(0:Int)≤(i:Int):=by omega
   obtain⟨b,k',x',s',r',raw',rfl,hFb,hrg,hth,hSr⟩:=(HS.out wr HR.out.q).ent hil;obtain⟨m',p',len',c',rfl,rfl,-⟩:=hSr.form;have hld0:=aY hrg rfl;have hld:(bp (R_ b (i * 5))).run Tryz.prog wr=.ok (.value (.agg (V_ k' x' s' (.slice p' len' c') r'))) wr:=hld0;have HX:Hid (F b/\Sp wr F (m'+1) (.slice p' len' c')):=⟨hFb,hSr⟩;have hwi:wrap64 ((i:Int)+1)=(i:Int)+1:=by have:=HF.out.2;unfold wrap64;omega
   clear hrg hth hSr hFb hld0
   go_wp2_with fail
   refine(IH.out k' x' r' s' (.slice p' len' c') wr F (fun b hb=>Nat.lt_of_lt_of_le (HF.out.1 b hb) HR.out.q.1.size) HX.out.2).mono ?_;rintro e w5 ⟨rfl,hq5⟩;have HR5:Hid (SpL w F _ w5):=HR.out.next HF.out.1 hq5
   clear hq5 HR c3 hld
   go_upto_region 5 with fail
   have HP5:Hid (∀ w',Bl w5 w'->w'.cell? ⟨w.heap.size,3,none⟩=some (.slice (some ⟨b,0,none⟩) len c)):=fun w' hb=>by rw [ag (ae hb HR5.out.box)];rfl
   have HBx:Hid (w5.heap[w.heap.size]? = some (.cells (V_ k x s (.slice (some ⟨b,0,none⟩) len c) r) 27 (0,0))):=HR5.out.box;obtain⟨B0,hB0⟩:∃ B0,B0=w.heap.size:=⟨_,rfl⟩;rw [<- hB0]at HBx HP5 ⊢;refine aR 5 (by kernel_rfl) rfl (by kernel_rfl) (by kernel_rfl) (fun a b=>Bl a b) (zP B0 b len c i) (fun w'=>Bl w5 w') (fun j v w w' _ h=>h) below_drew (fun a b h hR=>h.trans (hR.mono h.size)) ?_ ?_ ?_
   ·exact fun _ _ _ _ h1 h2=>bC (by kernel_rfl) h1 h2
   ·intro j q a w7 hq hC hG;have hj:j<5:=ji hq
    match j,hj with
    | 0,_=>cases hq;have h1':a.tmps[1]?.getD undef=P_ B0:=gq (hG.fr 1 (by simp));unfold Oper.wp;simp [go_sem,Act.eval,h1'];exact⟨_,rfl,br,rfl⟩
    | 1,_ =>
      cases hq;have h16':=gq (i:=16) (gd hG 0 rfl);have c3:w7.cell? ⟨B0,3,none⟩=some (.slice (some ⟨b,0,none⟩) len c):=by rw [ag (ae hC HBx.out)];rfl
      unfold Oper.wp;simp [go_sem,Act.eval,h16',c3];exact⟨_,rfl,br,rfl⟩
    | 2,_=>cases hq;have h2':a.tmps[2]?.getD undef=J i:=gq (hG.fr 2 (by simp));unfold Oper.wp;simp [go_sem,Act.eval,h2'];exact⟨_,rfl,br,rfl⟩
    | 3,_ =>
      cases hq;unfold Oper.wp;simp [go_sem,callFunc,Act.eval,Tryz.func65];refine Calls.mono (eI _ _) ?_;rintro e w8 ⟨rfl,hb8⟩;exact⟨_,rfl,hb8,rfl⟩
    | 4,_=>cases hq;have h17':=gq (i:=17) (gd hG 1 rfl);have h18':=gq (i:=18) (gd hG 2 rfl);unfold Oper.wp;simp [go_sem,Act.eval,h17',h18',hiz,hi0];exact⟨_,rfl,br,rfl⟩
   ·intro a w7 hC hdf hsz hfr hphi;have e0:a.tmps.getD 16 undef=_:=hphi 0 _ rfl;have e1:a.tmps.getD 17 undef=_:=hphi 1 _ rfl;have e2:a.tmps.getD 18 undef=J i:=hphi 2 _ rfl;have e3:a.tmps.getD 19 undef=_:=hphi 3 _ rfl;have e4:a.tmps.getD 20 undef=_:=hphi 4 _ rfl;have ha:=bq hdf hsz hfr;simp only [List.take_succ_cons,List.take_zero,List.filterMap_cons,List.filterMap_nil,List.foldl_cons,List.foldl_nil,List.setIfInBounds_toArray,List.set_cons_zero,List.set_cons_succ,e0,e1,e2,e3,e4]at ha;clear hdf hsz hfr hphi e0 e1 e2 e3 e4;subst ha;have HR7:Hid (SpL w F _ w7):=HR5.out.below hC;obtain⟨b',_,_,_,_,_,e',-,hrg,hth,-⟩:=(HS.out w7 HR7.out.q).ent hil
    cases e'
    have hst:=pe (cs:=#[U 1,J (-5),T_,S_,J 0]) hth rfl (by simp [go_sem]);have HR8:Hid (SpL w F _ _):=HR7.out.over HF.out.1 (j:=i) HX.out.1 1 (-5) 0 ⟨#[]⟩;clear hrg hth HR7 HP5 HBx hC HR5;subst hB0;refine⟨rfl,?_⟩;unfold Oper.wp;rw [ic];simp [Act.eval,go_sem,hst,aV];refine ‹∀ (a:Act) (w:World),Code.wp Tryz.prog _ _ a w->_› _ _ ?_;clear hst;revert HR8;generalize World.setCells _ _ _ _=w8;intro HR8
    go_wp2_with fail
    go_roundw
    case rel=>exact⟨i+1,by go_num,by omega,HR8.out⟩
    case measure=>(rw [hwi];clear hwi;simp [intOf];omega)
  ·have hiz:¬ (i:Int)<(len:Int):=by omega
   have HQ:Hid (jK w F wr):=HR.out.q;clear HR
   go_wp2_with fail
   go_end0
   exact⟨rfl,HQ.out⟩
theorem fV (n:Nat):mw n:=by
 induction n with
 | zero=>exact jV 0 (fun m h=>by cases h)
 | succ n ih=>exact jV (n+1) (fun m h=>by cases h;exact ih)
end
section
def aU (d k h on ab:Int) (v:Val) (raw:Value):Array Value:=#[J d,U k,J h,J on,U ab,U v.kind,J v.n,.string v.s,raw,J v.r]
theorem bH {w:World} {b:Nat} {d k h on ab:Int} {v:Val} {raw:Value} (hg:w.heap[b]? = some (.cells (aU d k h on ab v raw) 49 (0,0))):(bp (R_ b 5)).run Tryz.prog w=.ok (.value (.agg (au v raw))) w:=by
 have:=aY (w:=w) (b:=b) (o:=5) (cs:=(au v raw).toList) (fun j y hj=>by
  rw [ag hg]
  match j,hj with
  | 0,hj=>exact hj
  | 1,hj=>exact hj
  | 2,hj=>exact hj
  | 3,hj=>exact hj
  | 4,hj=>exact hj
  | j+5,hj=>simp [au]at hj) (by simp [au])
 rw [Array.toArray_toList]at this;exact this
structure MdW (n n7:Nat) (d k h on ab:Int) (v vd:Val) (raw raw' rawd:Value) (F1:Nat->Prop) (w:World):Prop where
 lt:n<n7
 b5:w.heap[n]? = some (.cells (aU d k h on ab v raw) 49 (0,0))
 b7:w.heap[n7]? = some (.cells (au v raw') 27 (0,0))
 b12:w.heap[n7+1]? = some (.cells (au vd rawd) 27 (0,0))
 sl:SlAt w (fun b=>n+1≤b/\b<n7) raw' v.l
 sp:Sp w (fun b=>n+1≤b/\b<n7) 42 raw'
 sv:SlAt w F1 raw v.l
 sd:SlAt w F1 rawd vd.l
section
variable {n n7:Nat} {d k h on ab:Int} {v vd:Val} {raw raw' rawd:Value} {F1:Nat->Prop} {w w':World}
theorem MdW.keeps {S:Nat->Prop} (m:MdW n n7 d k h on ab v vd raw raw' rawd F1 w) (hk:Keeps S w w') (h1:∀ b,S b->b<n) (h2:∀ b,S b->¬ F1 b):MdW n n7 d k h on ab v vd raw raw' rawd F1 w' where
 lt:=m.lt
 b5:=hk.none m.b5 (fun e=>by have:=h1 _ e;omega)
 b7:=hk.none m.b7 (fun e=>by have:=h1 _ e;have:=m.lt;omega)
 b12:=hk.none m.b12 (fun e=>by have:=h1 _ e;have:=m.lt;omega)
 sl:=m.sl.keeps hk fun b hb hF=>by have:=h1 b hb;omega
 sp:=m.sp.keeps hk fun b hb hF=>by have:=h1 b hb;omega
 sv:=m.sv.keeps hk fun b hb hF=>h2 b hb hF
 sd:=m.sd.keeps hk fun b hb hF=>h2 b hb hF
theorem MdW.below (m:MdW n n7 d k h on ab v vd raw raw' rawd F1 w) (hb:Bl w w'):MdW n n7 d k h on ab v vd raw raw' rawd F1 w' :=
 m.keeps (S:=fun _=>False) (Keeps.of_below hb) (fun _ h=>h.elim) (fun _ h=>h.elim)
theorem MdW.zero (m:MdW n n7 d k h on ab v v raw raw' raw F1 w) (hF:∀ b,F1 b->b<n) (e:w'=w.setRow (n7+1) zV):MdW n n7 d k h on ab v ⟨0,0,⟨#[]⟩,[],0⟩ raw raw' (S_) F1 w'/\Below n w w':=by
 have hk:=aQ w (n7+1) zV;rw [<- e]at hk;have hlt:=m.lt;refine⟨⟨m.lt,hk.none m.b5 (fun e=>by have e':n=n7+1:=e;omega),hk.none m.b7 (fun e=>by have e':n7=n7+1:=e;omega),?_,m.sl.keeps hk fun b e hb=>by have e':b=n7+1:=e;omega,m.sp.keeps hk fun b e hb=>by have e':b=n7+1:=e;omega,?_,SlAt.nil _ _ _ _⟩,hk.below (by have:=aw m.b5;omega) fun b e=>by have e':b=n7+1:=e;omega⟩
 ·rw [e];exact ah m.b12
 ·exact m.sv.keeps hk fun b e hb=>by have e':b=n7+1:=e;have:=hF b hb;omega
end
theorem cz {a b c d:Int} (h:Ending.returned (.tuple #[J a,J b])=.returned (.tuple #[J c,J d])):a=c/\b=d:=by
 cases h
 exact⟨rfl,rfl⟩
theorem cO {w w':World} {q:Nat} {N:WM} {G:Nat->Prop} {k h:Int} {v:Val} {raw:Value} {e:Ending} (hm:dA w q N G k h v raw e w'):∃ r a,e=.returned (.tuple #[J r,J a]):=by
 rcases hm with ⟨-,rfl,-⟩ | ⟨-,⟨-,rfl,-⟩ | ⟨-,-,rfl,-⟩ | ⟨-,-,rfl,-⟩⟩ <;> exact⟨_,_,rfl⟩
theorem il {w w':World} {q:Nat} {N:WM} {G:Nat->Prop} {k h:Int} {v:Val} {raw:Value} {e:Ending} (hm:dA w q N G k h v raw e w'):Keeps G w w':=by
 rcases hm with ⟨-,-,h⟩ | ⟨-,⟨-,-,h⟩ | ⟨-,-,-,h⟩ | ⟨-,-,-,_,_,_,-,h,-⟩⟩
 ·exact Keeps.of_below h
 ·exact Keeps.of_below h
 ·exact Keeps.of_below h
 ·exact h
theorem jy {w:World} {q:Nat} {N:WM} {G:Nat->Prop} {t:Th} (h:IsR w q (N.add t) G):(aF t).all (·.oneCell')=true:=by
 obtain⟨sP,sC,sT,sM,h⟩:=h;have d:=h.deep (N.last+1) t (List.mem_append.2 (.inr (List.mem_singleton.2 rfl)));obtain⟨a,b,e⟩:=d.v.form;obtain⟨a',b',e'⟩:=d.vs.form;simp only [aF,d.code,d.names,e,e'];simp [go_sem]
theorem fA:(aJ []).wf:=.mk _ _ _ _ _ ⟨by decide,by decide⟩ (by simp [maxLen]) (fun x hx=>by cases hx) ⟨rfl,rfl⟩
theorem oe:ay (aJ [])=true:=by rfl
def dt (w:World) (p q:Nat) (M N:WM) (F G:Nat->Prop) (e:Ending) (w':World):Prop :=
 e=.returned (.bool true)/\∃ M' N' F' G',Both w' p q M' N' F' G'/\Adds M N M' N'/\Keeps (fun b=>F b\/G b) w w'/\(∀ b,F' b\/G' b->(F b\/G b)\/w.heap.size≤b)/\M'.last≤M.last+2/\M'.made.length=M.made.length/\M'.parents=M.parents
structure Md2 (w:World) (p q:Nat) (M N:WM) (F G:Nat->Prop) (w6:World):Prop where
 both:∃ M' N' F' G',Both w6 p q M' N' F' G'/\Adds M N M' N'/\(∀ b,F' b\/G' b->(F b\/G b)\/w.heap.size≤b)/\M'.last≤M.last+2/\M'.made.length=M.made.length/\M'.parents=M.parents
 keeps:Keeps (fun b=>F b\/G b) w w6
theorem Md2.no {w w5 w6:World} {p q:Nat} {M N:WM} {F G:Nat->Prop} (hB:Both w p q M N F G) (h5:Bl w w5) (h6:Bl w5 w6):Md2 w p q M N F G w6 :=
 ⟨⟨M,N,F,G,(hB.below h5).below h6,.inl ⟨rfl,rfl⟩,fun b h=>.inl h,by omega,rfl,rfl⟩,Keeps.of_below (h5.trans (h6.mono h5.size))⟩
theorem Md2.one {w w5 w6:World} {p q:Nat} {M N:WM} {F G F' G':Nat->Prop} {t t':Th} (hB:Both w p q M N F G) (hW:IsW w5 p (M.add t) F') (hg:Grew F w F' w5) (hR:IsR w6 q (N.add t') G') (hk:Keeps G w5 w6) (hG':∀ b,G' b->G b\/w5.heap.size≤b)
 (ht:ThLike t t') (hone:(aF t').all (·.oneCell')=true) (hmay:ay t.v=true/\(∀ v ∈ t.vs,ay v=true)/\t.vs.length≤1000) (hwf:t.v.wf/\(aJ t.vs).wf) (hkp:t.kind=11->t.tgt≤M.last+1) (hp:PlT M t) (hn:fW t'):Md2 w p q M N F G w6:=by
 have hFG:∀ b,F' b->¬ G b:=fun b h1 h2=>(hg.2 b h1).elim (fun h=>hB.ap b h h2) fun h=>by have:=hB.R.lt b h2;omega
 refine⟨⟨_,_,F',G',hB.add (hW.keeps hk hFG) hR (fun b h1 h2=>(hG' b h2).elim (hFG b h1) fun h=>by have:=hW.lt b h1;omega) ht hone hmay hwf hkp,.inr (.inl ⟨t,t',rfl,rfl,hp,hn⟩),fun b h=>h.elim (fun h=>(hg.2 b h).imp .inl id) (fun h=>(hG' b h).imp .inr fun h=>Nat.le_trans hg.1.size h),by show M.last+1≤M.last+2;omega,?_,rfl⟩,hg.1.trans hk (fun _ _ h=>.inl h) (fun _ _ h=>.inr h)⟩;show (if t.kind=14 then M.made else M.made.set t.home.toNat (M.made.getD t.home.toNat 0+1)).length=M.made.length
 split
 ·rfl
 ·rw [List.length_set]
theorem Md2.two {w w5 w6:World} {p q:Nat} {M N:WM} {F G F' G':Nat->Prop} {t1 t2:Th} (hB:Both w p q M N F G) (hW:IsW w5 p ((M.add t1).add t2) F') (hg:Grew F w F' w5) (hR:IsR w6 q ((N.add t1).add t2) G') (hk:Keeps G w5 w6) (hG':∀ b,G' b->G b\/w5.heap.size≤b)
 (hall:∀ t,t=t1\/t=t2->(aF t).all (·.oneCell')=true/\(ay t.v=true/\(∀ v ∈ t.vs,ay v=true)/\t.vs.length≤1000)/\(t.v.wf/\(aJ t.vs).wf)/\(t.kind=11->t.tgt≤M.last+1+1)) (hp:PlT M t1/\PlT (M.add t1) t2/\fW t1/\fW t2):Md2 w p q M N F G w6:=by
 have hFG:∀ b,F' b->¬ G b:=fun b h1 h2=>(hg.2 b h1).elim (fun h=>hB.ap b h h2) fun h=>by have:=hB.R.lt b h2;omega
 have cases3:∀ {L:List (Int × Th)} {a b:Int} {x:Int × Th},x ∈ (L ++ [(a,t1)]) ++ [(b,t2)]->x ∈ L\/x.2=t1\/x.2=t2:=fun {L a b x} hx=>by
  rcases List.mem_append.1 hx with hx | hx
  ·rcases List.mem_append.1 hx with hx | hx
   ·exact .inl hx
   ·exact .inr (.inl (by rw [List.mem_singleton.1 hx]))
  ·exact .inr (.inr (by rw [List.mem_singleton.1 hx]))
 refine⟨⟨_,_,F',G',{
  W:=hW.keeps hk hFG
  R:=hR
  ap:=fun b h1 h2=>(hG' b h2).elim (hFG b h1) fun h=>by have:=hW.lt b h1;omega
  al:=(hB.al.add ⟨_,_,rfl⟩).add ⟨_,_,rfl⟩
  one:=fun x hx=>(cases3 (show x ∈ (N.things ++ [(N.last+1,t1)]) ++ [((N.add t1).last+1,t2)]from hx)).elim (hB.one x) fun h=>(hall x.2 h).1
  may:=fun r u hu=>(cases3 (show (r,u) ∈ (M.things ++ [(M.last+1,t1)]) ++ [((M.add t1).last+1,t2)]from cK hu)).elim (fun h=>hB.may r u (hB.W.ok.at_of_mem h)) fun h=>(hall u h).2.1
  wfs:=fun x hx=>(cases3 (show x ∈ (M.things ++ [(M.last+1,t1)]) ++ [((M.add t1).last+1,t2)]from hx)).elim (hB.wfs x) fun h=>(hall x.2 h).2.2.1
  cutM:=hB.cutM
  cutN:=hB.cutN
  cutL:=hB.cutL
  kp:=fun r u hu hk=>by
   show u.tgt≤M.last+1+1
   rcases cases3 (show (r,u) ∈ (M.things ++ [(M.last+1,t1)]) ++ [((M.add t1).last+1,t2)]from cK hu)with h | h
   ·have:=hB.kp r u (hB.W.ok.at_of_mem h) hk;omega
   ·exact(hall u h).2.2.2 hk },.inr (.inr ⟨t1,t2,rfl,rfl,hp⟩),fun b h=>h.elim (fun h=>(hg.2 b h).imp .inl id) (fun h=>(hG' b h).imp .inr fun h=>Nat.le_trans hg.1.size h),by show M.last+1+1≤M.last+2;omega,?_,rfl⟩,hg.1.trans hk (fun _ _ h=>.inl h) (fun _ _ h=>.inr h)⟩
 have hl:∀ (M:WM) (t:Th),(M.add t).made.length=M.made.length:=fun M t=>by
  show (if t.kind=14 then M.made else M.made.set t.home.toNat (M.made.getD t.home.toNat 0+1)).length=M.made.length
  split
  ·rfl
  ·rw [List.length_set]
 rw [hl,hl]
theorem Md2.done {w w4 w6 w7 w8:World} {p q n n7:Nat} {M N:WM} {F G:Nat->Prop} (hn:n=w.heap.size) (h4:Bl w w4) (h6:Md2 w4 p q M N F G w6) (hF:∀ b,F b\/G b->b<w.heap.size) (h47:n7≤w4.heap.size) (h7:Bl w6 w7) (h8:Keeps (fun b=>n+1≤b/\b<n7) w7 w8):dt w p q M N F G (.returned (.bool true)) w8:=by
 obtain⟨⟨M',N',F',G',hB,hA,hg,h1,h2,h3⟩,hk⟩:=h6;have hs:∀ b,F' b\/G' b->¬ (n+1≤b/\b<n7):=fun b hb=>fun⟨a1,a2⟩=>(hg b hb).elim (fun h=>by have:=hF b h;omega) fun h=>by omega
 refine⟨rfl,M',N',F',G',(hB.below h7).keeps h8 (fun b h=>hs b (.inl h)) (fun b h=>hs b (.inr h)),hA,?_,fun b h=>(hg b h).imp id fun h=>Nat.le_trans h4.size h,h1,h2,h3⟩;refine((Keeps.of_below (S:=fun b=>F b\/G b) h4).trans hk (fun _ _ h=>h) (fun _ _ h=>h)).trans ((Keeps.of_below (S:=fun b=>n+1≤b/\b<n7) h7).trans h8 (fun _ _ h=>h) (fun _ _ h=>h)) (fun _ _ h=>h) (fun b hb h=>by omega)
end
end Go.Proofs.YthaliljaglldjaaGreat
