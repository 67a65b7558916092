/- Part of the proof. -/
import Derived.Test.YthaliljaglldjaaGreatmAB
import Derived.Deep.MidRow
import Derived.Deep.CutBlock
import Derived.Deep.DeepCutAuto
namespace Go.Proofs.YthaliljaglldjaaGreat
set_option maxHeartbeats 16000000
set_option maxRecDepth 20000
open Go.RowKit Go.ChangeMaps Go.MapKept
section
def au (v:Val) (raw:Value):Array Value:=#[U v.kind,J v.n,.string v.s,raw,J v.r]
def dC (n:Int) (s:ByteArray) (r:Int) (len:Nat):Bool:=n==0 && (s == ⟨#[]⟩ && (r==0 && len==0))
def ei (rec:Nat->List Val->Option Nat) (p:Nat) (v:Val):Option Nat :=
 match p with
 | 0=>none
 | p+1 =>
   if v.kind=0 then (if dC v.n v.s v.r v.l.length then some p else none)
   else if v.kind=1 then (if dC 0 v.s v.r v.l.length then some p else none)
   else if v.kind=2 then (if v.s.size > 256 then none else if dC v.n ⟨#[]⟩ v.r v.l.length then some p else none)
   else if v.kind=4 then (if v.r<1 then none else if dC v.n v.s 0 v.l.length then some p else none)
   else if v.kind=3 then (match rec p v.l with | none=>none | some q=>if dC v.n v.s v.r 0 then some q else none)
   else none
def aP:Nat->Nat->Val->Option Nat
 | 0,p,v=>ei (fun _ _=>none) p v
 | n+1,p,v=>ei (fun p l=>if l.length > p then none else l.foldlM (aP n) p) p v
def bc (n p:Nat) (l:List Val):Option Nat:=l.foldlM (aP n) p
theorem dU {n:Nat} (ih:∀ p v q,aP n p v=some q->q≤p):∀ (l:List Val) (p q:Nat),bc n p l=some q->q≤p
 | [],p,q,h=>by
   simp [bc]at h;omega
 | x :: l,p,q,h=>by
   simp only [bc,List.foldlM_cons,bind,Option.bind_eq_some_iff]at h;obtain⟨a,h1,h2⟩:=h;have:=ih _ _ _ h1;have:=dU ih l a q h2;omega
theorem mK {rec:Nat->List Val->Option Nat} (hr:∀ p l q,rec p l=some q->q≤p) {p:Nat} {v:Val} {q:Nat} (h:ei rec p v=some q):q<p:=by
 unfold ei at h;split at h
 ·cases h
 ·repeat' split at h
  all_goals first
   | (cases h;omega)
   | (cases h;done)
   | (cases h;have:=hr _ _ _ (by assumption);omega)
theorem bJ:∀ {n p:Nat} {v:Val} {q:Nat},aP n p v=some q->q<p
 | 0,_,_,_,h=>mK (fun _ _ _ h=>by cases h) h
 | n+1,_,_,_,h=>mK (fun p l q h=>by
     split at h
     ·cases h
     ·exact dU (fun p v q h=>Nat.le_of_lt (bJ h)) l p q h) h
theorem ea {n p:Nat} {l:List Val} {i q:Nat} {x:Val} (hx:l[i]? = some x) (h:bc n p (l.take i)=some q):bc n p (l.take (i+1))=aP n q x:=by
 rw [List.take_add_one,hx];show (l.take i ++ [x]).foldlM _ _=_;rw [List.foldlM_append];show (bc n p (l.take i)).bind _=_;rw [h];show (List.foldlM (aP n) q [x])=_;rw [List.foldlM_cons];show (aP n q x).bind _=_
 cases aP n q x <;> rfl
theorem fv {n p:Nat} {l:List Val} {i:Nat} (h:bc n p (l.take i)=none):bc n p l=none:=by
 have:bc n p (l.take i ++ l.drop i)=none:=by
  show (l.take i ++ l.drop i).foldlM _ _=_;rw [List.foldlM_append];show (bc n p (l.take i)).bind _=_;rw [h];rfl
 rwa [List.take_append_drop]at this
def bp (a:Value):Sem Next:=do pure (.value (← Instr.loadAt 27 a))
theorem aY {w:World} {b o:Nat} {cs:List Value} (hc:w.rangeAt b o cs) (hs:cs.length=5):(bp (R_ b o)).run Tryz.prog w=.ok (.value (.agg cs.toArray)) w:=by
 have:=run_loadAt_mid w b o 27 cs _ hc Tryz.underlying27 rfl (by rw [hs];exact dh);simp only [bp,Sem.run_bind,this,Result.andThen,Sem.run_pure]
theorem SlAt.range {w:World} {F:Nat->Prop} {s:Value} {l:List Val} (h:SlAt w F s l) {i:Nat} {v:Val} (hv:l[i]? = some v) :
 ∃ b o c raw,s=.slice (some ⟨b,o,none⟩) l.length c/\w.rangeAt b (o+i * 5) (au v raw).toList/\b<w.heap.size/\F b/\SlAt w F raw v.l:=by
 cases h with
 | mk pa c l raw hcp h hr =>
   obtain⟨b,o,h1,h2,h4,h5,h6,h7,h8⟩:=h i v hv;refine⟨b,o,c,raw i,by rw [h1],fun j x hj=>?_,World.block_lt_of_cell? _ _ h4,h2,hr i v hv⟩;have e:∀ k,o+i * 5+k=o+5 * i+k:=fun k=>by omega
   rw [e]
   match j,hj with
   | 0,hj=>cases hj;exact h4
   | 1,hj=>cases hj;exact h5
   | 2,hj=>cases hj;exact h6
   | 3,hj=>cases hj;exact h7
   | 4,hj=>cases hj;exact h8
theorem SlAt.form {w:World} {F:Nat->Prop} {s:Value} {l:List Val} (h:SlAt w F s l):∃ pa c,s=.slice pa l.length c:=by
 cases h with
 | mk pa c l raw hcp h hr=>exact⟨pa,c,rfl⟩
theorem SlAt.keeps {w w':World} {F:Nat->Prop} {S:Nat->Prop} {s:Value} {l:List Val} (h:SlAt w F s l) (hk:Keeps S w w') (hS:∀ b,S b->F b->False):SlAt w' F s l:=by
 induction h with
 | mk pa c l raw hcp h hr ih =>
   refine .mk pa c l raw hcp (fun i v hv=>?_) ih;obtain⟨b,o,h1,h2,h4,h5,h6,h7,h8⟩:=h i v hv;have e:=hk.block b (World.block_lt_of_cell? _ _ h4) (fun hs=>hS b hs h2)
   exact⟨b,o,h1,h2,(World.cell?_of_block (a:=⟨b,o+5 * i,none⟩) e).trans h4,(World.cell?_of_block (a:=⟨b,o+5 * i+1,none⟩) e).trans h5,
    (World.cell?_of_block (a:=⟨b,o+5 * i+2,none⟩) e).trans h6,(World.cell?_of_block (a:=⟨b,o+5 * i+3,none⟩) e).trans h7,(World.cell?_of_block (a:=⟨b,o+5 * i+4,none⟩) e).trans h8⟩
theorem SlAt.on {w w':World} {F:Nat->Prop} {s:Value} {l:List Val} (h:SlAt w F s l) (hb:Bl w w'):SlAt w' F s l :=
 h.keeps (S:=fun _=>False) (Keeps.of_below hb) (fun _ h _=>h)
theorem SlAt.mono {w:World} {F F':Nat->Prop} {s:Value} {l:List Val} (h:SlAt w F s l) (hF:∀ b,F b->F' b):SlAt w F' s l:=h.of_blocks (fun _ _=>rfl) hF
theorem SlAt.lt {w:World} {F:Nat->Prop} {s:Value} {l:List Val} (h:SlAt w F s l):SlAt w (fun b=>F b/\b<w.heap.size) s l:=by
 induction h with
 | mk pa c l raw hcp h hr ih =>
   refine .mk pa c l raw hcp (fun i v hv=>?_) ih;obtain⟨b,o,h1,h2,h4,h5,h6,h7,h8⟩:=h i v hv;exact⟨b,o,h1,⟨h2,World.block_lt_of_cell? _ _ h4⟩,h4,h5,h6,h7,h8⟩
theorem SlT.at {w:World} {F:Nat->Prop} {s:Value} {l:List Val} (h:SlT w F s l):SlAt w F s l:=by
 induction h with
 | zero pa c h0=>exact SlAt.nil _ _ _ _ h0
 | mk b c cs l raw hcp hF hb h hr ih =>
   refine .mk _ c l raw ⟨hcp,fun h=>by cases h⟩ (fun i v hv=>?_) ih;obtain⟨h0,h1,h2,h3,h4⟩:=h i v hv;have e:∀ k,w.cell? ⟨b,0+5 * i+k,none⟩=cs[5 * i+k]?:=fun k=>by rw [ag hb,Nat.zero_add]
   exact⟨b,0,rfl,hF,(e 0).trans h0,(e 1).trans h1,(e 2).trans h2,(e 3).trans h3,(e 4).trans h4⟩
theorem SlT.form {w:World} {F:Nat->Prop} {s:Value} {l:List Val} (h:SlT w F s l):∃ pa c,s=.slice pa l.length c:=h.at.form
theorem SlT.mono {w:World} {F F':Nat->Prop} {s:Value} {l:List Val} (h:SlT w F s l) (hF:∀ b,F b->F' b):SlT w F' s l:=h.of_blocks (fun _ _ _ _ _ _ _=>rfl) hF
theorem SlT.monoLt {w:World} {F F':Nat->Prop} {s:Value} {l:List Val} (h:SlT w F s l) (hF:∀ b,F b->b<w.heap.size->F' b):SlT w F' s l:=by
 induction h with
 | zero pa c h0=>exact .zero pa c h0
 | mk b c cs l raw hcp hFb hbk h hr ih=>exact .mk b c cs l raw hcp (hF b hFb (aw hbk)) hbk h ih
theorem SlT.on {w w':World} {F:Nat->Prop} {s:Value} {l:List Val} (h:SlT w F s l) (hb:Bl w w'):SlT w' F s l :=
 (h.monoLt (F':=fun b=>F b/\b<w.heap.size) fun _ h1 h2=>⟨h1,h2⟩).of_blocks (Lists.of fun b hF=>hb.block b hF.2) fun _ h=>h.1
theorem SlAt.room {w:World} {F:Nat->Prop} {pa:Option Addr} {n c:Nat} {l:List Val} (h:SlAt w F (.slice pa n c) l):n≤c/\(pa=none->c=0):=by
 generalize hs:Value.slice pa n c=s at h
 cases h with
 | mk pa' c0 l raw hcp h hr =>
   cases hs
   exact hcp
theorem SlT.lt {w:World} {F:Nat->Prop} {s:Value} {l:List Val} (h:SlT w F s l):SlT w (fun b=>F b/\b<w.heap.size) s l:=h.monoLt fun _ h1 h2=>⟨h1,h2⟩
theorem SlT.ne {w:World} {F:Nat->Prop} {s:Value} {l:List Val} (h:SlT w F s l) {b:Nat} {A:Array Value} {ty:TypeId} {fr:Nat × Nat} (hb:w.heap[b]? = some (.cells A ty fr)) (hty:ty≠27):SlT w (fun x=>F x/\x≠b) s l:=by
 induction h with
 | zero pa c h0=>exact .zero pa c h0
 | mk x c cs l raw hcp hFb hbk h hr ih =>
   refine .mk x c cs l raw hcp ⟨hFb,fun e=>?_⟩ hbk h ih;subst e;rw [hb]at hbk
   cases hbk
   exact hty rfl
theorem SlT.keeps {w w':World} {F:Nat->Prop} {S:Nat->Prop} {s:Value} {l:List Val} (h:SlT w F s l) (hk:Keeps S w w') (hS:∀ b,S b->F b->False):SlT w' F s l :=
 h.lt.of_blocks (Lists.of fun b hF=>hk.block b hF.2 fun hs=>hS b hs hF.1) fun _ h=>h.1
theorem ma:bX 71 27 70 bp:=fun _ _ _ _ _=>rfl
def fP (w:World) (lb nest:Nat) (r:Option Nat) (e:Ending) (w':World):Prop :=
 e=.returned (.bool r.isSome)/\Keeps (fun b=>b=lb) w w'/\∀ q,r=some q->w'.heap[lb]? = some (.cells #[J q,J nest] 302 (0,0))
section
variable {n p:Nat} {v:Val}
theorem sq (h:v.kind=0):aP n (p+1) v=if dC v.n v.s v.r v.l.length then some p else none:=by
 cases n <;> simp [aP,ei,h]
theorem sw (h:v.kind=1):aP n (p+1) v=if dC 0 v.s v.r v.l.length then some p else none:=by
 cases n <;> simp [aP,ei,h]
theorem so (h:v.kind=2):aP n (p+1) v=if v.s.size > 256 then none else if dC v.n ⟨#[]⟩ v.r v.l.length then some p else none:=by
 cases n <;> simp [aP,ei,h]
theorem sr (h:v.kind=4):aP n (p+1) v=if v.r<1 then none else if dC v.n v.s 0 v.l.length then some p else none:=by
 cases n <;> simp [aP,ei,h]
theorem uG (h:v.kind=3):aP 0 (p+1) v=none:=by
 simp [aP,ei,h]
theorem nh (h:v.kind=3) (hl:v.l.length > p):aP (n+1) (p+1) v=none:=by
 simp [aP,ei,h,hl]
theorem uI (h:v.kind=3) (hl:¬ v.l.length > p):aP (n+1) (p+1) v=(match bc n p v.l with | none=>none | some q=>if dC v.n v.s v.r 0 then some q else none):=by
 simp only [aP,ei,h,hl];rfl
theorem wS (h0:v.kind≠0) (h1:v.kind≠1) (h2:v.kind≠2) (h3:v.kind≠3) (h4:v.kind≠4):aP n (p+1) v=none:=by
 cases n <;> simp [aP,ei,h0,h1,h2,h3,h4]
end
theorem Keeps.alloc {S:Nat->Prop} {w w':World} (h:Keeps S w w') (o:Obj):Keeps S w (w'.alloc o):=h.then_below (br.alloc aH _)
def SwR (w:World) (lb nest cpb:Nat) (kind:Int) (res:Option Nat) (n:Int) (s:ByteArray) (r:Int) (pa:Option Addr) (len c q:Nat) (wx:World):Prop :=
 wx.heap[cpb]? = some (.cells (V_ kind n s (.slice pa len c) r) 27 (0,0))/\Keeps (fun b=>b=lb) w wx/\wx.heap[lb]? = some (.cells #[J q,J nest] 302 (0,0)) /\
  res=if dC n s r len then some q else none
theorem SwR.turn {w w2:World} {lb nest cpb:Nat} {kind n r n' r':Int} {s s':ByteArray} {pa pa':Option Addr} {len c len' c' q:Nat} {res res':Option Nat} (h:SwR w lb nest cpb kind res n s r pa len c q w2) (hcp:w.heap.size≤cpb) (hne:lb≠cpb) (i:Nat) (x:Value)
 (hcs:((V_ kind n s (.slice pa len c) r):Array Value).setIfInBounds i x=#[.int .u8 kind,.int .i64 n',.string s',.slice pa' len' c',.int .i64 r']) (hres:res'=if dC n' s' r' len' then some q else none) :
 SwR w lb nest cpb kind res' n' s' r' pa' len' c' q (w2.setCell ⟨cpb,i,none⟩ x):=by
 obtain⟨h1,h2,h3,-⟩:=h;refine⟨by rw [aA h1,hcs],h2.trans (Keeps.setCell (S:=fun b=>b=cpb) w2 ⟨cpb,i,none⟩ x rfl) (fun _ _ h=>h) (fun y hy e=>by omega),?_,hres⟩;rw [<- h3];exact Below.heap_setCell w2 ⟨cpb,i,none⟩ x lb hne
theorem Keeps.drewN {S:Nat->Prop} {a b:World} (h:Keeps S a b) (m:Nat):Keeps S a (b.drewN m):=⟨h.os,h.tape,h.output,h.size,h.block⟩
def zS (w:World) (lb nest p cpb:Nat) (F:Nat->Prop) (A:Array Value) (sl:Value) (l:List Val) (i q:Nat) (wx:World):Prop :=
 bc nest p (l.take i)=some q/\wx.heap[lb]? = some (.cells #[J q,J nest] 302 (0,0))/\Keeps (fun b=>b=lb) w wx/\wx.heap[cpb]? = some (.cells A 27 (0,0))/\SlAt wx F sl l/\lb≠cpb
def ux (nest:Nat):Prop:=∀ (p:Nat) (v:Val) (raw:Value) (w:World) (lb:Nat) (F:Nat->Prop),nest≤16->p≤512->¬ F lb->SlAt w F raw v.l->w.heap[lb]? = some (.cells #[J p,J nest] 302 (0,0)) ->
    Calls Tryz.prog 259 #[P_ lb,.agg (au v raw)] w (fP w lb nest (aP nest p v))
attribute [local go_sem ↓] ma in
theorem kH (nest:Nat) (ih:∀ m,nest=m+1->ux m):ux nest:=by
 intro p v raw w lb F hn hp hlF hS hlb;have HlF:Hid (¬ F lb):=hlF;clear hlF;obtain⟨pa,c,rfl⟩:=hS.form;obtain⟨kind,n,s,l,r⟩:=v;simp only [au];have HS:Hid (SlAt w F (Value.slice pa l.length c) l):=hS;have Hlb:Hid (w.heap[lb]? = some (.cells #[J p,J ((nest:Nat):Int)] 302 (0,0))):=hlb;have IH:Hid _:=ih;have hlt:=aw hlb;have d0:w.cell? ⟨lb,0,none⟩=some (.int .i64 p):=by rw [ag hlb];rfl
 have f0:=av hlb 0;clear hS hlb ih
 cases p with
 | zero =>
   have hR:Hid (fP w lb nest (aP nest 0 ⟨kind,n,s,l,r⟩) (.returned (.bool false)) (w.alloc (.cells (V_ kind n s (.slice pa l.length c) r) 27))):=⟨by cases nest <;> rfl,(Keeps.refl _ _).alloc _,fun q h=>by cases nest <;> cases h⟩
   clear HS Hlb IH;have d0:w.cell? ⟨lb,0,none⟩=some (.int .i64 0):=d0
   go_enter Tryz.func259,Tryz.ntmps259
   go_wp2_with fail
   go_ret
   exact hR.out
 | succ p =>
   have hpz:¬ (((p+1:Nat):Int)=0):=by omega
   have H2:Hid (∀ w2,w2=((w.setCell ⟨lb,0,none⟩ (J p)).alloc (.cells (V_ kind n s (.slice pa l.length c) r) 27)).alloc (.cells (V_ kind n s (.slice pa l.length c) r) 27) ->
    w2.heap.size=w.heap.size+2/\w2.heap[w.heap.size]? = some (.cells (V_ kind n s (.slice pa l.length c) r) 27 (0,0))/\SwR w lb nest (w.heap.size+1) kind (if dC n s r l.length then some p else none) n s r pa l.length c p w2):=by
    intro w2 e;subst e;have hl0:(w.setCell ⟨lb,0,none⟩ (J p)).heap[lb]? = some (.cells #[J p,J ((nest:Nat):Int)] 302 (0,0)):=by rw [aA Hlb.out];rfl
    refine⟨by simp,?_,?_,((Keeps.setCell (S:=fun b=>b=lb) w ⟨lb,0,none⟩ (J p) rfl).alloc _).alloc _,aG _ _ (aG _ _ hl0),rfl⟩
    ·have:=aL (w.setCell ⟨lb,0,none⟩ (J p)) (.cells (V_ kind n s (.slice pa l.length c) r) 27) (.cells (V_ kind n s (.slice pa l.length c) r) 27)
     rwa [World.size_setCell]at this
    ·have:=aK (w.setCell ⟨lb,0,none⟩ (J p)) (.cells (V_ kind n s (.slice pa l.length c) r) 27) (.cells (V_ kind n s (.slice pa l.length c) r) 27)
     rwa [World.size_setCell]at this
   go_enter Tryz.func259,Tryz.ntmps259
   go_upto_block 0 with fail
   revert H2;generalize ((w.setCell _ _).alloc _).alloc _=w2;intro H2;obtain⟨hsz2,hb3,hsw⟩:=H2.out w2 rfl;have HB3:Hid _:=hb3;have HSW:Hid (SwR w lb nest (w.heap.size+1) kind (if dC n s r l.length then some p else none) n s r pa l.length c p w2):=hsw
   have k0:w2.cell? ⟨w.heap.size,0,none⟩=some (.int .u8 kind):=by rw [ag hb3];rfl
   clear H2 d0 f0 hsw hb3
   go_cut [] (fun wx=>∃ n' s' r' pa' len' c' q,Hid (SwR w lb nest (w.heap.size+1) kind (aP nest (p+1) ⟨kind,n,s,l,r⟩) n' s' r' pa' len' c' q wx))
   case first =>
    have hcp:w.heap.size+1≠lb:=by omega
    have n1:(w.heap.size+1:Nat)≠w.heap.size:=by omega
    have cp1:w2.cell? ⟨w.heap.size+1,1,none⟩=some (.int .i64 n):=by rw [ag HSW.out.1];rfl
    have cp2:w2.cell? ⟨w.heap.size+1,2,none⟩=some (.string s):=by rw [ag HSW.out.1];rfl
    have cp3:w2.cell? ⟨w.heap.size+1,3,none⟩=some (.slice pa l.length c):=by rw [ag HSW.out.1];rfl
    have cp4:w2.cell? ⟨w.heap.size+1,4,none⟩=some (.int .i64 r):=by rw [ag HSW.out.1];rfl
    have g1:=av HSW.out.1 1;have g2:=av HSW.out.1 2;have g3:=av HSW.out.1 3;have g4:=av HSW.out.1 4
    by_cases e0:kind=0
    ·have HA:Hid (SwR w lb nest (w.heap.size+1) kind (aP nest (p+1) ⟨kind,n,s,l,r⟩) n s r pa l.length c p w2):=⟨HSW.out.1,HSW.out.2.1,HSW.out.2.2.1,sq (v:=⟨kind,n,s,l,r⟩) e0⟩;subst e0;clear IH HS Hlb
     go_wp2_with fail
     go_meet
     case rel=>exact⟨_,_,_,_,_,_,_,HA⟩
    have hlc:lb≠w.heap.size+1:=fun e=>hcp e.symm
    by_cases e1:kind=1
    ·have HA:Hid _:=HSW.out.turn (Nat.le_succ _) hlc 1 (J 0) rfl (sw (n:=nest) (p:=p) (v:=⟨kind,n,s,l,r⟩) e1);subst e1;clear IH HS Hlb
     go_wp2_with fail
     go_meet
     case rel=>exact⟨_,_,_,_,_,_,_,HA⟩
    have e1':(kind==1)=false:=by simpa using e1
    by_cases e2:kind=2
    ·have k2:w2.cell? ⟨w.heap.size,2,none⟩=some (.string s):=by rw [ag HB3.out];rfl
     by_cases hs:s.size > 256
     ·have hsz:(s.size:Int) > 256:=by omega
      have HT:Hid (fP w lb nest (aP nest (p+1) ⟨kind,n,s,l,r⟩) (.returned (.bool false)) w2):=by
       rw [show aP nest (p+1) ⟨kind,n,s,l,r⟩=none from(so (v:=⟨kind,n,s,l,r⟩) e2).trans (if_pos hs)];exact⟨rfl,HSW.out.2.1,fun q h=>by cases h⟩
      subst e2;clear IH HS Hlb HSW HB3
      go_wp2_with fail
      go_ret
      exact HT.out
     ·have hsz:¬ (s.size:Int) > 256:=by omega
      have HA:Hid _:=HSW.out.turn (Nat.le_succ _) hlc 2 (T_) rfl ((so (n:=nest) (p:=p) (v:=⟨kind,n,s,l,r⟩) e2).trans (if_neg hs));subst e2;clear IH HS Hlb
      go_wp2_with fail
      go_meet
      case rel=>exact⟨_,_,_,_,_,_,_,HA⟩
    by_cases e4:kind=4
    ·have k4:w2.cell? ⟨w.heap.size,4,none⟩=some (.int .i64 r):=by rw [ag HB3.out];rfl
     by_cases hs:r<1
     ·have HT:Hid (fP w lb nest (aP nest (p+1) ⟨kind,n,s,l,r⟩) (.returned (.bool false)) w2):=by
       rw [show aP nest (p+1) ⟨kind,n,s,l,r⟩=none from(sr (v:=⟨kind,n,s,l,r⟩) e4).trans (if_pos hs)];exact⟨rfl,HSW.out.2.1,fun q h=>by cases h⟩
      subst e4;clear IH HS Hlb HSW HB3
      go_wp2_with fail
      go_ret
      exact HT.out
     ·have HA:Hid _:=HSW.out.turn (Nat.le_succ _) hlc 4 (J 0) rfl ((sr (n:=nest) (p:=p) (v:=⟨kind,n,s,l,r⟩) e4).trans (if_neg hs));subst e4;clear IH HS Hlb
      go_wp2_with fail
      go_meet
      case rel=>exact⟨_,_,_,_,_,_,_,HA⟩
    have e0':(kind==0)=false:=by simpa using e0
    have e2':(kind==2)=false:=by simpa using e2
    have e4':(kind==4)=false:=by simpa using e4
    by_cases e3:kind=3
    rotate_left
    ·have e3':(kind==3)=false:=by simpa using e3
     have HT:Hid (fP w lb nest (aP nest (p+1) ⟨kind,n,s,l,r⟩) (.returned (.bool false)) w2):=by
      rw [show aP nest (p+1) ⟨kind,n,s,l,r⟩=none from wS (v:=⟨kind,n,s,l,r⟩) e0 e1 e2 e3 e4];exact⟨rfl,HSW.out.2.1,fun q h=>by cases h⟩
     clear IH HS Hlb HSW HB3 e0 e1 e2 e3 e4
     go_wp2_with fail
     go_ret
     exact HT.out
    subst e3;clear e0 e1 e2 e4 e0' e1' e2' e4';have k3:w2.cell? ⟨w.heap.size,3,none⟩=some (.slice pa l.length c):=by rw [ag HB3.out];rfl
    have l0:w2.cell? ⟨lb,0,none⟩=some (.int .i64 p):=by rw [ag HSW.out.2.2.1];rfl
    have l1:w2.cell? ⟨lb,1,none⟩=some (.int .i64 nest):=by rw [ag HSW.out.2.2.1];rfl
    have m1:=av HSW.out.2.2.1 1
    cases nest with
    | zero =>
      have HT:Hid (∀ m,fP w lb 0 (aP 0 (p+1) ⟨3,n,s,l,r⟩) (.returned (.bool false)) (w2.drewN m)):=by
       intro m;rw [uG (v:=⟨3,n,s,l,r⟩) rfl];exact⟨rfl,HSW.out.2.1.drewN m,fun q h=>by cases h⟩
      have l1:w2.cell? ⟨lb,1,none⟩=some (.int .i64 0):=l1;clear IH HS Hlb HSW HB3
      go_upto_region 19 with fail
      go_quiet (fail)
      go_wp2_with fail
      go_ret
      exact HT.out _
    | succ nest =>
      have hnz:¬ (((nest+1:Nat):Int)=0):=by omega
      by_cases hl:l.length > p
      ·have hlz:(l.length:Int) > (p:Int):=by omega
       have HT:Hid (∀ m,fP w lb (nest+1) (aP (nest+1) (p+1) ⟨3,n,s,l,r⟩) (.returned (.bool false)) (w2.drewN m)):=by
        intro m;rw [nh (v:=⟨3,n,s,l,r⟩) rfl hl];exact⟨rfl,HSW.out.2.1.drewN m,fun q h=>by cases h⟩
       clear IH HS Hlb HSW HB3
       go_upto_region 19 with fail
       go_quiet (fail)
       go_wp2_with fail
       go_ret
       exact HT.out _
      ·have hlz:¬ (l.length:Int) > (p:Int):=by omega
       have HL:Hid (∀ m,zS w lb nest p (w.heap.size+1) F (V_ 3 n s (.slice pa l.length c) r) (.slice pa l.length c) l 0 p ((w2.drewN m).setCell ⟨lb,1,none⟩ (J nest))):=by
        intro m;obtain⟨h1,h2,h3,-⟩:=HSW.out;have hk:Keeps (fun b=>b=lb) w ((w2.drewN m).setCell ⟨lb,1,none⟩ (J nest)):=(h2.drewN m).trans (Keeps.setCell (S:=fun b=>b=lb) _ _ _ rfl) (fun _ _ h=>h) (fun _ _ h=>h);refine⟨rfl,?_,hk,?_,HS.out.keeps hk (fun b e hb=>HlF.out (e ▸ hb)),hlc⟩
        ·have:(w2.drewN m).heap[lb]? = some (.cells #[J p,J ((nest+1:Nat):Int)] 302 (0,0)):=h3;rw [aA this];rfl
        ·rw [Below.heap_setCell (w2.drewN m) ⟨lb,1,none⟩ (J nest) (w.heap.size+1) hcp];exact h1
       have Hp:Hid (p≤512/\l.length≤512):=⟨by omega,by omega⟩;have Hr3:Hid (aP (nest+1) (p+1) ⟨3,n,s,l,r⟩=(match bc nest p l with | none=>none | some q=>if dC n s r 0 then some q else none)):=uI (v:=⟨3,n,s,l,r⟩) rfl hl
       clear HS Hlb HSW HB3 cp1 cp2 cp3 cp4 g1 g2 g3 g4 hcp n1 hsz2
       go_upto_region 19 with fail
       go_quiet (fail)
       go_wp2_with fail
       clear l0 l1 m1 k3 k0 hlz hl;have HL:Hid _:=HL.out nq;revert HL;generalize (w2.drewN nq).setCell _ _=w4;intro HL
       go_loopw [68] (fun vi wx=>∃ (i q:Nat),vi=J i/\i≤l.length/\Hid (zS w lb nest p (w.heap.size+1) F (V_ 3 n s (.slice pa l.length c) r) (.slice pa l.length c) l i q wx)) (fun vi _=>l.length - (intOf vi).toNat)
       case atStart=>exact⟨0,p,rfl,by omega,HL⟩
       case round =>
        clear HL;obtain⟨i,q,rfl,hi,HL⟩:=hrel
        by_cases hil:i<l.length
        ·obtain⟨x,hx⟩:∃ x,l[i]? = some x:=⟨_,List.getElem?_eq_getElem hil⟩;obtain⟨b,o,c',raw,hpe,hrg,-,-,hSx⟩:=HL.out.2.2.2.2.1.range hx
         cases hpe
         obtain⟨xk,xn,xs,xl,xr⟩:=x;have hiz:(i:Int)<(l.length:Int):=by omega
         have hld0:=aY hrg rfl;have HX:Hid (l[i]? = some ⟨xk,xn,xs,xl,xr⟩):=hx;obtain⟨pa2,c2,rfl⟩:=hSx.form;have hld:(bp (R_ b (o+i * 5))).run Tryz.prog wr=.ok (.value (.agg (V_ xk xn xs (.slice pa2 xl.length c2) xr))) wr:=hld0;clear hld0;have HSX:Hid (SlAt wr F (.slice pa2 xl.length c2) xl):=hSx;have Hq:Hid (q≤512):=Nat.le_trans (dU (fun p v q h=>Nat.le_of_lt (bJ h)) _ _ _ HL.out.1) Hp.out.1
         have hi512:i<512:=by
          have:=Hp.out.2;omega
         clear hx hrg hSx
         go_wp2_with fail
         refine(IH.out nest rfl q ⟨xk,xn,xs,xl,xr⟩ (.slice pa2 xl.length c2) _ lb F (by omega) Hq.out HlF.out (HSX.out.on (br.alloc aH _)) (aG _ _ HL.out.2.1)).mono ?_;rintro e w5 ⟨rfl,hk5,hq5⟩;have hkk:Keeps (fun b=>b=lb) wr w5:=((Keeps.refl _ wr).alloc _).trans hk5 (fun _ _ h=>h) (fun _ _ h=>h);obtain⟨h1,h2,h3,h4,h5,h6⟩:=HL.out;have htk:=ea HX.out h1;have hk:Keeps (fun b=>b=lb) w w5:=h3.trans hkk (fun _ _ h=>h) (fun _ _ h=>h)
         cases hres:aP nest q ⟨xk,xn,xs,xl,xr⟩with
         | none =>
           have HT:Hid (fP w lb (nest+1) (aP (nest+1) (p+1) ⟨3,n,s,l,r⟩) (.returned (.bool false)) w5):=by
            rw [Hr3.out,fv (htk.trans hres)];exact⟨rfl,hk,fun q h=>by cases h⟩
           clear hkk h1 h2 h3 h4 h5 h6 htk hk HL hk5 hq5 hld HX HSX Hq
           go_wp2_with fail
           go_ret
           exact HT.out
         | some q' =>
           have HL':Hid (zS w lb nest p (w.heap.size+1) F (V_ 3 n s (.slice (some ⟨b,o,none⟩) l.length c) r) (.slice (some ⟨b,o,none⟩) l.length c) l (i+1) q' w5):=by
            refine⟨htk.trans hres,hq5 q' hres,hk,?_,h5.keeps hkk (fun b e hb=>HlF.out (e ▸ hb)),h6⟩
            ·rw [hkk.block _ (aw h4) (fun e=>h6 e.symm)];exact h4
           clear hkk h1 h2 h3 h4 h5 h6 htk hk HL hk5 hq5 hld HX HSX Hq
           go_wp2_with fail
           go_roundw
           case rel=>exact⟨i+1,q',by go_num,by omega,HL'⟩
           case measure =>
            simp [intOf];omega
        ·have hiz:¬ (i:Int)<(l.length:Int):=by omega
         obtain⟨h1,h2,h3,h4,h5,h6⟩:=HL.out;rw [List.take_of_length_le (by omega)]at h1;have l1:wr.cell? ⟨lb,1,none⟩=some (.int .i64 nest):=by rw [ag h2];rfl
         have m1:=av h2 1;have cp3:wr.cell? ⟨w.heap.size+1,3,none⟩=some (.slice pa l.length c):=by rw [ag h4];rfl
         have g3:=av h4 3;have hne':w.heap.size+1≠lb:=fun e=>h6 e.symm
         have HA:Hid (SwR w lb (nest+1) (w.heap.size+1) 3 (aP (nest+1) (p+1) ⟨3,n,s,l,r⟩) n s r none 0 0 q ((wr.setCell ⟨lb,1,none⟩ (J ((nest:Int)+1))).setCell ⟨w.heap.size+1,3,none⟩ (S_))):=by
          have g2:(wr.setCell ⟨lb,1,none⟩ (J ((nest:Int)+1))).heap[lb]? = some (.cells #[J q,J ((nest+1:Nat):Int)] 302 (0,0)):=by
           rw [aA h2];rfl
          have g4:(wr.setCell ⟨lb,1,none⟩ (J ((nest:Int)+1))).heap[w.heap.size+1]? = some (.cells (V_ 3 n s (.slice pa l.length c) r) 27 (0,0)):=by
           rw [Below.heap_setCell wr ⟨lb,1,none⟩ _ _ hne'];exact h4
          have hk:=h3.trans (Keeps.setCell (S:=fun b=>b=lb) wr ⟨lb,1,none⟩ (J ((nest:Int)+1)) rfl) (fun _ _ h=>h) (fun _ _ h=>h);exact SwR.turn (res:=if dC n s r l.length then some q else none) ⟨g4,hk,g2,rfl⟩ (Nat.le_succ _) h6 3 (S_) rfl (by rw [Hr3.out,h1])
         clear h1 h2 h3 h4 h5 HL Hr3
         go_wp2_with fail
         go_meet
         case rel=>exact⟨_,_,_,_,_,_,_,HA⟩
   obtain⟨n',s',r',pa',len',c',q,HR⟩:=hcut;have hg:=HR.out.1;have c1:wc.cell? ⟨w.heap.size+1,1,none⟩=some (.int .i64 n'):=by rw [ag hg];rfl
   have c2:wc.cell? ⟨w.heap.size+1,2,none⟩=some (.string s'):=by rw [ag hg];rfl
   have c3:wc.cell? ⟨w.heap.size+1,3,none⟩=some (.slice pa' len' c'):=by rw [ag hg];rfl
   have c4:wc.cell? ⟨w.heap.size+1,4,none⟩=some (.int .i64 r'):=by rw [ag hg];rfl
   have HRR:Hid (∀ b,dC n' s' r' len'=b->fP w lb nest (aP nest (p+1) ⟨kind,n,s,l,r⟩) (.returned (.bool b)) wc):=fun b hb=>by
    obtain⟨-,h2,h3,h4⟩:=HR.out;rw [h4,hb]
    cases b
    ·exact⟨rfl,h2,fun q h=>by cases h⟩
    ·exact⟨rfl,h2,fun q h=>by cases h;exact h3⟩
   clear hg HR HS Hlb IH HSW HB3 hsz2 k0 hpz hlt
   by_cases q1:n'=0
   rotate_left
   ·have q1':(n'==0)=false:=by simpa using q1
    have hq:=HRR.out false (by simp [dC,q1']);clear q1
    go_wp2_with fail
    go_ret
    exact hq
   subst q1
   by_cases q2:s'=⟨#[]⟩
   rotate_left
   ·have q2':(s' == ⟨#[]⟩)=false:=by
     cases h:s' == ⟨#[]⟩with
     | true=>exact absurd ((Go.MapKept.bytes_beq _ _).1 h) q2
     | false=>rfl
    have hq:=HRR.out false (by simp [dC,q2'])
    have q2l:¬ s'.toList = []:=fun h=>q2 (by
     rw [ByteArray.toList_eq]at h;obtain⟨⟨d⟩⟩:=s';simp only at h
     rw [h])
    clear q2
    go_wp2_with fail
    go_ret
    exact hq
   subst q2
   by_cases q3:r'=0
   rotate_left
   ·have q3':(r'==0)=false:=by simpa using q3
    have hq:=HRR.out false (by simp [dC,q3']);clear q3
    go_wp2_with fail
    go_ret
    exact hq
   subst q3
   by_cases q4:len'=0
   rotate_left
   ·have q4':((len':Int)==0)=false:=by
     have:(len':Int)≠0:=by omega
     simpa using this
    have hq:=HRR.out false (by simp [dC,q4]);clear q4
    go_wp2_with fail
    go_ret
    exact hq
   subst q4;have hq:=HRR.out true rfl
   go_wp2_with fail
   go_ret
   exact hq
theorem yC (nest:Nat):ux nest:=by
 induction nest with
 | zero=>exact kH 0 (fun m h=>by cases h)
 | succ n ih=>exact kH (n+1) (fun m h=>by cases h;exact ih)
def partsV (v:Val):Nat:=match aP 16 512 v with | some q=>512 - q | none=>0
def ay (v:Val):Bool:=(aP 16 512 v).isSome
theorem Au {v:Val} (h:aP 16 512 v=none):partsV v=0:=by
 unfold partsV;rw [h]
theorem ou {v:Val} {q:Nat} (h:aP 16 512 v=some q):partsV v=512 - q:=by
 unfold partsV;rw [h]
theorem pg (v:Val):decide (partsV v > 0)=ay v:=by
 unfold partsV ay
 cases h:aP 16 512 v with
 | none=>rfl
 | some q =>
   have:=bJ h;simp;omega
variable {w:World} {F:Nat->Prop} {v:Val} {raw:Value}
theorem rU (hS:SlAt w F raw v.l):Calls Tryz.prog 226 #[.agg (au v raw)] w fun e w'=>e=.returned (J (partsV v))/\Bl w w':=by
 obtain⟨pa,c,rfl⟩:=hS.form;obtain⟨kind,n,s,l,r⟩:=v;simp only [au];have HS:Hid (SlAt w F (Value.slice pa l.length c) l):=hS;clear hS
 go_enter Tryz.func226,Tryz.ntmps226
 go_wp2_with fail
 refine(yC 16 512 ⟨kind,n,s,l,r⟩ (.slice pa l.length c) _ (w.heap.size+1) (fun b=>F b/\b<w.heap.size) aH aH (fun h=>by have:=h.2;omega) (HS.out.lt.on ((br.alloc aH _).alloc (by simp) _)) (aK _ _ _)).mono ?_;rintro e w1 ⟨rfl,hk,hq⟩
 have HB:Hid (Bl w w1):=by
  refine(((Below.refl _ w).alloc aH _).alloc (by simp) _).trans (hk.below ?_ (fun b e=>by omega));simp;omega
 clear hk HS
 cases hres:aP 16 512 ⟨kind,n,s,l,r⟩with
 | none =>
   have HP:Hid ((partsV ⟨kind,n,s,l,r⟩:Int)=0):=by
    rw [Au hres];rfl
   clear hq
   go_wp2_with fail
   go_ret
   exact⟨by rw [HP.out];rfl,HB.out⟩
 | some q =>
   have hlt:=bJ hres;have hg:=hq q hres;have d0:w1.cell? ⟨w.heap.size+1,0,none⟩=some (.int .i64 q):=by rw [ag hg];rfl
   have HP:Hid ((partsV ⟨kind,n,s,l,r⟩:Int)=512 - (q:Int)):=by
    rw [ou hres];show ((512 - q:Nat):Int)=512 - (q:Int);omega
   clear hq hg
   go_wp2_with fail
   go_ret
   exact⟨by rw [HP.out];rfl,HB.out⟩
theorem dF (hS:SlAt w F raw v.l):Calls Tryz.prog 161 #[.agg (au v raw)] w fun e w'=>e=.returned (.bool (ay v))/\Bl w w':=by
 obtain⟨pa,c,rfl⟩:=hS.form;have hm:=rU (w:=w.alloc (.cells (au v (.slice pa v.l.length c)) 27)) (hS.on (br.alloc aH _));obtain⟨kind,n,s,l,r⟩:=v;have HM:Hid _:=hm;clear hS hm;simp only [au]at HM ⊢
 go_enter Tryz.func161,Tryz.ntmps161
 go_wp2_with fail
 refine Calls.mono HM.out ?_;rintro e w1 ⟨rfl,hb⟩;have HB:Hid (Bl w w1):=((Below.refl _ w).alloc aH _).trans (hb.mono (by simp));have HP:Hid (ay ⟨kind,n,s,l,r⟩=decide (0<partsV ⟨kind,n,s,l,r⟩)):=(pg ⟨kind,n,s,l,r⟩).symm;clear hb HM
 go_wp2_with fail
 go_ret
 exact⟨by rw [HP.out];rfl,HB.out⟩
end
section
theorem te (w:World) (k n:Int) (h:Plain k n) (p:Option Addr) (l:Value):Calls Tryz.prog 265 #[l,.agg (V_ k n ⟨#[]⟩ (S_) 0),.pointer p] w fun e w'=>e=.returned (.bool true)/\Below w.heap.size w w':=by
 have hk4:(k==4)=false:=by rcases h with ⟨rfl,rfl⟩ | rfl <;> rfl
 go_enter Tryz.func265,Tryz.ntmps265
 go_wp2
 go_ret
 exact⟨rfl,by go_grown⟩
theorem vB (w:World) (k n:Int) (h:Plain k n) (p:Option Addr):Calls Tryz.prog 264 #[.agg (V_ k n ⟨#[]⟩ (S_) 0),S_,.func (.func 265) #[] #[.pointer p]] w fun e w'=>e=.returned (.bool true)/\Below w.heap.size w w':=by
 go_enter Tryz.func264,Tryz.ntmps264
 go_wp2_with fail
 refine(te _ k n h _ _).mono ?_;rintro e w1 ⟨rfl,hb1⟩;obtain⟨⟨a0,a1,a2,a3,a4⟩,f0,f1,f2,f3,f4⟩:=ax (ae hb1 (ai _ _));have hz:w.heap.size<w1.heap.size:=by have:=hb1.size;simp at this;omega
 have HB:Hid (Below w.heap.size w w1):=(br.alloc aH _).trans (hb1.mono (by simp;try omega));clear hb1
 go_wp2_with fail
 go_rounds 1
 go_ret
 have hB:=HB.out;exact⟨rfl,by go_grown⟩
theorem uU (w:World) (k n:Int) (h:Plain k n):Calls Tryz.prog 231 #[.agg (V_ k n ⟨#[]⟩ (S_) 0)] w fun e w'=>e=.returned (S_)/\Below w.heap.size w w':=by
 go_enter Tryz.func231,Tryz.ntmps231
 go_wp2_with fail
 refine(eb _ k n h).mono ?_;rintro e w1 ⟨rfl,hb1⟩;obtain⟨⟨a0,a1,a2,a3,a4⟩,f0,f1,f2,f3,f4⟩:=ax (ae hb1 (aL _ _ _));have b0:w1.heap[w.heap.size+1]? = some (.cells #[S_] 77 (0,0)):=ae hb1 (aK _ _ _);have hz:w.heap.size+1<w1.heap.size:=by have:=hb1.size;simp at this;omega
 have HB:Hid (Below w.heap.size w w1):=((br.alloc aH _).alloc (by simp) _).trans (hb1.mono (by simp;omega));clear hb1
 go_wp2_with fail
 refine(vB _ k n h _).mono ?_;rintro e w2 ⟨rfl,hb2⟩;have b2:w2.cell? ⟨w.heap.size+1,0,none⟩=some (.slice none 0 0):=by rw [ag (ae hb2 b0)];rfl
 have hz2:w.heap.size+1<w2.heap.size:=by have:=hb2.size;omega
 have HB2:Hid (Below w.heap.size w w2):=HB.out.trans (hb2.mono HB.out.size);clear hb2
 go_wp2_with fail
 go_ret
 have hB:=HB2.out;have hz1:w.heap.size≤w1.heap.size:=by omega
 exact⟨rfl,by go_grown⟩
end
section
theorem yb (w:World) (k h vk vn n l tg bi s:Int) (fu:Bool) (hp:Plain vk vn):Calls Tryz.prog 166 #[.agg (wr k h vk vn n l tg bi s fu)] w fun e w'=>e=.returned (S_)/\Bl w w':=by
 go_enter Tryz.func166,Tryz.ntmps166
 go_wp2_with fail
 refine(uU _ vk vn hp).mono ?_;rintro e w1 ⟨rfl,hb1⟩;have B1:=ae hb1 (ai _ _);have c7:w1.cell? ⟨w.heap.size,7,none⟩=some (.slice none 0 0):=by rw [ag B1];rfl
 have c15:w1.cell? ⟨w.heap.size,15,none⟩=some (.slice none 0 0):=by rw [ag B1];rfl
 have HB:Hid (Bl w w1):=(br.alloc aH _).trans (hb1.mono (by simp;try omega));clear hb1 B1
 go_wp2_with fail
 go_rounds 1
 go_wp2_with fail
 go_rounds 1
 go_ret
 exact⟨rfl,HB.out⟩
theorem qA (w:World) (q:Option Addr) (k h vk vn n l tg bi s:Int) (fu:Bool) (hp:Plain vk vn):Calls Tryz.prog 75 #[.pointer q,.agg (wr k h vk vn n l tg bi s fu)] w fun e w'=>e=.returned (.bool true)/\Bl w w':=by
 go_enter Tryz.func75,Tryz.ntmps75
 go_wp2_with fail
 refine(yb _ k h vk vn n l tg bi s fu hp).mono ?_;rintro e w1 ⟨rfl,hb1⟩;have HB:Hid (Bl w w1):=((br.alloc aH _).alloc (by simp) _).trans (hb1.mono (by simp;try omega));clear hb1
 go_wp2_with fail
 refine(xV _ _).mono ?_;rintro e w2 ⟨rfl,rfl⟩
 go_wp2_with fail
 go_ret
 exact⟨rfl,HB.out⟩
theorem bE (w:World):Calls Tryz.prog 160 #[.agg O] w fun e w'=>e=.returned (.bool true)/\Below w.heap.size w w':=by
 go_enter Tryz.func160,Tryz.ntmps160
 go_wp2
 go_ret
 exact⟨rfl,by go_grown⟩
theorem yD (w:World):Calls Tryz.prog 227 #[S_] w fun e w'=>e=.returned (.bool true)/\w=w':=by
 go_enter Tryz.func227,Tryz.ntmps227
 go_wp2_with fail
 go_in
 go_wp2_with fail
 go_in
 go_wp2_with fail
 go_rounds 1
 go_ret
 exact⟨rfl,rfl⟩
theorem vI (w:World):Calls Tryz.prog 161 #[.agg (V_ 3 0 ⟨#[]⟩ (S_) 0)] w fun e w'=>e=.returned (.bool true)/\Below w.heap.size w w':=by
 go_enter Tryz.func161,Tryz.ntmps161
 go_wp2
 go_region
 go_wp2
 go_rounds 1
 go_ret
 exact⟨rfl,by go_grown⟩
theorem jc (w:World):Calls Tryz.prog 162 #[S_] w fun e w'=>e=.returned (.tuple #[.agg (V_ 3 0 ⟨#[]⟩ (S_) 0),J 0])/\Below w.heap.size w w':=by
 go_enter Tryz.func162,Tryz.ntmps162
 go_wp2_with fail
 refine(yD _).mono ?_;rintro e w0 ⟨rfl,rfl⟩
 go_wp2_with fail
 refine(vI _).mono ?_;rintro e w1 ⟨rfl,hb1⟩;have B0:=ae hb1 (aL _ _ _);obtain⟨⟨a0,a1,a2,a3,a4⟩,f0,f1,f2,f3,f4⟩:=ax (ae hb1 (aK _ _ _));have hz:w.heap.size+1<w1.heap.size:=by have:=hb1.size;simp at this;omega
 have HB:Hid (Below w.heap.size w w1):=((br.alloc aH _).alloc (by simp) _).trans (hb1.mono (by simp;omega));clear hb1
 go_wp2_with fail
 refine(tV _ 3 0).mono ?_;rintro e w2 ⟨rfl,hb2⟩;obtain⟨⟨e0,e1,e2,e3,e4⟩,g0,g1,g2,g3,g4⟩:=ax (ae hb2 B0);have hz2:w.heap.size<w2.heap.size:=by have:=hb2.size;omega
 have HB2:Hid (Below w.heap.size w w2):=HB.out.trans (hb2.mono HB.out.size);clear hb2 B0
 go_wp2_with fail
 have hB:=HB2.out;exact bodyPost_ret (v:=.tuple #[.agg (V_ 3 0 ⟨#[]⟩ (S_) 0),J 0]) (by simp [results,Tryz.results162,go_sem,e0,e1,e2,e3,e4]) rfl ⟨rfl,by go_grown⟩
theorem aq {w:World} {b:Nat} {x0 x1 x2 x3 x4 x5 x6 x7 x8 x9 x10 x11 x12 x13 x14 x15:Value} {e:TypeId} (h:w.heap[b]? = some (.cells #[x0,x1,x2,x3,x4,x5,x6,x7,x8,x9,x10,x11,x12,x13,x14,x15] e (0,0))) :
 w.cell? ⟨b,0,none⟩=some x0/\w.cell? ⟨b,1,none⟩=some x1/\w.cell? ⟨b,2,none⟩=some x2/\w.cell? ⟨b,3,none⟩=some x3/\w.cell? ⟨b,4,none⟩=some x4/\w.cell? ⟨b,5,none⟩=some x5/\w.cell? ⟨b,6,none⟩=some x6/\w.cell? ⟨b,7,none⟩=some x7/\w.cell? ⟨b,8,none⟩=some x8/\w.cell? ⟨b,9,none⟩=some x9/\w.cell? ⟨b,10,none⟩=some x10/\w.cell? ⟨b,11,none⟩=some x11/\w.cell? ⟨b,12,none⟩=some x12/\w.cell? ⟨b,13,none⟩=some x13/\w.cell? ⟨b,14,none⟩=some x14/\w.cell? ⟨b,15,none⟩=some x15:=by
 refine⟨?_,?_,?_,?_,?_,?_,?_,?_,?_,?_,?_,?_,?_,?_,?_,?_⟩ <;> (rw [ag h];rfl)
end
section
theorem bv {w:World} {b i:Nat} {cs:Array Value} {e:TypeId} {fr:Nat × Nat} {v:Value} (h:w.heap[b]? = some (.cells cs e fr)) (hv:cs[i]? = some v):w.setCell ⟨b,i,none⟩ v=w:=by
 obtain⟨hb,hg⟩:=Array.getElem?_eq_some_iff.1 h;obtain⟨hi,hgi⟩:=Array.getElem?_eq_some_iff.1 hv
 have key:∀ (w2:World),w2.heap=w.heap->{ w2 with heap:=w2.heap.modify b (fun _=>.cells cs e fr) } = w2:=by
  intro w2 h2
  have:w2.heap.modify b (fun _=>Obj.cells cs e fr)=w2.heap:=by
   apply Array.ext_getElem?
   intro k;rw [Array.getElem?_modify];split
   ·rename_i hk
    subst hk;rw [h2,h];rfl
   ·rfl
  rw [this]
 have hs:cs.setIfInBounds i v=cs:=by
  apply Array.ext_getElem?
  intro k;rw [Array.getElem?_setIfInBounds];split
  ·rename_i hk
   subst hk;simp [hi,hgi]
  ·rfl
 have hw:(w.setCell ⟨b,i,none⟩ v).heap=w.heap:=by
  apply Array.ext_getElem?
  intro k
  by_cases hk:k=b
  ·subst hk;rw [aA h i v,h,hs]
  ·exact Below.heap_setCell w ⟨b,i,none⟩ v k hk
 have:(w.setCell ⟨b,i,none⟩ v) = { w with heap:=(w.setCell ⟨b,i,none⟩ v).heap }:=rfl
 rw [this,hw]
theorem mu {P:Program} {w:World} {b i:Nat} {cs vs:Array Value} {e ty:TypeId} (h:w.heap[b]? = some (.cells cs e (0,0))) (hi:(P.info? ty).map (·.size)=some vs.size) (hl:i+vs.size≤cs.size)
 (h1:vs.all (·.oneCell')=true) (hs:(cs.toList.take i ++ vs.toList ++ cs.toList.drop (i+vs.size))=cs.toList):(Instr.storeAt ty (R_ b i) (.agg vs)).run P w=.ok () w:=by
 simp only [Instr.storeAt,Instr.sureAddr,Sem.run_bind,Sem.run_pure,Result.andThen];have:=run_storeCells_at (P:=P) b i e vs.toList 0 cs w h (by simpa using hl) (fun v hv=>(Array.all_eq_true_iff_forall_mem.1 h1) v (by simpa using hv));simp only [Nat.add_zero,Array.length_toList,hs,Array.toArray_toList,setRow_self w b cs e (0,0) h]at this;cases hq:P.info? ty with
 | none=>simp [hq]at hi
 | some k =>
   have hs:vs.size=k.size:=by simp [hq]at hi;omega
   simp [storeVar,sizeOf,typeInfo,hq,Value.cells,hs,this]
def bZ (a x:Value):Sem Next:=do Instr.storeAt 27 a x;pure .skip
theorem aW (ρ:Operand->Value) (d:Option Tmp) (a x:Operand) (ty:TypeId) (pos:String) (af:Array Edge) (g:Option (Nat × Bool)) :
 execOp ρ { dst:=d,op:=.store 27 a x,type:=ty,pos:=pos,after:=af,guard:=g } = bZ (ρ a) (ρ x):=rfl
theorem bf {w:World} {b i:Nat} {cs vs:Array Value} {e:TypeId} (h:w.heap[b]? = some (.cells cs e (0,0))) (h5:vs.size=5) (hl:i+vs.size≤cs.size)
 (h1:vs.all (·.oneCell')=true) (hs:(cs.toList.take i ++ vs.toList ++ cs.toList.drop (i+vs.size))=cs.toList):(bZ (R_ b i) (.agg vs)).run Tryz.prog w=.ok .skip w:=by
 simp only [bZ,Sem.run_bind,mu h (by rw [h5];exact dh) hl h1 hs,Result.andThen,Sem.run_pure]
theorem aj (w:World) (b:Nat) (c:Array Value) (k:Nat) (h:k≠b):(w.setRow b c).heap[k]? = w.heap[k]?:=by
 simp only [World.setRow,Array.getElem?_modify];rw [if_neg (Ne.symm h)]
theorem ah {w:World} {b:Nat} {c c':Array Value} {e:TypeId} {fr:Nat × Nat} (h:w.heap[b]? = some (.cells c e fr)):(w.setRow b c').heap[b]? = some (.cells c' e fr):=by
 simp only [World.setRow,Array.getElem?_modify];rw [if_pos trivial,h];rfl
theorem Below.setRow {B:Nat} {a w:World} (h:Below B a w) {b:Nat} (hb:B≤b) (c:Array Value):Below B a (w.setRow b c) :=
 ⟨h.os,h.tape,h.output,by have:=h.size;simpa [World.setRow]using this,fun k hk=>(aj w b c k (by omega)).trans (h.block k hk)⟩
attribute [local go_sem ↓] aW in
theorem lf (w:World) (k h vk vn n l tg bi s:Int) (fu:Bool) (hp:Plain vk vn):Calls Tryz.prog 80 #[.agg (wr k h vk vn n l tg bi s fu)] w fun e w' =>
 e=.returned (.agg (wr k h vk vn n l tg bi s fu))/\Bl w w':=by
 go_enter Tryz.func80,Tryz.ntmps80
 go_wp2_with fail
 refine(xx _ vk vn hp).mono ?_;rintro e w1 ⟨rfl,hb1⟩;have B1:=ae hb1 (aL _ _ _);have R1:=ae hb1 (aK _ _ _);obtain⟨a0,a1,a2,a3,a4,a5,a6,a7,a8,a9,a10,a11,a12,a13,a14,a15⟩:=aq B1;have hsv:=bf (i:=2) (vs:=#[U vk,J vn,T_,S_,J 0]) B1 rfl (by simp) (by simp [go_sem]) (by simp);have hz:w.heap.size+1<w1.heap.size:=by have:=hb1.size;simp at this;omega
 have HB:Hid (Bl w w1):=((br.alloc aH _).alloc (by simp) _).trans (hb1.mono (by simp;omega));clear hb1
 go_wp2_with fail
 refine(oV _).mono ?_;rintro e w2 ⟨rfl,hb2⟩;have B2:=ae hb2 B1;have R2:=ae hb2 R1;clear a0 a1 a2 a3 a4 a5 a6 a7 a8 a9 a10 a11 a12 a13 a14 a15 hsv;have a7:w2.cell? ⟨w.heap.size,7,none⟩=some (.slice none 0 0):=by rw [ag B2];rfl
 have a14:w2.cell? ⟨w.heap.size,14,none⟩=some (.slice none 0 0):=by rw [ag B2];rfl
 have a15:w2.cell? ⟨w.heap.size,15,none⟩=some (.slice none 0 0):=by rw [ag B2];rfl
 have f7:=av B2 7;have f14:=av B2 14;have f15:=av B2 15;have q7:w2.setCell ⟨w.heap.size,7,none⟩ (S_)=w2:=bv B2 rfl;have q14:w2.setCell ⟨w.heap.size,14,none⟩ (S_)=w2:=bv B2 rfl;have q15:w2.setCell ⟨w.heap.size,15,none⟩ (S_)=w2:=bv B2 rfl;have HB2:Hid (Bl w w2):=HB.out.trans (hb2.mono HB.out.size);clear hb2 HB B1 R1 hz;have hld:=aD B2 rfl;have hst:=aS (c':=(wr k h vk vn n l tg bi s fu)) R2 rfl rfl (by simp [go_sem]);have G3a:=ah (c':=(wr k h vk vn n l tg bi s fu)) R2;have G3:Hid ((w2.setRow (w.heap.size+1) (wr k h vk vn n l tg bi s fu)).heap[w.heap.size+1]? = some (.cells (wr k h vk vn n l tg bi s fu) 46 (0,0))):=G3a;clear G3a;have HB3:Hid (Bl w (w2.setRow (w.heap.size+1) (wr k h vk vn n l tg bi s fu))):=Below.setRow HB2.out (Nat.le_succ _) _;clear B2 R2 HB2
 go_wp2_with fail
 refine wp_loop_rounds 1 ?_;rw [rounds_succ]
 go_wp2_with fail
 refine(ig _).mono ?_;rintro e _ ⟨rfl,rfl⟩
 go_wp2_with fail
 refine wp_loop_rounds 1 ?_;rw [rounds_succ]
 go_wp2_with fail
 refine(kF _).mono ?_;rintro e _ ⟨rfl,rfl⟩
 go_wp2_with fail
 refine bodyPost_ret (bz rfl _ _ _ _ _ rfl G3.out rfl) rfl ⟨rfl,HB3.out⟩
end
end Go.Proofs.YthaliljaglldjaaGreat
