/- Part of the proof. -/
import Derived.WalkKit
import Derived.WalkLawsBesides
import Derived.WalkSpells
import Derived.Handy
import Derived.Outline
import Derived.Maps.RangeWalk
import Derived.Maps.OwnOps
import Derived.DeepKeys4
import Derived.Test.YthaliljaglldjaaGreatChecked
namespace Go.Proofs.YthaliljaglldjaaGreat
open Go.RowKit Go.ChangeMaps Go.MapKept
open Go.WideElems (Fit rd rg pl rd_val elemAt)
abbrev wr (k h vk vn n l tg bi s:Int) (fu:Bool):Array Value:=#[.int .u8 k,.int .i64 h,.int .u8 vk,.int .i64 vn,.string ⟨#[]⟩,.slice none 0 0,.int .i64 0,.slice none 0 0,.int .i64 n,.int .i64 l,.int .i64 tg,.int .i64 bi,.int .u8 s,.bool fu,.slice none 0 0,.slice none 0 0]
abbrev Bl (a b:World):Prop:=Below a.heap.size a b
inductive VQ where|a|b
def J (_:Int):VQ:=.a
def U (_:Int):VQ:=.a
def P_ (_:Nat):VQ:=.a
def R_ (_ _:Nat):VQ:=.a
def S_:VQ:=.a
def T_:VQ:=.a
def O:VQ:=.a
def V_ (_ _:Int) (_:ByteArray) (_:Value) (_:Int):VQ:=.a
def X_ (_ _ _ _:Int) (_:ByteArray) (_:Value) (_:Int) (_:Value) (_ _ _ _ _:Int) (_:Bool):VQ:=.a
instance (x:Int):CoeT VQ (J x) Value:=⟨.int .i64 x⟩
instance (x:Int):CoeT VQ (U x) Value:=⟨.int .u8 x⟩
instance (x:Nat):CoeT VQ (P_ x) Value:=⟨.pointer (some ⟨x,0,none⟩)⟩
instance (x y:Nat):CoeT VQ (R_ x y) Value:=⟨.pointer (some ⟨x,y,none⟩)⟩
instance :CoeT VQ S_ Value:=⟨.slice none 0 0⟩
instance :CoeT VQ T_ Value:=⟨.string ⟨#[]⟩⟩
instance :CoeT VQ O (Array Value):=⟨#[.int .u8 0,.int .i64 0,.string ⟨#[]⟩,.slice none 0 0,.int .i64 0]⟩
instance (k n:Int) (s:ByteArray) (x:Value) (r:Int):CoeT VQ (V_ k n s x r) (Array Value):=⟨#[.int .u8 k,.int .i64 n,.string s,x,.int .i64 r]⟩
instance (k h a b:Int) (s:ByteArray) (x:Value) (c:Int) (y:Value) (n l g i u:Int) (f:Bool):CoeT VQ (X_ k h a b s x c y n l g i u f) (Array Value):=⟨#[.int .u8 k,.int .i64 h,.int .u8 a,.int .i64 b,.string s,x,.int .i64 c,y,.int .i64 n,.int .i64 l,.int .i64 g,.int .i64 i,.int .u8 u,.bool f,.slice none 0 0,.slice none 0 0]⟩
abbrev bX (d:Tmp) (t:TypeId) (x:Tmp) (f:Value->Sem Next):Prop:=∀ (ρ:Operand->Value) (ty:TypeId) (pos:String) (af:Array Edge) (g:Option (Nat × Bool)),execOp ρ { dst:=some d,op:=.load t (.tmp x),type:=ty,pos:=pos,after:=af,guard:=g }=f (ρ (.tmp x))
abbrev ff (t:TypeId) (x y:Tmp) (f:Value->Value->Sem Next):Prop:=∀ (ρ:Operand->Value) (ty:TypeId) (pos:String) (af:Array Edge) (g:Option (Nat × Bool)),execOp ρ { dst:=none,op:=.store t (.tmp x) (.tmp y),type:=ty,pos:=pos,after:=af,guard:=g }=f (ρ (.tmp x)) (ρ (.tmp y))
theorem br {n:Nat} {w:World}:Below n w w:=Below.refl _ _
theorem aH {n:Nat}:n<=n:=Nat.le_refl _
theorem ji {α:Type} {l:List α} {j:Nat} {q:α} (h:l[j]?=some q):j<l.length:=(List.getElem?_eq_some_iff.1 h).1
section
open Go.Maps (Keyed)
structure Keeps (S:Nat->Prop) (w w':World):Prop where
 os:w'.os=w.os
 tape:w'.tape=w.tape
 output:w'.output=w.output
 size:w.heap.size≤w'.heap.size
 block:∀ b,b<w.heap.size->¬ S b->w'.heap[b]? = w.heap[b]?
theorem Keeps.refl (S:Nat->Prop) (w:World):Keeps S w w:=⟨rfl,rfl,rfl,aH,fun _ _ _=>rfl⟩
theorem Keeps.trans {S S' T:Nat->Prop} {a b c:World} (h:Keeps S a b) (k:Keeps S' b c) (h1:∀ x,x<a.heap.size->S x->T x) (h2:∀ x,x<a.heap.size->S' x->T x):Keeps T a c :=
 ⟨k.os.trans h.os,k.tape.trans h.tape,k.output.trans h.output,Nat.le_trans h.size k.size,fun x hx hT =>
  (k.block x (Nat.lt_of_lt_of_le hx h.size) (fun e=>hT (h2 x hx e))).trans (h.block x hx (fun e=>hT (h1 x hx e)))⟩
theorem Keeps.mono {S T:Nat->Prop} {a b:World} (h:Keeps S a b) (h1:∀ x,x<a.heap.size->S x->T x):Keeps T a b:=h.trans (Keeps.refl S b) h1 h1
theorem Keeps.of_below {S:Nat->Prop} {a b:World} (h:Bl a b):Keeps S a b:=⟨h.os,h.tape,h.output,h.size,fun x hx _=>h.block x hx⟩
theorem Keeps.below {S:Nat->Prop} {a b:World} {B:Nat} (h:Keeps S a b) (hB:B≤a.heap.size) (hS:∀ x,S x->B≤x):Below B a b :=
 ⟨h.os,h.tape,h.output,h.size,fun x hx=>h.block x (by omega) (fun e=>by have:=hS x e;omega)⟩
theorem Keeps.of_grown {S:Nat->Prop} {a b:World} {row:Option Nat} (h:a.grownBy b row) (hS:∀ x,row=some x->S x):Keeps S a b :=
 ⟨h.os,h.tape,h.output,h.size,fun x hx hn=>h.block x hx (fun e=>hn (hS x e.symm))⟩
theorem Keeps.setCell {S:Nat->Prop} (w:World) (a:Addr) (v:Value) (h:S a.block):Keeps S w (w.setCell a v) :=
 ⟨rfl,rfl,rfl,by simp [World.setCell],fun x _ hn=>Below.heap_setCell _ _ _ _ (fun e=>hn (e ▸ h))⟩
theorem Keeps.drew {S:Nat->Prop} {a b:World} (h:Keeps S a b):Keeps S a b.drew:=⟨h.os,h.tape,h.output,h.size,h.block⟩
theorem Below.keeps {S:Nat->Prop} {a b c:World} (h:Bl a b) (k:Keeps S b c):Keeps S a c:=(Keeps.of_below (S:=S) h).trans k (fun _ _ h=>h) (fun _ _ h=>h)
theorem Keeps.then_below {S:Nat->Prop} {a b c:World} (h:Keeps S a b) (k:Bl b c):Keeps S a c:=h.trans (Keeps.of_below (S:=S) k) (fun _ _ h=>h) (fun _ _ h=>h)
theorem ag {w:World} {b:Nat} {cs:Array Value} {e:TypeId} {fr:Nat × Nat} (h:w.heap[b]? = some (.cells cs e fr)) (i:Nat):w.cell? ⟨b,i,none⟩=cs[i]?:=by
 simp [World.cell?,h]
theorem av {w:World} {b:Nat} {cs:Array Value} {e:TypeId} (h:w.heap[b]? = some (.cells cs e (0,0))) (i:Nat):w.frozen? ⟨b,i,none⟩=false:=by
 simp [World.frozen?,h]
theorem aw {w:World} {b:Nat} {o:Obj} (h:w.heap[b]? = some o):b<w.heap.size:=(Array.getElem?_eq_some_iff.1 h).1
theorem aA {w:World} {b:Nat} {cs:Array Value} {e:TypeId} {fr:Nat × Nat} (h:w.heap[b]? = some (.cells cs e fr)) (i:Nat) (v:Value):(w.setCell ⟨b,i,none⟩ v).heap[b]? = some (.cells (cs.setIfInBounds i v) e fr):=by
 simp [World.setCell,Array.getElem?_modify,h]
theorem ai (w:World) (o:Obj):(w.alloc o).heap[w.heap.size]? = some o:=heap_alloc_new w o
theorem aG (w:World) (o:Obj) {b:Nat} {x:Obj} (h:w.heap[b]? = some x):(w.alloc o).heap[b]? = some x:=(Below.heap_alloc w o b (aw h)).trans h
theorem eK {w:World} {b:Nat} {x:Obj} (h:w.heap[b]? = some x) (a:Addr) (v:Value) (hne:b≠a.block):(w.setCell a v).heap[b]? = some x:=(Below.heap_setCell w a v b hne).trans h
theorem gk {w:World} {a:Addr} {v:Value} (h:w.cell? a=some v) (o:Obj):(w.alloc o).cell? a=some v :=
 (World.cell?_of_block (Below.heap_alloc w o a.block (World.block_lt_of_cell? w a h))).trans h
theorem ax {w:World} {b:Nat} {e:TypeId} {v0 v1 v2 v3 v4:Value} (h:w.heap[b]? = some (.cells #[v0,v1,v2,v3,v4] e (0,0))) :
 (w.cell? ⟨b,0,none⟩=some v0/\w.cell? ⟨b,1,none⟩=some v1/\w.cell? ⟨b,2,none⟩=some v2/\w.cell? ⟨b,3,none⟩=some v3/\w.cell? ⟨b,4,none⟩=some v4) /\
 (w.frozen? ⟨b,0,none⟩=false/\w.frozen? ⟨b,1,none⟩=false/\w.frozen? ⟨b,2,none⟩=false/\w.frozen? ⟨b,3,none⟩=false/\w.frozen? ⟨b,4,none⟩=false) :=
 ⟨⟨by rw [ag h];rfl,by rw [ag h];rfl,by rw [ag h];rfl,by rw [ag h];rfl,by rw [ag h];rfl⟩,⟨av h 0,av h 1,av h 2,av h 3,av h 4⟩⟩
theorem ae {W w1:World} (hb:Bl W w1) {b:Nat} {o:Obj} (h:W.heap[b]? = some o):w1.heap[b]? = some o:=(hb.block b (aw h)).trans h
theorem aL (w:World) (A B:Obj):((w.alloc A).alloc B).heap[w.heap.size]? = some A:=aG _ B (ai w A)
theorem aK (w:World) (A B:Obj):((w.alloc A).alloc B).heap[w.heap.size+1]? = some B:=by
 have:=ai (w.alloc A) B
 rwa [World.size_alloc]at this
theorem wZ {W w1:World} (hb:Bl W w1):(∀ b o,b<W.heap.size->w1.cell? ⟨b,o,none⟩=W.cell? ⟨b,o,none⟩)/\(∀ b o,b<W.heap.size->w1.frozen? ⟨b,o,none⟩=W.frozen? ⟨b,o,none⟩) :=
 ⟨fun b o h=>hb.cell (p:=⟨b,o,none⟩) h,fun b o h=>hb.frozen (p:=⟨b,o,none⟩) h⟩
theorem oG {P:Program} {w:World} {ops:Array Oper} {rest:List Oper} {o:Oper} {a:Act} {Q:Exit->Act->World->Prop} (hgd:o.guard=none) (s x:Operand) (t:TypeId)
 (ho:o.op=.call { callee:=.builtin .append,args:=#[s,x],argTypes:=#[t,t] }) (base:Nat) (e:TypeId) (z:Value) (bytes:Nat) (ht:P.underlying t=some (.slice e))
 (hinfo:(P.info? e).map (fun i=>(i.zero,i.size,i.bytes))=some (some z,1,bytes)) (hzs:z.cells.size=1)
 (v:Value) (n:Nat) (xs:List Value) (hs:a.eval s=v) (hown:w.ownsRow base e 1 v n xs) (y:Value) (hx:a.eval x=.slice (some ⟨w.heap.size,0,none⟩) 1 1) (hy:y.oneCell'=true)
 (hn:(n:Int)≤1099511627777) (hb:bytes≤64) (hbase:base≤w.heap.size)
 (h:∀ v' w',w'.ownsRow base e 1 v' (n+1) (xs ++ [y])->w.grownBy w' v.ownBlock->Below base w w'->wpList P ops Q rest (a.put o.dst v') w'):wpList P ops Q (o :: rest) a (w.alloc (.cells #[y] e)):=by
 obtain⟨i,hi,hz,h1,h2⟩:=info_parts hinfo;have hb2:(n+1) * bytes≤(n+1) * 64:=Nat.mul_le_mul_left _ hb;refine wpList_append_own _ hgd s x t ho base e i z 1 bytes ht hi hz h1 h2 hzs (by decide) v n xs hs (hown.alloc _) ⟨w.heap.size,0,none⟩ 1 1 [y] hx rfl (cell_one_new _ _ _) (by simp [hy]) (by unfold maxLen;omega) (by omega) (by simp;omega) ?_;intro v' w' r1 r2 _;have hg:w.grownBy w' v.ownBlock:=(World.grownBy_alloc w _ _).trans r2;exact h v' w' r1 hg ⟨hg.os,hg.tape,hg.output,hg.size,fun k hk=>hg.block k (by omega) (fun e=>by have:=hown.lt k e.symm;omega)⟩
def pN (v:Value):Option (DataW Value × List MemPlace):=some (.held v,[])
theorem As {v:Value} {d:DataW Value} {ps:List MemPlace} (h:pN v=some (d,ps)):d=.held v/\ps = []:=by
 simp only [pN,Option.some.injEq,Prod.mk.injEq]at h;exact⟨h.1.symm,h.2.symm⟩
def HasMap (P:Program) (k:TypeId) (w:World) (b:Nat) (f:Value->Option Value) (n:Nat):Prop :=
 ∃ D:DataW Value,w.ownsMap P k pN b n D/\Maps.size D=n /\
   ∀ key kl,keyOf P k key=some kl->Maps.has D kl=(f key).isSome/\∀ v,f key=some v->∀ zd,D.atKey kl zd=.held v
section
variable {P:Program} {k:TypeId} {w:World} {b n:Nat} {f:Value->Option Value}
theorem HasMap.lt (h:HasMap P k w b f n):b<w.heap.size:=by
 obtain⟨D,h,_⟩:=h;exact h.lt
theorem HasMap.is (h:HasMap P k w b f n):∃ es clock,w.heap[b]? = some (.map es clock):=by
 obtain⟨D,⟨es,clock,hb,_⟩,_⟩:=h;exact⟨es,clock,hb⟩
theorem HasMap.of_block {w':World} (h:HasMap P k w b f n) (hb:w'.heap[b]? = w.heap[b]?):HasMap P k w' b f n:=by
 obtain⟨D,⟨es,clock,hb0,r⟩,r'⟩:=h;exact⟨D,⟨es,clock,hb.trans hb0,r⟩,r'⟩
theorem HasMap.congr (h:HasMap P k w b f n) {g:Value->Option Value} (hg:∀ key kl,keyOf P k key=some kl->g key=f key):HasMap P k w b g n:=by
 obtain⟨D,h1,h2,h3⟩:=h;exact⟨D,h1,h2,fun key kl hk=>by rw [hg key kl hk];exact h3 key kl hk⟩
theorem HasMap.made (w:World) (P:Program) (k:TypeId):HasMap P k (w.alloc (.map #[] 0)) w.heap.size (fun _=>none) 0 :=
 ⟨.map [],World.ownsMap_made w P k pN,rfl,fun _ _ _=>⟨rfl,fun _ h=>by cases h⟩⟩
theorem HasMap.look {t e:TypeId} (h:HasMap P k w b f n) (K:Keyed P k) (ht:P.underlying t=some (.map k e)) {z:Value} (hz:(zeroValue e).run P w=.ok z w) {key:Value} {kl:Lit} (hk:keyOf P k key=some kl) :
 (Instr.lookup t (.map (some b)) key false).run P w=.ok ((f key).getD z) w:=by
 obtain⟨D,h1,_,h3⟩:=h;obtain⟨v,ps,hrun,hv⟩:=h1.lookup K ht hz (zd:=.held z) (zp:=[]) rfl hk;obtain⟨ha,hb⟩:=h3 key kl hk;have e1:=(As hv).1;rw [hrun]
 cases hf:f key with
 | some u =>
   rw [hb u hf]at e1
   cases e1
   rfl
 | none =>
   rw [hf]at ha;rw [Maps.atKey_of_not_has (by simpa using ha)]at e1
   cases e1
   rfl
theorem HasMap.len {t e:TypeId} (h:HasMap P k w b f n) (ht:P.underlying t=some (.map k e)) (ty:TypeId):(Builtin.len_ #[t] ty #[.map (some b)]).run P w=.ok (J n) w:=by
 obtain⟨D,h1,h2,_⟩:=h;rw [h1.len ht,h2]
theorem rQ (K:Keyed P k) {a c:Value} {la lc:Lit} (ha:keyOf P k a=some la) (hc:keyOf P k c=some lc) (hne:a≠c):la≠lc:=by
 intro e;subst e;exact hne (K.inj ha hc)
theorem HasMap.store {t e:TypeId} (h:HasMap P k w b f n) (K:Keyed P k) (ht:P.underlying t=some (.map k e)) (hn:n<maxLen) {key:Value} {kl:Lit} (hk:keyOf P k key=some kl) (val:Value)
 {g:Value->Option Value} (hg:g key=some val) (hg':∀ x,x≠key->g x=f x) :
 ∃ w',(Instr.mapUpdate t (.map (some b)) key val).run P w=.ok () w'/\HasMap P k w' b g (if (f key).isSome then n else n+1)/\w.mapTurned w' b:=by
 obtain⟨D,h1,h2,h3⟩:=h;obtain⟨w',hrun,r1,r2⟩:=h1.store K ht hn hk (val:=val) (d:=.held val) (ps:=[]) rfl;have hkl:=K.key hk;refine⟨w',hrun,⟨D.put kl (.held val),?_,?_,?_⟩,r2⟩
 ·obtain⟨es,clock,q1,q2,q3,q4⟩:=r1;have hsz:Maps.size (D.put kl (.held val))=es.size:=by rw [q4];simp [Maps.size,length_sorted]
  have:es.size=if (f key).isSome then n else n+1:=by
   rw [<- hsz,Maps.size_put (h1.tidy K),(h3 key kl hk).1,h2]
  exact⟨es,clock,q1,q2,by omega,q4⟩
 ·rw [Maps.size_put (h1.tidy K),(h3 key kl hk).1,h2]
 ·intro x lx hx
  by_cases hxk:x=key
  ·subst hxk;rw [hk]at hx
   cases hx
   rw [hg];exact⟨Maps.has_put_same h1.isMap hkl _,fun v hv zd=>by cases hv;exact Maps.atKey_put_same h1.isMap hkl _ _⟩
  ·have hne:=rQ K hx hk hxk;rw [hg' x hxk,Maps.has_put_other hne];exact⟨(h3 x lx hx).1,fun v hv zd=>by rw [Maps.atKey_put_other hne];exact(h3 x lx hx).2 v hv zd⟩
end
theorem nC {w w':World} {b:Nat} (h:w.mapTurned w' b):w'.heap.size=w.heap.size:=by
 obtain⟨_,_,_,_,_,rfl⟩:=h;simp [setBlock]
theorem lF {S:Nat->Prop} {w w':World} {b:Nat} (h:w.mapTurned w' b) (hS:S b):Keeps S w w':=Keeps.of_grown h.grown (fun x e=>by cases e;exact hS)
def Turned (w w':World) (b:Nat):Prop:=w'.heap.size=w.heap.size/\Keeps (fun x=>x=b) w w'
theorem Turned.of_drew {w w':World} {b:Nat} (h:w.drew.mapTurned w' b):Turned w w' b:=⟨(nC (w:=w.drew) h:_),have k:=lF (w:=w.drew) (S:=fun x=>x=b) h rfl;⟨k.os,k.tape,k.output,k.size,k.block⟩⟩
theorem Turned.block {w w':World} {b:Nat} (h:Turned w w' b) {c:Nat} (hc:c≠b):w'.heap[c]? = w.heap[c]?:=by
 by_cases hlt:c<w.heap.size
 ·exact h.2.block c hlt hc
 ·rw [Array.getElem?_eq_none (by have:=h.1;omega),Array.getElem?_eq_none (by omega)]
theorem Turned.cell {w w':World} {b:Nat} (h:Turned w w' b) {a:Addr} (ha:a.block≠b):w'.cell? a=w.cell? a:=World.cell?_of_block (h.block ha)
end
end Go.Proofs.YthaliljaglldjaaGreat
namespace Go.Proofs.YthaliljaglldjaaGreat
open Go.RowKit Go.ChangeMaps Go.MapKept
open Go.Maps (Keyed)
section
structure Val where
 kind:Int
 n:Int
 s:ByteArray
 l:List Val
 r:Int
inductive SlAt (w:World) (F:Nat->Prop):Value->List Val->Prop
 | mk (pa:Option Addr) (c:Nat) (l:List Val) (raw:Nat->Value) (hcp:l.length≤c/\(pa=none->c=0))
  (h:∀ (i:Nat) (v:Val),l[i]? = some v->∃ b o,pa=some ⟨b,o,none⟩/\F b/\w.cell? ⟨b,o+5 * i,none⟩=some (.int .u8 v.kind) /\
   w.cell? ⟨b,o+5 * i+1,none⟩=some (.int .i64 v.n)/\w.cell? ⟨b,o+5 * i+2,none⟩=some (.string v.s)/\w.cell? ⟨b,o+5 * i+3,none⟩=some (raw i)/\w.cell? ⟨b,o+5 * i+4,none⟩=some (.int .i64 v.r))
  (hr:∀ (i:Nat) (v:Val),l[i]? = some v->SlAt w F (raw i) v.l):SlAt w F (.slice pa l.length c) l
def gJ (e:Nat):Bool:=e==27 || e==125 || e==122 || e==221 || e==9
def Lists (F:Nat->Prop) (w w':World):Prop:=∀ b cs e fr,F b->w.heap[b]? = some (.cells cs e fr)->gJ e=true->w'.heap[b]? = w.heap[b]?
theorem Lists.of {F:Nat->Prop} {w w':World} (h:∀ b,F b->w'.heap[b]? = w.heap[b]?):Lists F w w':=fun b _ _ _ hF _ _=>h b hF
theorem SlAt.of_blocks {w w':World} {F F':Nat->Prop} {s:Value} {l:List Val} (h:SlAt w F s l) (hb:∀ b,F b->w'.heap[b]? = w.heap[b]?) (hF:∀ b,F b->F' b):SlAt w' F' s l:=by
 induction h with
 | mk pa c l raw hcp h hr ih =>
   refine .mk pa c l raw hcp (fun i v hv=>?_) ih;obtain⟨b,o,h1,h2,h4,h5,h6,h7,h8⟩:=h i v hv;have e:=hb b h2
   exact⟨b,o,h1,hF b h2,(World.cell?_of_block (a:=⟨b,o+5 * i,none⟩) e).trans h4,(World.cell?_of_block (a:=⟨b,o+5 * i+1,none⟩) e).trans h5,
    (World.cell?_of_block (a:=⟨b,o+5 * i+2,none⟩) e).trans h6,(World.cell?_of_block (a:=⟨b,o+5 * i+3,none⟩) e).trans h7,(World.cell?_of_block (a:=⟨b,o+5 * i+4,none⟩) e).trans h8⟩
theorem SlAt.nil (w:World) (F:Nat->Prop) (pa:Option Addr) (c:Nat) (h:pa=none->c=0:=by simp):SlAt w F (.slice pa 0 c) [] :=
 .mk pa c [] (fun _=>undef) ⟨Nat.zero_le _,h⟩ (fun i v h=>by simp at h) (fun i v h=>by simp at h)
inductive SlT (w:World) (F:Nat->Prop):Value->List Val->Prop
 | zero (pa:Option Addr) (c:Nat) (h0:pa=none->c=0):SlT w F (.slice pa 0 c) []
 | mk (b c:Nat) (cs:Array Value) (l:List Val) (raw:Nat->Value) (hcp:l.length≤c) (hF:F b) (hb:w.heap[b]? = some (.cells cs 27 (0,0)))
  (h:∀ (i:Nat) (v:Val),l[i]? = some v->cs[5 * i]? = some (.int .u8 v.kind)/\cs[5 * i+1]? = some (.int .i64 v.n)/\cs[5 * i+2]? = some (.string v.s)/\cs[5 * i+3]? = some (raw i)/\cs[5 * i+4]? = some (.int .i64 v.r))
  (hr:∀ (i:Nat) (v:Val),l[i]? = some v->SlT w F (raw i) v.l):SlT w F (.slice (some ⟨b,0,none⟩) l.length c) l
theorem SlT.of_blocks {w w':World} {F F':Nat->Prop} {s:Value} {l:List Val} (h:SlT w F s l) (hb:Lists F w w') (hF:∀ b,F b->F' b):SlT w' F' s l:=by
 induction h with
 | zero pa c h0=>exact .zero pa c h0
 | mk b c cs l raw hcp hFb hbk h hr ih=>exact .mk b c cs l raw hcp (hF b hFb) ((hb b cs _ _ hFb hbk (by simp [gJ])).trans hbk) h ih
theorem SlT.nil (w:World) (F:Nat->Prop) (pa:Option Addr) (c:Nat) (h:pa=none->c=0:=by simp):SlT w F (.slice pa 0 c) []:=.zero pa c h
structure Th where
 kind:Int
 home:Int
 v:Val
 vl:Value
 vs:List Val
 vals:Value
 n:Int
 lost:Int
 tgt:Int
 bi:Int
 set:Int
 full:Bool
 code:Value
 names:Value
def aF (t:Th):Array Value :=
 #[U t.kind,J t.home,U t.v.kind,J t.v.n,.string t.v.s,t.vl,J t.v.r,t.vals,J t.n,J t.lost,J t.tgt,J t.bi,U t.set,.bool t.full,t.code,t.names]
structure WM where
 parents:List Int
 cuts:List Bool
 things:List (Int × Th)
 last:Int
 made:List Int
def WM.at (M:WM) (r:Int):Option Th:=M.things.lookup r
def WM.find (M:WM) (t s:Int):Option Int:=(M.things.find? (fun x=>x.2.kind==14 && x.2.tgt==t && x.2.set==s)).map (·.1)
def cC (k:Int):Bool:=k==14 || k==15 || k==16
structure Th.wf (t:Th):Prop where
 kind:1≤t.kind/\t.kind≤16
 tgt:(Lit.int .i64 t.tgt).wf=true
 bi:(Lit.int .i64 t.bi).wf=true
 set:0≤t.set/\t.set≤255
structure WM.ok (M:WM):Prop where
 sides:M.parents.length<16
 cuts:M.cuts.length=M.parents.length+1
 made:M.made.length=M.parents.length+1
 tree:∀ (i:Nat) (p:Int),M.parents[i]? = some p->0≤p/\p≤i
 keys:M.things.Pairwise (fun x y=>x.1<y.1)
 range:∀ x ∈ M.things,0<x.1/\x.1≤M.last
 last:0≤M.last/\M.last≤1099511627776
 mades:∀ (i:Nat) (x:Int),M.made[i]? = some x->0≤x/\x≤512
 wf:∀ r t,M.at r=some t->t.wf
 homes:∀ r t,M.at r=some t->t.kind≠14->0≤t.home/\t.home<M.made.length
 wrap:∃ rk:Int->Nat,(∀ r,rk r≤M.last.toNat)/\∀ r t,M.at r=some t->cC t.kind=true->(∃ u,M.at t.tgt=some u)/\rk t.tgt<rk r
 gate:∀ r t,M.at r=some t->t.kind=15->∃ u,M.at t.bi=some u/\u.kind=13
 purse:∀ r t,M.at r=some t->t.kind=9->∃ u,M.at t.tgt=some u/\u.kind=8
 facet:∀ r t r' t',M.at r=some t->M.at r'=some t'->t.kind=14->t'.kind=14->t.tgt=t'.tgt->t.set=t'.set->r=r'
structure Deep (w:World) (F:Nat->Prop) (t:Th):Prop where
 v:SlT w F t.vl t.v.l
 vs:SlT w F t.vals t.vs
 code:t.code=.slice none 0 0
 names:t.names=.slice none 0 0
theorem Deep.of_blocks {w w':World} {F F':Nat->Prop} {t:Th} (h:Deep w F t) (hb:Lists F w w') (hF:∀ b,F b->F' b):Deep w' F' t :=
 ⟨h.v.of_blocks hb hF,h.vs.of_blocks hb hF,h.code,h.names⟩
def fB (M:WM) (bl:Int->Nat) (key:Value):Option Value :=
 match key with
 | .int .i64 r=>(M.at r).map fun _=>P_ (bl r)
 | _=>none
def gi (t s:Int):Value:=.agg #[J t,U s]
def kL (M:WM) (key:Value):Option Value :=
 match key with
 | .agg cs=>(match cs.toList with | [.int .i64 t,.int .u8 s]=>(M.find t s).map (Value.int .i64) | _=>none)
 | _=>none
def Row (w:World) (g:Nat) (e:TypeId) (cap:Nat) (xs:List Value):Prop :=
 ∃ cur:Array Value,w.heap[g]? = some (.cells cur e (0,0))/\cur.size=cap/\xs.length≤cap/\cap≤maxLen/\∀ (j:Nat) (x:Value),xs[j]? = some x->cur[j]? = some x
structure WV (w:World) (p:Nat) (M:WM) (F:Nat->Prop) (pa:Option Addr) (pc cg cc mg mc tb fb fn:Nat) (bl:Int->Nat):Prop where
 hp:w.heap[p]? = some (.cells #[.slice pa M.parents.length pc,.slice (some ⟨cg,0,none⟩) M.cuts.length cc,.map (some tb),.map (some fb),J M.last,.slice (some ⟨mg,0,none⟩) M.made.length mc] 140 (0,0))
 pars:∀ (j:Nat) (x:Int),M.parents[j]? = some x->∃ b o,pa=some ⟨b,o,none⟩/\F b/\(∃ cs fr,w.heap[b]? = some (.cells cs 35 fr))/\w.cell? ⟨b,o+j,none⟩=some (.int .i64 x)
 cut:Row w cg 4 cc (M.cuts.map Value.bool)
 mad:Row w mg 3 mc (M.made.map (Value.int .i64))
 things:HasMap Tryz.prog 25 w tb (fB M bl) M.things.length
 facets:HasMap Tryz.prog 211 w fb (kL M) fn
 fnle:(fn:Int)≤M.last
 blk:∀ r t,M.at r=some t->w.heap[bl r]? = some (.cells (aF t) 46 (0,0))/\F (bl r)/\Deep w F t
 inj:∀ r r' t t',M.at r=some t->M.at r'=some t'->bl r=bl r'->r=r'
 own:F p/\F cg/\F mg/\F tb/\F fb
 tf:tb≠fb
 lt:∀ b,F b->b<w.heap.size
 ok:M.ok
def IsW (w:World) (p:Nat) (M:WM) (F:Nat->Prop):Prop:=∃ pa pc cg cc mg mc tb fb fn bl,WV w p M F pa pc cg cc mg mc tb fb fn bl
theorem Row.of_block {w w':World} {g:Nat} {e:TypeId} {cap:Nat} {xs:List Value} (h:Row w g e cap xs) (hb:w'.heap[g]? = w.heap[g]?):Row w' g e cap xs:=by
 obtain⟨cur,h1,r⟩:=h;exact⟨cur,hb.trans h1,r⟩
theorem Row.cell {w:World} {g:Nat} {e:TypeId} {cap:Nat} {xs:List Value} (h:Row w g e cap xs) {j:Nat} {x:Value} (hx:xs[j]? = some x):w.cell? ⟨g,j,none⟩=some x:=by
 obtain⟨cur,h1,_,_,_,h2⟩:=h;rw [ag h1];exact h2 j x hx
theorem Row.free {w:World} {g:Nat} {e:TypeId} {cap:Nat} {xs:List Value} (h:Row w g e cap xs) (j:Nat):w.frozen? ⟨g,j,none⟩=false:=by
 obtain⟨cur,h1,_⟩:=h;exact av h1 j
theorem Row.set {w:World} {g:Nat} {e:TypeId} {cap:Nat} {xs:List Value} (h:Row w g e cap xs) (j:Nat) (v:Value):Row (w.setCell ⟨g,j,none⟩ v) g e cap (xs.set j v):=by
 obtain⟨cur,h1,h2,h3,h4,h5⟩:=h;refine⟨_,aA h1 j v,by simpa using h2,by simpa using h3,h4,fun i x hx=>?_⟩;rw [List.getElem?_set]at hx;rw [Array.getElem?_setIfInBounds];split at hx
 ·rename_i e1
  subst e1;split at hx
  ·rename_i hlt
   rw [if_pos rfl,if_pos (by omega)];exact hx
  ·cases hx
 ·rename_i e1
  rw [if_neg e1];exact h5 i x hx
section
variable {w:World} {p:Nat} {M:WM} {F:Nat->Prop} {pa:Option Addr} {pc cg cc mg mc tb fb fn:Nat} {bl:Int->Nat}
theorem WV.of_blocks {w':World} (h:WV w p M F pa pc cg cc mg mc tb fb fn bl) (hsz:w.heap.size≤w'.heap.size) (hb:∀ b,F b->w'.heap[b]? = w.heap[b]?):WV w' p M F pa pc cg cc mg mc tb fb fn bl where
 hp:=(hb p h.own.1).trans h.hp
 pars j x hx:=by
  obtain⟨b,o,h1,h2,⟨cs,fr,h3⟩,h4⟩:=h.pars j x hx;exact⟨b,o,h1,h2,⟨cs,fr,(hb b h2).trans h3⟩,(World.cell?_of_block (hb b h2)).trans h4⟩
 cut:=h.cut.of_block (hb cg h.own.2.1)
 mad:=h.mad.of_block (hb mg h.own.2.2.1)
 things:=h.things.of_block (hb tb h.own.2.2.2.1)
 facets:=h.facets.of_block (hb fb h.own.2.2.2.2)
 fnle:=h.fnle
 blk r t ht:=by
  obtain⟨h1,h2,h3⟩:=h.blk r t ht;exact⟨(hb _ h2).trans h1,h2,h3.of_blocks (Lists.of hb) fun _ h=>h⟩
 inj:=h.inj
 own:=h.own
 tf:=h.tf
 lt b hF:=Nat.lt_of_lt_of_le (h.lt b hF) hsz
 ok:=h.ok
theorem WV.keeps {w':World} {S:Nat->Prop} (h:WV w p M F pa pc cg cc mg mc tb fb fn bl) (k:Keeps S w w') (hS:∀ b,F b->¬ S b):WV w' p M F pa pc cg cc mg mc tb fb fn bl :=
 h.of_blocks k.size fun b hF=>k.block b (h.lt b hF) (hS b hF)
theorem WV.below {w':World} (h:WV w p M F pa pc cg cc mg mc tb fb fn bl) (k:Bl w w'):WV w' p M F pa pc cg cc mg mc tb fb fn bl :=
 h.of_blocks k.size fun b hF=>k.block b (h.lt b hF)
theorem IsW.below {w':World} (h:IsW w p M F) (k:Bl w w'):IsW w' p M F:=by
 obtain⟨pa,pc,cg,cc,mg,mc,tb,fb,fn,bl,h⟩:=h;exact⟨pa,pc,cg,cc,mg,mc,tb,fb,fn,bl,h.below k⟩
theorem IsW.keeps {w':World} {S:Nat->Prop} (h:IsW w p M F) (k:Keeps S w w') (hS:∀ b,F b->¬ S b):IsW w' p M F:=by
 obtain⟨pa,pc,cg,cc,mg,mc,tb,fb,fn,bl,h⟩:=h;exact⟨pa,pc,cg,cc,mg,mc,tb,fb,fn,bl,h.keeps k hS⟩
theorem IsW.lt (h:IsW w p M F):∀ b,F b->b<w.heap.size:=by
 obtain⟨pa,pc,cg,cc,mg,mc,tb,fb,fn,bl,h⟩:=h;exact h.lt
theorem IsW.ok (h:IsW w p M F):M.ok:=by
 obtain⟨pa,pc,cg,cc,mg,mc,tb,fb,fn,bl,h⟩:=h;exact h.ok
theorem WV.c0 (h:WV w p M F pa pc cg cc mg mc tb fb fn bl):w.cell? ⟨p,0,none⟩=some (.slice pa M.parents.length pc):=by rw [ag h.hp];rfl
theorem WV.c1 (h:WV w p M F pa pc cg cc mg mc tb fb fn bl):w.cell? ⟨p,1,none⟩=some (.slice (some ⟨cg,0,none⟩) M.cuts.length cc):=by rw [ag h.hp];rfl
theorem WV.c2 (h:WV w p M F pa pc cg cc mg mc tb fb fn bl):w.cell? ⟨p,2,none⟩=some (.map (some tb)):=by rw [ag h.hp];rfl
theorem WV.c4 (h:WV w p M F pa pc cg cc mg mc tb fb fn bl):w.cell? ⟨p,4,none⟩=some (.int .i64 M.last):=by rw [ag h.hp];rfl
theorem WV.c5 (h:WV w p M F pa pc cg cc mg mc tb fb fn bl):w.cell? ⟨p,5,none⟩=some (.slice (some ⟨mg,0,none⟩) M.made.length mc):=by rw [ag h.hp];rfl
end
theorem eu:Keyed Tryz.prog 25:=Maps.int_keyed Tryz.underlying25
theorem Tryz.laidOut:laidOutB Tryz.prog=true:=by kernel_rfl
theorem Tryz.rowFKey:(211:TypeId)<Tryz.prog.types.size:=of_decide_eq_true (by kernel_rfl)
theorem rq:Keyed Tryz.prog 211:=Keyed.of_law (deep_law_laid Tryz.laidOut (m:=2) (by omega) Tryz.rowFKey (by kernel_rfl) (by
 have h:=Tryz.underlying211;generalize Tryz.prog.underlying 211=x at h ⊢;subst h
 rfl))
theorem kN (w:World):(zeroValue 146).run Tryz.prog w=.ok (.pointer none) w:=by kernel_rfl
theorem iJ {r:Int} (h:(Lit.int .i64 r).wf=true):keyOf Tryz.prog 25 (J r)=some (.int .i64 r):=Maps.keyOf_int_mk Tryz.underlying25 h
theorem Tryz.fkeyType:Tryz.prog.keyType 211=true:=by kernel_rfl
theorem Tryz.fkeyCells:Tryz.prog.cellsOf 211=2:=by kernel_rfl
theorem Tryz.refCells:Tryz.prog.cellsOf 25=1:=by kernel_rfl
theorem Tryz.ableCells:Tryz.prog.cellsOf 42=1:=by kernel_rfl
theorem rB {t s:Int} (ht:(Lit.int .i64 t).wf=true) (hs:(Lit.int .u8 s).wf=true) (m:Nat):Tryz.prog.keyLits (m+2) 211 (gi t s).cells.toList=some [.int .i64 t,.int .u8 s]:=by
 simp [gi,Value.cells,Program.keyLits,Tryz.underlying211,Tryz.fkeyCells,Tryz.underlying25,Tryz.underlying42,Tryz.refCells,Tryz.ableCells,ht,hs]
theorem Tryz.typesSize:∃ m,Tryz.prog.types.size=m+1:=⟨_,(Nat.sub_add_cancel (Nat.le_trans (by omega) Tryz.rowFKey)).symm⟩
theorem zn {t s:Int} (ht:(Lit.int .i64 t).wf=true) (hs:(Lit.int .u8 s).wf=true):∃ kl,keyOf Tryz.prog 211 (gi t s)=some kl:=by
 obtain⟨m,hm⟩:=Tryz.typesSize
 have hform:(gi t s).formed Tryz.prog 211=true:=by
  simp [gi,Value.formed,Tryz.underlying211,Tryz.fkeyCells]
 have hl:=rB ht hs m;have hk:=Tryz.fkeyType;have hu:=Tryz.underlying211;unfold keyOf;rw [hm];generalize Tryz.prog.underlying 211=x at hu ⊢;subst hu;generalize Tryz.prog.keyLits (m+2) 211 (gi t s).cells.toList=y at hl;subst hl;generalize Tryz.prog.keyType 211=u at hk ⊢;subst hk;generalize (gi t s).formed Tryz.prog 211=v at hform ⊢;subst hform;exact⟨_,rfl⟩
theorem mq:(Tryz.prog.info? 25).map (fun i=>(i.zero,i.size,i.bytes))=some (some (.int .i64 0),1,8):=by kernel_rfl
theorem append_ref {w:World} {ops:Array Oper} {rest:List Oper} {o:Oper} {a:Act} {Q:Exit->Act->World->Prop} (hgd:o.guard=none) (s x:Operand)
 (ho:o.op=.call { callee:=.builtin .append,args:=#[s,x],argTypes:=#[77,77] }) (base:Nat)
 (v:Value) (l:List Int) (hs:a.eval s=v) (hown:w.ownsRow base 25 1 v l.length (l.map (Value.int .i64))) (y:Int) (hx:a.eval x=.slice (some ⟨w.heap.size,0,none⟩) 1 1)
 (hn:Hid ((l.length:Int)≤1099511627777)) (hbase:base≤w.heap.size)
 (h:∀ v' w',w'.ownsRow base 25 1 v' (l ++ [y]).length ((l ++ [y]).map (Value.int .i64))->w.grownBy w' v.ownBlock->Below base w w'->wpList Tryz.prog ops Q rest (a.put o.dst v') w'):wpList Tryz.prog ops Q (o :: rest) a (w.alloc (.cells #[J y] 25)) :=
 oG hgd s x 77 ho base 25 (J 0) 8 Tryz.underlying77 mq rfl v l.length _ hs hown (J y) hx rfl hn.out (by decide) hbase fun v' w' r1 r2 r3=>h v' w' (by simpa using r1) r2 r3
section
variable {w:World} {p:Nat} {M:WM} {F:Nat->Prop} {pa:Option Addr} {pc cg cc mg mc tb fb fn:Nat} {bl:Int->Nat}
theorem WV.look (h:WV w p M F pa pc cg cc mg mc tb fb fn bl) {r:Int} (hr:(Lit.int .i64 r).wf=true) :
 (Instr.lookup 137 (.map (some tb)) (J r) false).run Tryz.prog w=.ok (.pointer ((M.at r).map fun _=>⟨bl r,0,none⟩)) w:=by
 have:=h.things.look eu Tryz.underlying137 (kN w) (iJ hr);rw [this]
 cases ha:M.at r <;> simp [fB,ha]
end
@[go_sem] theorem eqMThings (w:World) (r:Option Nat):(binOp .eql 137 (.map r) (.map none)).run Tryz.prog w=.ok (.bool r.isNone) w:=run_eql_map_nil w _ _ _ r Tryz.underlying137
@[go_sem] theorem eqnil_LValue (w:World) (a:Option Addr) (n c n' c':Nat):(binOp .eql 24 (.slice a n c) (.slice none n' c')).run Tryz.prog w=.ok (.bool a.isNone) w:=Lib.run_eql_slice_nil w _ _ a n c n' c' Tryz.underlying24
@[go_sem] theorem eqnil_LName (w:World) (a:Option Addr) (n c n' c':Nat):(binOp .eql 44 (.slice a n c) (.slice none n' c')).run Tryz.prog w=.ok (.bool a.isNone) w:=Lib.run_eql_slice_nil w _ _ a n c n' c' Tryz.underlying44
@[go_sem] theorem eqnil_LStmt (w:World) (a:Option Addr) (n c n' c':Nat):(binOp .eql 43 (.slice a n c) (.slice none n' c')).run Tryz.prog w=.ok (.bool a.isNone) w:=Lib.run_eql_slice_nil w _ _ a n c n' c' Tryz.underlying43
@[go_sem] theorem eqnil_LSide (w:World) (a:Option Addr) (n c n' c':Nat):(binOp .eql 39 (.slice a n c) (.slice none n' c')).run Tryz.prog w=.ok (.bool a.isNone) w:=Lib.run_eql_slice_nil w _ _ a n c n' c' Tryz.underlying39
@[go_sem] theorem eqnil_Lint (w:World) (a:Option Addr) (n c n' c':Nat):(binOp .eql 64 (.slice a n c) (.slice none n' c')).run Tryz.prog w=.ok (.bool a.isNone) w:=Lib.run_eql_slice_nil w _ _ a n c n' c' Tryz.underlying64
@[go_sem] theorem eqnil_Lbool (w:World) (a:Option Addr) (n c n' c':Nat):(binOp .eql 92 (.slice a n c) (.slice none n' c')).run Tryz.prog w=.ok (.bool a.isNone) w:=Lib.run_eql_slice_nil w _ _ a n c n' c' Tryz.underlying92
end
end Go.Proofs.YthaliljaglldjaaGreat
