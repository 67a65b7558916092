/- Part of the proof. -/
import Derived.Test.YthaliljaglldjaaGreatmAA
import Derived.Deep.QuietTactic
import Derived.BigQuiet
import Derived.Deep.MidRow
import Derived.Deep.CutBlock
import Derived.Deep.DeepCutAuto
namespace Go.Proofs.YthaliljaglldjaaGreat
set_option maxHeartbeats 16000000
set_option maxRecDepth 20000
open Go.RowKit Go.ChangeMaps Go.MapKept
section
def Plain (k n:Int):Prop:=(k=0/\n=0)\/k=1
theorem vMay_W (w:World) (k n:Int) (h:Plain k n):Calls Tryz.prog 161 #[.agg #[.int .u8 k,.int .i64 n,.string ⟨#[]⟩,.slice none 0 0,.int .i64 0]] w fun e w'=>e=.returned (.bool true)/\Below w.heap.size w w':=by
 rcases h with ⟨rfl,rfl⟩ | rfl
 ·go_enter Tryz.func161,Tryz.ntmps161
  go_wp2
  go_ret
  exact⟨rfl,by go_grown⟩
 ·go_enter Tryz.func161,Tryz.ntmps161
  go_wp2
  go_ret
  exact⟨rfl,by go_grown⟩
theorem vown_W (w:World) (k n:Int):Calls Tryz.prog 228 #[.agg #[.int .u8 k,.int .i64 n,.string ⟨#[]⟩,.slice none 0 0,.int .i64 0]] w fun e w'=>e=.returned (.agg #[.int .u8 k,.int .i64 n,.string ⟨#[]⟩,.slice none 0 0,.int .i64 0])/\Below w.heap.size w w':=by
 go_enter Tryz.func228,Tryz.ntmps228
 go_wp2
 go_returns
 exact⟨rfl,by go_grown⟩
theorem vOwn_W (w:World) (k n:Int) (h:Plain k n):Calls Tryz.prog 232 #[.agg #[.int .u8 k,.int .i64 n,.string ⟨#[]⟩,.slice none 0 0,.int .i64 0]] w fun e w' =>
 e=.returned (.tuple #[.agg #[.int .u8 k,.int .i64 n,.string ⟨#[]⟩,.slice none 0 0,.int .i64 0],.int .i64 0])/\Below w.heap.size w w':=by
 go_enter Tryz.func232,Tryz.ntmps232
 go_wp2_with fail
 refine(vMay_W _ k n h).mono ?_;rintro e w1 ⟨rfl,hb1⟩;obtain⟨hc,hf⟩:=bcell hb1;have hz:w.heap.size+1<w1.heap.size:=by have:=hb1.size;simp at this;omega
 have HB:Hid (Below w.heap.size w w1):=(((Below.refl _ _).alloc (Nat.le_refl _) _).alloc (by simp) _).trans (hb1.mono (by simp;omega));clear hb1
 go_wp2_with fail
 refine(vown_W _ k n).mono ?_;rintro e w2 ⟨rfl,hb2⟩;obtain⟨hc2,hf2⟩:=bcell hb2;have hz2:w.heap.size+1<w2.heap.size:=by have:=hb2.size;omega
 have HB2:Hid (Below w.heap.size w w2):=HB.out.trans (hb2.mono HB.out.size);clear hb2
 go_wp2_with fail
 have hB2:=HB2.out;have hz1:w.heap.size+1<w1.heap.size:=hz;exact bodyPost_ret (v:=.tuple #[.agg #[.int .u8 k,.int .i64 n,.string ⟨#[]⟩,.slice none 0 0,.int .i64 0],.int .i64 0]) (by simp [results,Tryz.results232,go_sem,hc,hc2,hz1]) rfl ⟨rfl,by go_grown⟩
theorem cloneVal_W (w:World):Calls Tryz.prog 171 #[.slice none 0 0] w fun e w'=>e=.returned (.slice none 0 0)/\Below w.heap.size w w':=by
 go_enter Tryz.func171,Tryz.ntmps171
 go_wp2
 go_ret
 exact⟨rfl,by go_grown⟩
theorem cloneName_W (w:World):Calls Tryz.prog 172 #[.slice none 0 0] w fun e w'=>e=.returned (.slice none 0 0)/\w=w':=by
 go_enter Tryz.func172,Tryz.ntmps172
 go_wp2
 go_ret
 exact⟨rfl,rfl⟩
theorem cloneStmt_W (w:World):Calls Tryz.prog 233 #[.slice none 0 0] w fun e w'=>e=.returned (.slice none 0 0)/\w=w':=by
 go_enter Tryz.func233,Tryz.ntmps233
 go_wp2
 go_ret
 exact⟨rfl,rfl⟩
theorem ownCode_W (w:World):Calls Tryz.prog 173 #[.slice none 0 0] w fun e w'=>e=.returned (.slice none 0 0)/\w=w':=by
 go_enter Tryz.func173,Tryz.ntmps173
 go_wp2_with fail
 refine(cloneStmt_W _).mono ?_;rintro e w1 ⟨rfl,rfl⟩
 go_wp2_with fail
 go_rounds 1
 go_ret
 exact⟨rfl,rfl⟩
theorem containsRef_W (w:World) (f:Value):Calls Tryz.prog 165 #[.slice none 0 0,f] w fun e w'=>e=.returned (.bool false)/\w=w':=by
 go_enter Tryz.func165,Tryz.ntmps165
 go_wp2
 go_rounds 1
 go_ret
 exact⟨rfl,rfl⟩
theorem wown_W (w:World) (k n:Int) (h:Plain k n):Calls Tryz.prog 170 #[.agg #[.int .u8 k,.int .i64 n,.string ⟨#[]⟩,.slice none 0 0,.int .i64 0]] w fun e w'=>e=.returned (.agg #[.int .u8 k,.int .i64 n,.string ⟨#[]⟩,.slice none 0 0,.int .i64 0])/\Below w.heap.size w w':=by
 go_enter Tryz.func170,Tryz.ntmps170
 go_wp2_with fail
 refine(vOwn_W _ k n h).mono ?_;rintro e w1 ⟨rfl,hb1⟩;obtain⟨⟨a0,a1,a2,a3,a4⟩,f0,f1,f2,f3,f4⟩:=cells5 (below_blk hb1 (blk2_new _ _ _));have hz:w.heap.size+1<w1.heap.size:=by have:=hb1.size;simp at this;omega
 have HB:Hid (Below w.heap.size w w1):=(((Below.refl _ _).alloc (Nat.le_refl _) _).alloc (by simp) _).trans (hb1.mono (by simp;omega));clear hb1
 go_wp2_with fail
 have hB:=HB.out;have hz1:w.heap.size≤w1.heap.size:=by omega
 exact bodyPost_ret (v:=.agg #[.int .u8 k,.int .i64 n,.string ⟨#[]⟩,.slice none 0 0,.int .i64 0]) (by simp [results,Tryz.results170,go_sem,a0,a1,a2,a3,a4,hz]) rfl ⟨rfl,by go_grown⟩
end
section
def vcs (v:Val) (raw:Value):Array Value:=#[.int .u8 v.kind,.int .i64 v.n,.string v.s,raw,.int .i64 v.r]
def chk (n:Int) (s:ByteArray) (r:Int) (len:Nat):Bool:=n==0 && (s == ⟨#[]⟩ && (r==0 && len==0))
def takeB (rec:Nat->List Val->Option Nat) (p:Nat) (v:Val):Option Nat :=
 match p with
 | 0=>none
 | p+1 =>
   if v.kind=0 then (if chk v.n v.s v.r v.l.length then some p else none)
   else if v.kind=1 then (if chk 0 v.s v.r v.l.length then some p else none)
   else if v.kind=2 then (if v.s.size > 256 then none else if chk v.n ⟨#[]⟩ v.r v.l.length then some p else none)
   else if v.kind=4 then (if v.r<1 then none else if chk v.n v.s 0 v.l.length then some p else none)
   else if v.kind=3 then (match rec p v.l with | none=>none | some q=>if chk v.n v.s v.r 0 then some q else none)
   else none
def takeV:Nat->Nat->Val->Option Nat
 | 0,p,v=>takeB (fun _ _=>none) p v
 | n+1,p,v=>takeB (fun p l=>if l.length > p then none else l.foldlM (takeV n) p) p v
def takeL (n p:Nat) (l:List Val):Option Nat:=l.foldlM (takeV n) p
theorem takeL_le {n:Nat} (ih:∀ p v q,takeV n p v=some q->q≤p):∀ (l:List Val) (p q:Nat),takeL n p l=some q->q≤p
 | [],p,q,h=>by
   simp [takeL]at h;omega
 | x :: l,p,q,h=>by
   simp only [takeL,List.foldlM_cons,bind,Option.bind_eq_some_iff]at h;obtain⟨a,h1,h2⟩:=h;have:=ih _ _ _ h1;have:=takeL_le ih l a q h2;omega
theorem takeB_lt {rec:Nat->List Val->Option Nat} (hr:∀ p l q,rec p l=some q->q≤p) {p:Nat} {v:Val} {q:Nat} (h:takeB rec p v=some q):q<p:=by
 unfold takeB at h;split at h
 ·cases h
 ·repeat' split at h
  all_goals first
   | (cases h;omega)
   | (cases h;done)
   | (cases h;have:=hr _ _ _ (by assumption);omega)
theorem takeV_lt:∀ {n p:Nat} {v:Val} {q:Nat},takeV n p v=some q->q<p
 | 0,_,_,_,h=>takeB_lt (fun _ _ _ h=>by cases h) h
 | n+1,_,_,_,h=>takeB_lt (fun p l q h=>by
     split at h
     ·cases h
     ·exact takeL_le (fun p v q h=>Nat.le_of_lt (takeV_lt h)) l p q h) h
def ldV (a:Value):Sem Next:=do pure (.value (← Instr.loadAt 27 a))
theorem loadV_mid {w:World} {b o:Nat} {cs:List Value} (hc:w.rangeAt b o cs) (hs:cs.length=5):(ldV (.pointer (some ⟨b,o,none⟩))).run Tryz.prog w=.ok (.value (.agg cs.toArray)) w:=by
 have:=run_loadAt_mid w b o 27 cs _ hc Tryz.underlying27 rfl (by rw [hs];exact sizeValue);simp only [ldV,Sem.run_bind,this,Result.andThen,Sem.run_pure]
theorem SlAt.range {w:World} {F:Nat->Prop} {s:Value} {l:List Val} (h:SlAt w F s l) {i:Nat} {v:Val} (hv:l[i]? = some v) :
 ∃ b o c raw,s=.slice (some ⟨b,o,none⟩) l.length c/\w.rangeAt b (o+i * 5) (vcs v raw).toList/\b<w.heap.size/\F b/\SlAt w F raw v.l:=by
 cases h with
 | mk pa c l raw h hr =>
   obtain⟨b,o,h1,h2,h4,h5,h6,h7,h8⟩:=h i v hv;refine⟨b,o,c,raw i,by rw [h1],fun j x hj=>?_,World.block_lt_of_cell? _ _ h4,h2,hr i v hv⟩;have e:∀ k,o+i * 5+k=o+5 * i+k:=fun k=>by omega
   rw [e]
   match j,hj with
   | 0,hj=>cases hj;exact h4
   | 1,hj=>cases hj;exact h5
   | 2,hj=>cases hj;exact h6
   | 3,hj=>cases hj;exact h7
   | 4,hj=>cases hj;exact h8
theorem SlAt.form {w:World} {F:Nat->Prop} {s:Value} {l:List Val} (h:SlAt w F s l):∃ pa c,s=.slice pa l.length c:=by
 cases h with
 | mk pa c l raw h hr=>exact⟨pa,c,rfl⟩
theorem SlAt.keeps {w w':World} {F:Nat->Prop} {S:Nat->Prop} {s:Value} {l:List Val} (h:SlAt w F s l) (hk:Keeps S w w') (hS:∀ b,S b->F b->False):SlAt w' F s l:=by
 induction h with
 | mk pa c l raw h hr ih =>
   refine .mk pa c l raw (fun i v hv=>?_) ih;obtain⟨b,o,h1,h2,h4,h5,h6,h7,h8⟩:=h i v hv;have e:=hk.block b (World.block_lt_of_cell? _ _ h4) (fun hs=>hS b hs h2)
   exact⟨b,o,h1,h2,(World.cell?_of_block (a:=⟨b,o+5 * i,none⟩) e).trans h4,(World.cell?_of_block (a:=⟨b,o+5 * i+1,none⟩) e).trans h5,
    (World.cell?_of_block (a:=⟨b,o+5 * i+2,none⟩) e).trans h6,(World.cell?_of_block (a:=⟨b,o+5 * i+3,none⟩) e).trans h7,(World.cell?_of_block (a:=⟨b,o+5 * i+4,none⟩) e).trans h8⟩
theorem SlAt.on {w w':World} {F:Nat->Prop} {s:Value} {l:List Val} (h:SlAt w F s l) (hb:Bl w w'):SlAt w' F s l :=
 h.keeps (S:=fun _=>False) (Keeps.of_below hb) (fun _ h _=>h)
theorem SlAt.mono {w:World} {F F':Nat->Prop} {s:Value} {l:List Val} (h:SlAt w F s l) (hF:∀ b,F b->F' b):SlAt w F' s l:=h.of_blocks (fun _ _=>rfl) hF
theorem SlAt.lt {w:World} {F:Nat->Prop} {s:Value} {l:List Val} (h:SlAt w F s l):SlAt w (fun b=>F b/\b<w.heap.size) s l:=by
 induction h with
 | mk pa c l raw h hr ih =>
   refine .mk pa c l raw (fun i v hv=>?_) ih;obtain⟨b,o,h1,h2,h4,h5,h6,h7,h8⟩:=h i v hv;exact⟨b,o,h1,⟨h2,World.block_lt_of_cell? _ _ h4⟩,h4,h5,h6,h7,h8⟩
theorem SlT.at {w:World} {F:Nat->Prop} {s:Value} {l:List Val} (h:SlT w F s l):SlAt w F s l:=SlAt.mono h fun _ h=>h.1
theorem SlT.form {w:World} {F:Nat->Prop} {s:Value} {l:List Val} (h:SlT w F s l):∃ pa c,s=.slice pa l.length c:=SlAt.form h
theorem SlT.mono {w:World} {F F':Nat->Prop} {s:Value} {l:List Val} (h:SlT w F s l) (hF:∀ b,F b->F' b):SlT w F' s l:=SlAt.mono h fun b ⟨h1,h2⟩=>⟨hF b h1,h2⟩
theorem SlT.monoLt {w:World} {F F':Nat->Prop} {s:Value} {l:List Val} (h:SlT w F s l) (hF:∀ b,F b->b<w.heap.size->F' b):SlT w F' s l:=SlAt.mono h fun b ⟨h1,cs,fr,h2⟩=>⟨hF b h1 (blk_lt h2),cs,fr,h2⟩
theorem SlT.on {w w':World} {F:Nat->Prop} {s:Value} {l:List Val} (h:SlT w F s l) (hb:Bl w w'):SlT w' F s l :=
 SlAt.mono (SlAt.on (SlAt.lt h) hb) fun b ⟨⟨h1,cs,fr,h2⟩,h3⟩=>⟨h1,cs,fr,(hb.block b h3).trans h2⟩
section
variable {n p:Nat} {v:Val}
theorem tk0 (h:v.kind=0):takeV n (p+1) v=if chk v.n v.s v.r v.l.length then some p else none:=by
 cases n <;> simp [takeV,takeB,h]
theorem tk1 (h:v.kind=1):takeV n (p+1) v=if chk 0 v.s v.r v.l.length then some p else none:=by
 cases n <;> simp [takeV,takeB,h]
theorem tk2 (h:v.kind=2):takeV n (p+1) v=if v.s.size > 256 then none else if chk v.n ⟨#[]⟩ v.r v.l.length then some p else none:=by
 cases n <;> simp [takeV,takeB,h]
theorem tk4 (h:v.kind=4):takeV n (p+1) v=if v.r<1 then none else if chk v.n v.s 0 v.l.length then some p else none:=by
 cases n <;> simp [takeV,takeB,h]
theorem tk3z (h:v.kind=3):takeV 0 (p+1) v=none:=by
 simp [takeV,takeB,h]
theorem tk3l (h:v.kind=3) (hl:v.l.length > p):takeV (n+1) (p+1) v=none:=by
 simp [takeV,takeB,h,hl]
theorem tk3 (h:v.kind=3) (hl:¬ v.l.length > p):takeV (n+1) (p+1) v=(match takeL n p v.l with | none=>none | some q=>if chk v.n v.s v.r 0 then some q else none):=by
 simp only [takeV,takeB,h,hl];rfl
theorem tkx (h0:v.kind≠0) (h1:v.kind≠1) (h2:v.kind≠2) (h3:v.kind≠3) (h4:v.kind≠4):takeV n (p+1) v=none:=by
 cases n <;> simp [takeV,takeB,h0,h1,h2,h3,h4]
end
theorem Keeps.alloc {S:Nat->Prop} {w w':World} (h:Keeps S w w') (o:Obj):Keeps S w (w'.alloc o):=h.then_below ((Below.refl _ _).alloc (Nat.le_refl _) _)
theorem Keeps.drewN {S:Nat->Prop} {a b:World} (h:Keeps S a b) (m:Nat):Keeps S a (b.drewN m):=⟨h.os,h.tape,h.output,h.size,h.block⟩
def mayV (v:Val):Bool:=(takeV 16 512 v).isSome
variable {w:World} {F:Nat->Prop} {v:Val} {raw:Value}
end
section
theorem vRefs1_W (w:World) (k n:Int) (h:Plain k n) (p:Option Addr) (l:Value):Calls Tryz.prog 265 #[l,.agg #[.int .u8 k,.int .i64 n,.string ⟨#[]⟩,.slice none 0 0,.int .i64 0],.pointer p] w fun e w'=>e=.returned (.bool true)/\Below w.heap.size w w':=by
 have hk4:(k==4)=false:=by rcases h with ⟨rfl,rfl⟩ | rfl <;> rfl
 go_enter Tryz.func265,Tryz.ntmps265
 go_wp2
 go_ret
 exact⟨rfl,by go_grown⟩
theorem vwalk_W (w:World) (k n:Int) (h:Plain k n) (p:Option Addr):Calls Tryz.prog 264 #[.agg #[.int .u8 k,.int .i64 n,.string ⟨#[]⟩,.slice none 0 0,.int .i64 0],.slice none 0 0,.func (.func 265) #[] #[.pointer p]] w fun e w'=>e=.returned (.bool true)/\Below w.heap.size w w':=by
 go_enter Tryz.func264,Tryz.ntmps264
 go_wp2_with fail
 refine(vRefs1_W _ k n h _ _).mono ?_;rintro e w1 ⟨rfl,hb1⟩;obtain⟨⟨a0,a1,a2,a3,a4⟩,f0,f1,f2,f3,f4⟩:=cells5 (below_blk hb1 (blk_new _ _));have hz:w.heap.size<w1.heap.size:=by have:=hb1.size;simp at this;omega
 have HB:Hid (Below w.heap.size w w1):=((Below.refl _ _).alloc (Nat.le_refl _) _).trans (hb1.mono (by simp;try omega));clear hb1
 go_wp2_with fail
 go_rounds 1
 go_ret
 have hB:=HB.out;exact⟨rfl,by go_grown⟩
theorem vRefs_W (w:World) (k n:Int) (h:Plain k n):Calls Tryz.prog 231 #[.agg #[.int .u8 k,.int .i64 n,.string ⟨#[]⟩,.slice none 0 0,.int .i64 0]] w fun e w'=>e=.returned (.slice none 0 0)/\Below w.heap.size w w':=by
 go_enter Tryz.func231,Tryz.ntmps231
 go_wp2_with fail
 refine(vMay_W _ k n h).mono ?_;rintro e w1 ⟨rfl,hb1⟩;obtain⟨⟨a0,a1,a2,a3,a4⟩,f0,f1,f2,f3,f4⟩:=cells5 (below_blk hb1 (blk2_old _ _ _));have b0:w1.heap[w.heap.size+1]? = some (.cells #[.slice none 0 0] 77 (0,0)):=below_blk hb1 (blk2_new _ _ _);have hz:w.heap.size+1<w1.heap.size:=by have:=hb1.size;simp at this;omega
 have HB:Hid (Below w.heap.size w w1):=(((Below.refl _ _).alloc (Nat.le_refl _) _).alloc (by simp) _).trans (hb1.mono (by simp;omega));clear hb1
 go_wp2_with fail
 refine(vwalk_W _ k n h _).mono ?_;rintro e w2 ⟨rfl,hb2⟩;have b2:w2.cell? ⟨w.heap.size+1,0,none⟩=some (.slice none 0 0):=by rw [cell_blk (below_blk hb2 b0)];rfl
 have hz2:w.heap.size+1<w2.heap.size:=by have:=hb2.size;omega
 have HB2:Hid (Below w.heap.size w w2):=HB.out.trans (hb2.mono HB.out.size);clear hb2
 go_wp2_with fail
 go_ret
 have hB:=HB2.out;have hz1:w.heap.size≤w1.heap.size:=by omega
 exact⟨rfl,by go_grown⟩
end
section
abbrev lite (k h vk vn n l tg bi s:Int) (fu:Bool):Array Value:=(wr k h vk vn n l tg bi s fu)
theorem held_W (w:World) (k h vk vn n l tg bi s:Int) (fu:Bool) (hp:Plain vk vn):Calls Tryz.prog 166 #[.agg (wr k h vk vn n l tg bi s fu)] w fun e w'=>e=.returned (.slice none 0 0)/\Bl w w':=by
 go_enter Tryz.func166,Tryz.ntmps166
 go_wp2_with fail
 refine(vRefs_W _ vk vn hp).mono ?_;rintro e w1 ⟨rfl,hb1⟩;have B1:=below_blk hb1 (blk_new _ _);have c7:w1.cell? ⟨w.heap.size,7,none⟩=some (.slice none 0 0):=by rw [cell_blk B1];rfl
 have c15:w1.cell? ⟨w.heap.size,15,none⟩=some (.slice none 0 0):=by rw [cell_blk B1];rfl
 have HB:Hid (Bl w w1):=((Below.refl _ _).alloc (Nat.le_refl _) _).trans (hb1.mono (by simp;try omega));clear hb1 B1
 go_wp2_with fail
 go_rounds 1
 go_wp2_with fail
 go_rounds 1
 go_ret
 exact⟨rfl,HB.out⟩
theorem names_W (w:World) (q:Option Addr) (k h vk vn n l tg bi s:Int) (fu:Bool) (hp:Plain vk vn):Calls Tryz.prog 75 #[.pointer q,.agg (wr k h vk vn n l tg bi s fu)] w fun e w'=>e=.returned (.bool true)/\Bl w w':=by
 go_enter Tryz.func75,Tryz.ntmps75
 go_wp2_with fail
 refine(held_W _ k h vk vn n l tg bi s fu hp).mono ?_;rintro e w1 ⟨rfl,hb1⟩;have HB:Hid (Bl w w1):=(((Below.refl _ _).alloc (Nat.le_refl _) _).alloc (by simp) _).trans (hb1.mono (by simp;try omega));clear hb1
 go_wp2_with fail
 refine(containsRef_W _ _).mono ?_;rintro e w2 ⟨rfl,rfl⟩
 go_wp2_with fail
 go_ret
 exact⟨rfl,HB.out⟩
theorem blank0_W (w:World):Calls Tryz.prog 160 #[.agg #[.int .u8 0,.int .i64 0,.string ⟨#[]⟩,.slice none 0 0,.int .i64 0]] w fun e w'=>e=.returned (.bool true)/\Below w.heap.size w w':=by
 go_enter Tryz.func160,Tryz.ntmps160
 go_wp2
 go_ret
 exact⟨rfl,by go_grown⟩
theorem blank1_W (w:World) (n:Int):Calls Tryz.prog 160 #[.agg #[.int .u8 1,.int .i64 n,.string ⟨#[]⟩,.slice none 0 0,.int .i64 0]] w fun e w'=>e=.returned (.bool false)/\Below w.heap.size w w':=by
 go_enter Tryz.func160,Tryz.ntmps160
 go_wp2
 go_ret
 exact⟨rfl,by go_grown⟩
theorem vall_W (w:World):Calls Tryz.prog 227 #[.slice none 0 0] w fun e w'=>e=.returned (.bool true)/\w=w':=by
 go_enter Tryz.func227,Tryz.ntmps227
 go_wp2_with fail
 go_in
 go_wp2_with fail
 go_in
 go_wp2_with fail
 go_rounds 1
 go_ret
 exact⟨rfl,rfl⟩
theorem vMayL_W (w:World):Calls Tryz.prog 161 #[.agg #[.int .u8 3,.int .i64 0,.string ⟨#[]⟩,.slice none 0 0,.int .i64 0]] w fun e w'=>e=.returned (.bool true)/\Below w.heap.size w w':=by
 go_enter Tryz.func161,Tryz.ntmps161
 go_wp2
 go_region
 go_wp2
 go_rounds 1
 go_ret
 exact⟨rfl,by go_grown⟩
theorem vOf_W (w:World):Calls Tryz.prog 162 #[.slice none 0 0] w fun e w'=>e=.returned (.tuple #[.agg #[.int .u8 3,.int .i64 0,.string ⟨#[]⟩,.slice none 0 0,.int .i64 0],.int .i64 0])/\Below w.heap.size w w':=by
 go_enter Tryz.func162,Tryz.ntmps162
 go_wp2_with fail
 refine(vall_W _).mono ?_;rintro e w0 ⟨rfl,rfl⟩
 go_wp2_with fail
 refine(vMayL_W _).mono ?_;rintro e w1 ⟨rfl,hb1⟩;have B0:=below_blk hb1 (blk2_old _ _ _);obtain⟨⟨a0,a1,a2,a3,a4⟩,f0,f1,f2,f3,f4⟩:=cells5 (below_blk hb1 (blk2_new _ _ _));have hz:w.heap.size+1<w1.heap.size:=by have:=hb1.size;simp at this;omega
 have HB:Hid (Below w.heap.size w w1):=(((Below.refl _ _).alloc (Nat.le_refl _) _).alloc (by simp) _).trans (hb1.mono (by simp;omega));clear hb1
 go_wp2_with fail
 refine(vown_W _ 3 0).mono ?_;rintro e w2 ⟨rfl,hb2⟩;obtain⟨⟨e0,e1,e2,e3,e4⟩,g0,g1,g2,g3,g4⟩:=cells5 (below_blk hb2 B0);have hz2:w.heap.size<w2.heap.size:=by have:=hb2.size;omega
 have HB2:Hid (Below w.heap.size w w2):=HB.out.trans (hb2.mono HB.out.size);clear hb2 B0
 go_wp2_with fail
 have hB:=HB2.out;exact bodyPost_ret (v:=.tuple #[.agg #[.int .u8 3,.int .i64 0,.string ⟨#[]⟩,.slice none 0 0,.int .i64 0],.int .i64 0]) (by simp [results,Tryz.results162,go_sem,e0,e1,e2,e3,e4]) rfl ⟨rfl,by go_grown⟩
theorem cells16 {w:World} {b:Nat} {x0 x1 x2 x3 x4 x5 x6 x7 x8 x9 x10 x11 x12 x13 x14 x15:Value} {e:TypeId} (h:w.heap[b]? = some (.cells #[x0,x1,x2,x3,x4,x5,x6,x7,x8,x9,x10,x11,x12,x13,x14,x15] e (0,0))) :
 w.cell? ⟨b,0,none⟩=some x0/\w.cell? ⟨b,1,none⟩=some x1/\w.cell? ⟨b,2,none⟩=some x2/\w.cell? ⟨b,3,none⟩=some x3/\w.cell? ⟨b,4,none⟩=some x4/\w.cell? ⟨b,5,none⟩=some x5/\w.cell? ⟨b,6,none⟩=some x6/\w.cell? ⟨b,7,none⟩=some x7/\w.cell? ⟨b,8,none⟩=some x8/\w.cell? ⟨b,9,none⟩=some x9/\w.cell? ⟨b,10,none⟩=some x10/\w.cell? ⟨b,11,none⟩=some x11/\w.cell? ⟨b,12,none⟩=some x12/\w.cell? ⟨b,13,none⟩=some x13/\w.cell? ⟨b,14,none⟩=some x14/\w.cell? ⟨b,15,none⟩=some x15:=by
 refine⟨?_,?_,?_,?_,?_,?_,?_,?_,?_,?_,?_,?_,?_,?_,?_,?_⟩ <;> (rw [cell_blk h];rfl)
end
section
theorem setCell_same {w:World} {b i:Nat} {cs:Array Value} {e:TypeId} {fr:Nat × Nat} {v:Value} (h:w.heap[b]? = some (.cells cs e fr)) (hv:cs[i]? = some v):w.setCell ⟨b,i,none⟩ v=w:=by
 obtain⟨hb,hg⟩:=Array.getElem?_eq_some_iff.1 h;obtain⟨hi,hgi⟩:=Array.getElem?_eq_some_iff.1 hv
 have key:∀ (w2:World),w2.heap=w.heap->{ w2 with heap:=w2.heap.modify b (fun _=>.cells cs e fr) } = w2:=by
  intro w2 h2
  have:w2.heap.modify b (fun _=>Obj.cells cs e fr)=w2.heap:=by
   apply Array.ext_getElem?
   intro k;rw [Array.getElem?_modify];split
   ·rename_i hk
    subst hk;rw [h2,h];rfl
   ·rfl
  rw [this]
 have hs:cs.setIfInBounds i v=cs:=by
  apply Array.ext_getElem?
  intro k;rw [Array.getElem?_setIfInBounds];split
  ·rename_i hk
   subst hk;simp [hi,hgi]
  ·rfl
 have hw:(w.setCell ⟨b,i,none⟩ v).heap=w.heap:=by
  apply Array.ext_getElem?
  intro k
  by_cases hk:k=b
  ·subst hk;rw [blk_setCell h i v,h,hs]
  ·exact Below.heap_setCell w ⟨b,i,none⟩ v k hk
 have:(w.setCell ⟨b,i,none⟩ v) = { w with heap:=(w.setCell ⟨b,i,none⟩ v).heap }:=rfl
 rw [this,hw]
theorem storeAt_same {P:Program} {w:World} {b i:Nat} {cs vs:Array Value} {e ty:TypeId} (h:w.heap[b]? = some (.cells cs e (0,0))) (hi:(P.info? ty).map (·.size)=some vs.size) (hl:i+vs.size≤cs.size)
 (h1:vs.all (·.oneCell')=true) (hs:(cs.toList.take i ++ vs.toList ++ cs.toList.drop (i+vs.size))=cs.toList):(Instr.storeAt ty (.pointer (some ⟨b,i,none⟩)) (.agg vs)).run P w=.ok () w:=by
 simp only [Instr.storeAt,Instr.sureAddr,Sem.run_bind,Sem.run_pure,Result.andThen];have:=run_storeCells_at (P:=P) b i e vs.toList 0 cs w h (by simpa using hl) (fun v hv=>(Array.all_eq_true_iff_forall_mem.1 h1) v (by simpa using hv));simp only [Nat.add_zero,Array.length_toList,hs,Array.toArray_toList,setRow_self w b cs e (0,0) h]at this;cases hq:P.info? ty with
 | none=>simp [hq]at hi
 | some k =>
   have hs:vs.size=k.size:=by simp [hq]at hi;omega
   simp [storeVar,sizeOf,typeInfo,hq,Value.cells,hs,this]
def stV (a x:Value):Sem Next:=do Instr.storeAt 27 a x;pure .skip
theorem execOp_stV (ρ:Operand->Value) (d:Option Tmp) (a x:Operand) (ty:TypeId) (pos:String) (af:Array Edge) (g:Option (Nat × Bool)) :
 execOp ρ { dst:=d,op:=.store 27 a x,type:=ty,pos:=pos,after:=af,guard:=g } = stV (ρ a) (ρ x):=rfl
theorem stV_same {w:World} {b i:Nat} {cs vs:Array Value} {e:TypeId} (h:w.heap[b]? = some (.cells cs e (0,0))) (h5:vs.size=5) (hl:i+vs.size≤cs.size)
 (h1:vs.all (·.oneCell')=true) (hs:(cs.toList.take i ++ vs.toList ++ cs.toList.drop (i+vs.size))=cs.toList):(stV (.pointer (some ⟨b,i,none⟩)) (.agg vs)).run Tryz.prog w=.ok .skip w:=by
 simp only [stV,Sem.run_bind,storeAt_same h (by rw [h5];exact sizeValue) hl h1 hs,Result.andThen,Sem.run_pure]
theorem heap_setRow_other (w:World) (b:Nat) (c:Array Value) (k:Nat) (h:k≠b):(w.setRow b c).heap[k]? = w.heap[k]?:=by
 simp only [World.setRow,Array.getElem?_modify];rw [if_neg (Ne.symm h)]
theorem heap_setRow_at {w:World} {b:Nat} {c c':Array Value} {e:TypeId} {fr:Nat × Nat} (h:w.heap[b]? = some (.cells c e fr)):(w.setRow b c').heap[b]? = some (.cells c' e fr):=by
 simp only [World.setRow,Array.getElem?_modify];rw [if_pos trivial,h];rfl
theorem Below.setRow {B:Nat} {a w:World} (h:Below B a w) {b:Nat} (hb:B≤b) (c:Array Value):Below B a (w.setRow b c) :=
 ⟨h.os,h.tape,h.output,by have:=h.size;simpa [World.setRow]using this,fun k hk=>(heap_setRow_other w b c k (by omega)).trans (h.block k hk)⟩
attribute [local go_sem ↓] execOp_stV in
theorem ownWhat_W (w:World) (k h vk vn n l tg bi s:Int) (fu:Bool) (hp:Plain vk vn):Calls Tryz.prog 80 #[.agg (wr k h vk vn n l tg bi s fu)] w fun e w' =>
 e=.returned (.agg (wr k h vk vn n l tg bi s fu))/\Bl w w':=by
 go_enter Tryz.func80,Tryz.ntmps80
 go_wp2_with fail
 refine(wown_W _ vk vn hp).mono ?_;rintro e w1 ⟨rfl,hb1⟩;have B1:=below_blk hb1 (blk2_old _ _ _);have R1:=below_blk hb1 (blk2_new _ _ _);obtain⟨a0,a1,a2,a3,a4,a5,a6,a7,a8,a9,a10,a11,a12,a13,a14,a15⟩:=cells16 B1;have hsv:=stV_same (i:=2) (vs:=#[.int .u8 vk,.int .i64 vn,.string ⟨#[]⟩,.slice none 0 0,.int .i64 0]) B1 rfl (by simp) (by simp [go_sem]) (by simp);have hz:w.heap.size+1<w1.heap.size:=by have:=hb1.size;simp at this;omega
 have HB:Hid (Bl w w1):=(((Below.refl _ _).alloc (Nat.le_refl _) _).alloc (by simp) _).trans (hb1.mono (by simp;omega));clear hb1
 go_wp2_with fail
 refine(cloneVal_W _).mono ?_;rintro e w2 ⟨rfl,hb2⟩;have B2:=below_blk hb2 B1;have R2:=below_blk hb2 R1;clear a0 a1 a2 a3 a4 a5 a6 a7 a8 a9 a10 a11 a12 a13 a14 a15 hsv;have a7:w2.cell? ⟨w.heap.size,7,none⟩=some (.slice none 0 0):=by rw [cell_blk B2];rfl
 have a14:w2.cell? ⟨w.heap.size,14,none⟩=some (.slice none 0 0):=by rw [cell_blk B2];rfl
 have a15:w2.cell? ⟨w.heap.size,15,none⟩=some (.slice none 0 0):=by rw [cell_blk B2];rfl
 have f7:=frozen_blk B2 7;have f14:=frozen_blk B2 14;have f15:=frozen_blk B2 15;have q7:w2.setCell ⟨w.heap.size,7,none⟩ (.slice none 0 0)=w2:=setCell_same B2 rfl;have q14:w2.setCell ⟨w.heap.size,14,none⟩ (.slice none 0 0)=w2:=setCell_same B2 rfl;have q15:w2.setCell ⟨w.heap.size,15,none⟩ (.slice none 0 0)=w2:=setCell_same B2 rfl;have HB2:Hid (Bl w w2):=HB.out.trans (hb2.mono HB.out.size);clear hb2 HB B1 R1 hz;have hld:=loadWhat_blk B2 rfl;have hst:=storeWhat_blk (c':=(wr k h vk vn n l tg bi s fu)) R2 rfl rfl (by simp [go_sem]);have G3a:=heap_setRow_at (c':=(wr k h vk vn n l tg bi s fu)) R2;have G3:Hid ((w2.setRow (w.heap.size+1) (wr k h vk vn n l tg bi s fu)).heap[w.heap.size+1]? = some (.cells (wr k h vk vn n l tg bi s fu) 46 (0,0))):=G3a;clear G3a;have HB3:Hid (Bl w (w2.setRow (w.heap.size+1) (wr k h vk vn n l tg bi s fu))):=Below.setRow HB2.out (Nat.le_succ _) _;clear B2 R2 HB2
 go_wp2_with fail
 refine wp_loop_rounds 1 ?_;rw [rounds_succ]
 go_wp2_with fail
 refine(cloneName_W _).mono ?_;rintro e _ ⟨rfl,rfl⟩
 go_wp2_with fail
 refine wp_loop_rounds 1 ?_;rw [rounds_succ]
 go_wp2_with fail
 refine(ownCode_W _).mono ?_;rintro e _ ⟨rfl,rfl⟩
 go_wp2_with fail
 refine bodyPost_ret (results_What rfl _ _ _ _ _ rfl G3.out rfl) rfl ⟨rfl,HB3.out⟩
end
end Go.Proofs.YthaliljaglldjaaGreat
