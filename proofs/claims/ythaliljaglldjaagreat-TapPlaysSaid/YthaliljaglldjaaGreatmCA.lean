/- Part of the proof. -/
import Derived.Test.YthaliljaglldjaaGreatmBZ
import Derived.Deep.Slices
import Derived.Lib.SmallJoins
namespace Go.Proofs.YthaliljaglldjaaGreat
set_option maxHeartbeats 16000000
set_option maxRecDepth 20000
open Go.RowKit Go.ChangeMaps Go.MapKept
section
variable {w:World} {p q:Nat} {M:WM} {F G:Nat->Prop}
theorem both13_0 (S:TS w p q M F G) (hl:M.last+2≤100000) (sd qq n:Int) {r:Int} (hr:(Lit.int .i64 r).wf=true):Calls Tryz.prog 28 #[.pointer (some ⟨p,0,none⟩),.pointer (some ⟨q,0,none⟩),.agg #[.int .i64 0,.int .i64 sd,.int .i64 r,.int .i64 qq,.int .i64 n]] w fun e w'=>e=.returned (.bool true)/\TStep w p q M F G w':=by
 have HFl:Hid (∀ b,F b\/G b->b<w.heap.size):=fun b hb=>hb.elim (S.W.lt b) (S.R.lt b);have HT:Hid (∀ w',Bl w w'->Tw3 w' p q M F G 114 #[.pointer (some ⟨p,0,none⟩),.int .i64 sd,.int .i64 r] 118 #[.pointer (some ⟨q,0,none⟩),.int .i64 sd,.int .i64 r]):=fun w' hb=>mk2 (S.below hb) hl hr;clear S hl hr;have H1:Hid (Bl w (w.alloc (.cells #[.int .i64 0,.int .i64 sd,.int .i64 r,.int .i64 qq,.int .i64 n] 72))/\(w.alloc (.cells #[.int .i64 0,.int .i64 sd,.int .i64 r,.int .i64 qq,.int .i64 n] 72)).heap[w.heap.size]? = some (.cells #[.int .i64 0,.int .i64 sd,.int .i64 r,.int .i64 qq,.int .i64 n] 72 (0,0))):=⟨(Below.refl _ w).alloc (Nat.le_refl _) _,blk_new _ _⟩
 go_enter Tryz.func28,Tryz.ntmps28
 go_upto_region 1 with fail
 revert H1;generalize w.alloc _=w1;intro H1;have c0:w1.cell? ⟨w.heap.size,0,none⟩=some (.int .i64 0):=by rw [cell_blk H1.out.2];rfl
 have c1:w1.cell? ⟨w.heap.size,1,none⟩=some (.int .i64 sd):=by rw [cell_blk H1.out.2];rfl
 have c2:w1.cell? ⟨w.heap.size,2,none⟩=some (.int .i64 r):=by rw [cell_blk H1.out.2];rfl
 have HT1:=(show Hid (Tw3 w1 p q M F G 114 #[.pointer (some ⟨p,0,none⟩),.int .i64 sd,.int .i64 r] 118 #[.pointer (some ⟨q,0,none⟩),.int .i64 sd,.int .i64 r])from HT.out w1 H1.out.1);clear HT
 go_wp2_with fail
 refine Calls.mono HT1.out ?_;rintro e w5 ⟨x,y,z,rfl,hk5,hn5⟩;have hB5:=(hk5.block _ (blk_lt H1.out.2) (fun h=>by have:=HFl.out _ h;omega)).trans H1.out.2;have HN:=(show Hid (∀ w',Bl w5 w'->Calls Tryz.prog 118 #[.pointer (some ⟨q,0,none⟩),.int .i64 sd,.int .i64 r] w' fun e w6=>e=.returned (.tuple #[.int .i64 x,.int .i64 y,.int .i64 z])/\TStep w1 p q M F G w6)from hn5);clear hk5 hn5 HT1 c0 c1 c2;have c1:w5.cell? ⟨w.heap.size,1,none⟩=some (.int .i64 sd):=by rw [cell_blk hB5];rfl
 have c2:w5.cell? ⟨w.heap.size,2,none⟩=some (.int .i64 r):=by rw [cell_blk hB5];rfl
 clear hB5
 go_wp2_with fail
 refine Calls.mono (HN.out w5 (Below.refl _ _)) ?_;rintro e w6 ⟨rfl,hS6⟩;have H6:Hid (TStep w p q M F G w6):=hS6.of_below H1.out.1;clear hS6 HN H1 c1 c2
 go_wp2_with fail
 go_ret
 exact⟨rfl,H6.out⟩
theorem both13_1 (S:TS w p q M F G) (hl:M.last+2≤100000) (sd n:Int) {r qq:Int} (hr:(Lit.int .i64 r).wf=true) (hqq:(Lit.int .i64 qq).wf=true):Calls Tryz.prog 28 #[.pointer (some ⟨p,0,none⟩),.pointer (some ⟨q,0,none⟩),.agg #[.int .i64 1,.int .i64 sd,.int .i64 r,.int .i64 qq,.int .i64 n]] w fun e w'=>e=.returned (.bool true)/\TStep w p q M F G w':=by
 have HFl:Hid (∀ b,F b\/G b->b<w.heap.size):=fun b hb=>hb.elim (S.W.lt b) (S.R.lt b);have HT:Hid (∀ w',Bl w w'->Tw2 w' p q M F G 119 #[.pointer (some ⟨p,0,none⟩),.int .i64 sd,.int .i64 r,.int .i64 qq] 120 #[.pointer (some ⟨q,0,none⟩),.int .i64 sd,.int .i64 r,.int .i64 qq]):=fun w' hb=>with2 (S.below hb) hl hr hqq;clear S hl hr hqq;have H1:Hid (Bl w (w.alloc (.cells #[.int .i64 1,.int .i64 sd,.int .i64 r,.int .i64 qq,.int .i64 n] 72))/\(w.alloc (.cells #[.int .i64 1,.int .i64 sd,.int .i64 r,.int .i64 qq,.int .i64 n] 72)).heap[w.heap.size]? = some (.cells #[.int .i64 1,.int .i64 sd,.int .i64 r,.int .i64 qq,.int .i64 n] 72 (0,0))):=⟨(Below.refl _ w).alloc (Nat.le_refl _) _,blk_new _ _⟩
 go_enter Tryz.func28,Tryz.ntmps28
 go_upto_region 1 with fail
 revert H1;generalize w.alloc _=w1;intro H1;have c0:w1.cell? ⟨w.heap.size,0,none⟩=some (.int .i64 1):=by rw [cell_blk H1.out.2];rfl
 have c1:w1.cell? ⟨w.heap.size,1,none⟩=some (.int .i64 sd):=by rw [cell_blk H1.out.2];rfl
 have c2:w1.cell? ⟨w.heap.size,2,none⟩=some (.int .i64 r):=by rw [cell_blk H1.out.2];rfl
 have c3:w1.cell? ⟨w.heap.size,3,none⟩=some (.int .i64 qq):=by rw [cell_blk H1.out.2];rfl
 have HT1:=(show Hid (Tw2 w1 p q M F G 119 #[.pointer (some ⟨p,0,none⟩),.int .i64 sd,.int .i64 r,.int .i64 qq] 120 #[.pointer (some ⟨q,0,none⟩),.int .i64 sd,.int .i64 r,.int .i64 qq])from HT.out w1 H1.out.1);clear HT
 go_wp2_with fail
 refine Calls.mono HT1.out ?_;rintro e w5 ⟨x,y,rfl,hk5,hn5⟩;have hB5:=(hk5.block _ (blk_lt H1.out.2) (fun h=>by have:=HFl.out _ h;omega)).trans H1.out.2;have HN:=(show Hid (∀ w',Bl w5 w'->Calls Tryz.prog 120 #[.pointer (some ⟨q,0,none⟩),.int .i64 sd,.int .i64 r,.int .i64 qq] w' fun e w6=>e=.returned (.tuple #[.int .i64 x,.int .i64 y])/\TStep w1 p q M F G w6)from hn5);clear hk5 hn5 HT1 c0 c1 c2 c3;have c1:w5.cell? ⟨w.heap.size,1,none⟩=some (.int .i64 sd):=by rw [cell_blk hB5];rfl
 have c2:w5.cell? ⟨w.heap.size,2,none⟩=some (.int .i64 r):=by rw [cell_blk hB5];rfl
 have c3:w5.cell? ⟨w.heap.size,3,none⟩=some (.int .i64 qq):=by rw [cell_blk hB5];rfl
 clear hB5
 go_wp2_with fail
 refine Calls.mono (HN.out w5 (Below.refl _ _)) ?_;rintro e w6 ⟨rfl,hS6⟩;have H6:Hid (TStep w p q M F G w6):=hS6.of_below H1.out.1;clear hS6 HN H1 c1 c2 c3
 go_wp2_with fail
 go_ret
 exact⟨rfl,H6.out⟩
theorem both13_4 (S:TS w p q M F G) (hl:M.last+2≤100000) (sd qq n:Int) {r:Int} (hr:(Lit.int .i64 r).wf=true):Calls Tryz.prog 28 #[.pointer (some ⟨p,0,none⟩),.pointer (some ⟨q,0,none⟩),.agg #[.int .i64 4,.int .i64 sd,.int .i64 r,.int .i64 qq,.int .i64 n]] w fun e w'=>e=.returned (.bool true)/\TStep w p q M F G w':=by
 have HFl:Hid (∀ b,F b\/G b->b<w.heap.size):=fun b hb=>hb.elim (S.W.lt b) (S.R.lt b);have HT:Hid (∀ w',Bl w w'->Tw2 w' p q M F G 116 #[.pointer (some ⟨p,0,none⟩),.int .i64 r] 124 #[.pointer (some ⟨q,0,none⟩),.int .i64 r]):=fun w' hb=>count2 (S.below hb) hl hr;clear S hl hr;have H1:Hid (Bl w (w.alloc (.cells #[.int .i64 4,.int .i64 sd,.int .i64 r,.int .i64 qq,.int .i64 n] 72))/\(w.alloc (.cells #[.int .i64 4,.int .i64 sd,.int .i64 r,.int .i64 qq,.int .i64 n] 72)).heap[w.heap.size]? = some (.cells #[.int .i64 4,.int .i64 sd,.int .i64 r,.int .i64 qq,.int .i64 n] 72 (0,0))):=⟨(Below.refl _ w).alloc (Nat.le_refl _) _,blk_new _ _⟩
 go_enter Tryz.func28,Tryz.ntmps28
 go_upto_region 1 with fail
 revert H1;generalize w.alloc _=w1;intro H1;have c0:w1.cell? ⟨w.heap.size,0,none⟩=some (.int .i64 4):=by rw [cell_blk H1.out.2];rfl
 have c2:w1.cell? ⟨w.heap.size,2,none⟩=some (.int .i64 r):=by rw [cell_blk H1.out.2];rfl
 have HT1:=(show Hid (Tw2 w1 p q M F G 116 #[.pointer (some ⟨p,0,none⟩),.int .i64 r] 124 #[.pointer (some ⟨q,0,none⟩),.int .i64 r])from HT.out w1 H1.out.1);clear HT
 go_wp2_with fail
 refine Calls.mono HT1.out ?_;rintro e w5 ⟨x,y,rfl,hk5,hn5⟩;have hB5:=(hk5.block _ (blk_lt H1.out.2) (fun h=>by have:=HFl.out _ h;omega)).trans H1.out.2;have HN:=(show Hid (∀ w',Bl w5 w'->Calls Tryz.prog 124 #[.pointer (some ⟨q,0,none⟩),.int .i64 r] w' fun e w6=>e=.returned (.tuple #[.int .i64 x,.int .i64 y])/\TStep w1 p q M F G w6)from hn5);clear hk5 hn5 HT1 c0 c2;have c2:w5.cell? ⟨w.heap.size,2,none⟩=some (.int .i64 r):=by rw [cell_blk hB5];rfl
 clear hB5
 go_wp2_with fail
 refine Calls.mono (HN.out w5 (Below.refl _ _)) ?_;rintro e w6 ⟨rfl,hS6⟩;have H6:Hid (TStep w p q M F G w6):=hS6.of_below H1.out.1;clear hS6 HN H1 c2
 go_wp2_with fail
 go_ret
 exact⟨rfl,H6.out⟩
theorem both13_5 (S:TS w p q M F G) (hl:M.last+2≤100000) (sd qq n:Int) {r:Int} (hr:(Lit.int .i64 r).wf=true):Calls Tryz.prog 28 #[.pointer (some ⟨p,0,none⟩),.pointer (some ⟨q,0,none⟩),.agg #[.int .i64 5,.int .i64 sd,.int .i64 r,.int .i64 qq,.int .i64 n]] w fun e w'=>e=.returned (.bool true)/\TStep w p q M F G w':=by
 have HFl:Hid (∀ b,F b\/G b->b<w.heap.size):=fun b hb=>hb.elim (S.W.lt b) (S.R.lt b);have HT:Hid (∀ w',Bl w w'->Tw2 w' p q M F G 125 #[.pointer (some ⟨p,0,none⟩),.int .i64 r] 126 #[.pointer (some ⟨q,0,none⟩),.int .i64 r]):=fun w' hb=>tally2 (S.below hb) hl hr;clear S hl hr;have H1:Hid (Bl w (w.alloc (.cells #[.int .i64 5,.int .i64 sd,.int .i64 r,.int .i64 qq,.int .i64 n] 72))/\(w.alloc (.cells #[.int .i64 5,.int .i64 sd,.int .i64 r,.int .i64 qq,.int .i64 n] 72)).heap[w.heap.size]? = some (.cells #[.int .i64 5,.int .i64 sd,.int .i64 r,.int .i64 qq,.int .i64 n] 72 (0,0))):=⟨(Below.refl _ w).alloc (Nat.le_refl _) _,blk_new _ _⟩
 go_enter Tryz.func28,Tryz.ntmps28
 go_upto_region 1 with fail
 revert H1;generalize w.alloc _=w1;intro H1;have c0:w1.cell? ⟨w.heap.size,0,none⟩=some (.int .i64 5):=by rw [cell_blk H1.out.2];rfl
 have c2:w1.cell? ⟨w.heap.size,2,none⟩=some (.int .i64 r):=by rw [cell_blk H1.out.2];rfl
 have HT1:=(show Hid (Tw2 w1 p q M F G 125 #[.pointer (some ⟨p,0,none⟩),.int .i64 r] 126 #[.pointer (some ⟨q,0,none⟩),.int .i64 r])from HT.out w1 H1.out.1);clear HT
 go_wp2_with fail
 refine Calls.mono HT1.out ?_;rintro e w5 ⟨x,y,rfl,hk5,hn5⟩;have hB5:=(hk5.block _ (blk_lt H1.out.2) (fun h=>by have:=HFl.out _ h;omega)).trans H1.out.2;have HN:=(show Hid (∀ w',Bl w5 w'->Calls Tryz.prog 126 #[.pointer (some ⟨q,0,none⟩),.int .i64 r] w' fun e w6=>e=.returned (.tuple #[.int .i64 x,.int .i64 y])/\TStep w1 p q M F G w6)from hn5);clear hk5 hn5 HT1 c0 c2;have c2:w5.cell? ⟨w.heap.size,2,none⟩=some (.int .i64 r):=by rw [cell_blk hB5];rfl
 clear hB5
 go_wp2_with fail
 refine Calls.mono (HN.out w5 (Below.refl _ _)) ?_;rintro e w6 ⟨rfl,hS6⟩;have H6:Hid (TStep w p q M F G w6):=hS6.of_below H1.out.1;clear hS6 HN H1 c2
 go_wp2_with fail
 go_ret
 exact⟨rfl,H6.out⟩
def PtP (B5 p q:Nat) (r x:Int) (_ j:Nat) (v:Value) (_:World):Prop :=
 match j with
 | 0=>v=.pointer (some ⟨p,0,none⟩)
 | 1=>v=.pointer (some ⟨B5,2,none⟩)
 | 2=>v=.int .i64 r
 | 3=>v=.int .i64 x
 | 4=>v=.pointer (some ⟨q,0,none⟩)
 | 5=>v=.pointer (some ⟨B5,2,none⟩)
 | 6=>v=.int .i64 r
 | 7=>v=.int .i64 x
 | _=>True
theorem PtP.stab {B5 p q:Nat} {r x:Int}:∀ (s j:Nat) (v:Value) (w w':World),Bl w w'->PtP B5 p q r x s j v w->PtP B5 p q r x s j v w':=by
 intro s j v w w' _ h;unfold PtP at h ⊢;split at h
 ·exact h
 ·exact h
 ·exact h
 ·exact h
 ·exact h
 ·exact h
 ·exact h
 ·exact h
 ·trivial
theorem PtP.turn1 {B5 p q:Nat} {r x:Int}:∀ (j:Nat) (v:Value) (w w':World),j≠3->PtP B5 p q r x 0 j v w->PtP B5 p q r x 1 j v w':=by
 intro j v w w' hne h;unfold PtP at h ⊢;split at h
 ·exact h
 ·exact h
 ·exact h
 ·exact absurd rfl hne
 ·exact h
 ·exact h
 ·exact h
 ·exact h
 ·trivial
theorem PtP.turn2 {B5 p q:Nat} {r x:Int}:∀ (j:Nat) (v:Value) (w w':World),j≠7->PtP B5 p q r x 1 j v w->PtP B5 p q r x 2 j v w':=by
 intro j v w w' hne h;unfold PtP at h ⊢;split at h
 ·exact h
 ·exact h
 ·exact h
 ·exact h
 ·exact h
 ·exact h
 ·exact h
 ·exact absurd rfl hne
 ·trivial
theorem both13_3 (S:TS w p q M F G) (hl:M.last+2≤100000) (sd qq n:Int) {r:Int} (hr:(Lit.int .i64 r).wf=true):Calls Tryz.prog 28 #[.pointer (some ⟨p,0,none⟩),.pointer (some ⟨q,0,none⟩),.agg #[.int .i64 3,.int .i64 sd,.int .i64 r,.int .i64 qq,.int .i64 n]] w fun e w'=>e=.returned (.bool true)/\TStep w p q M F G w':=by
 have HFl:Hid (∀ b,F b\/G b->b<w.heap.size):=fun b hb=>hb.elim (S.W.lt b) (S.R.lt b);obtain⟨x,hx⟩:∃ x,x=passX M r:=⟨_,rfl⟩;have HT:Hid (∀ w',Bl w w'->Tw1 x w' p q M F G 115 #[.pointer (some ⟨p,0,none⟩),.int .i64 r] 123 #[.pointer (some ⟨q,0,none⟩),.int .i64 r]):=fun w' hb=>by rw [hx];exact passT (S.below hb) hl hr
 clear S hl hr hx;have H1:Hid (Bl w (w.alloc (.cells #[.int .i64 3,.int .i64 sd,.int .i64 r,.int .i64 qq,.int .i64 n] 72))/\(w.alloc (.cells #[.int .i64 3,.int .i64 sd,.int .i64 r,.int .i64 qq,.int .i64 n] 72)).heap[w.heap.size]? = some (.cells #[.int .i64 3,.int .i64 sd,.int .i64 r,.int .i64 qq,.int .i64 n] 72 (0,0))):=⟨(Below.refl _ w).alloc (Nat.le_refl _) _,blk_new _ _⟩
 go_enter Tryz.func28,Tryz.ntmps28
 go_upto_region 1 with fail
 revert H1;generalize w.alloc _=w1;intro H1;have c0:w1.cell? ⟨w.heap.size,0,none⟩=some (.int .i64 3):=by rw [cell_blk H1.out.2];rfl
 have c2:w1.cell? ⟨w.heap.size,2,none⟩=some (.int .i64 r):=by rw [cell_blk H1.out.2];rfl
 have HC:Hid (w1.cell? ⟨w.heap.size,2,none⟩=some (.int .i64 r)):=c2;clear c2;obtain⟨B5,hB5⟩:∃ B,B=w.heap.size:=⟨_,rfl⟩;have HB5:Hid (w.heap.size≤B5):=by show _≤_;omega
 rw [<- hB5]at HC c0 ⊢;clear hB5
 go_upto_region 16 with fail
 clear c0;refine wp_region_twoK 8 3 7 (by kernel_rfl) rfl (by kernel_rfl) (by kernel_rfl) (by kernel_rfl) (fun a b=>Bl a b) (PtP B5 p q r x) (TwC w w1 (KT x w p q M F G 123 #[.pointer (some ⟨q,0,none⟩),.int .i64 r]) (TStep w p q M F G)) PtP.stab (TwC.start H1.out.1) TwC.stayK ?_ ?_ ?_ ?_ ?_
 ·exact fun _ _ _ _ _ h1 h2=>noGuard (by kernel_rfl) h1 h2
 ·intro s j q a w7 hne1 hne2 hq hC hG;have hj:j<8:=(List.getElem?_eq_some_iff.1 hq).1
  match j,hj with
  | 0,_=>cases hq;have h0':a.tmps[0]?.getD undef=.pointer (some ⟨p,0,none⟩):=gq (hG.fr 0 (by simp));unfold Oper.wp;simp [go_sem,Act.eval,h0'];exact⟨_,rfl,Below.refl _ _,rfl⟩
  | 1,_=>cases hq;have h5':a.tmps[5]?.getD undef=.pointer (some ⟨B5,0,none⟩):=gq (hG.fr 5 (by simp));unfold Oper.wp;simp [go_sem,Act.eval,h5'];exact⟨_,rfl,Below.refl _ _,rfl⟩
  | 2,_ =>
    cases hq;have h145':a.tmps[145]?.getD undef=_:=gq (hG.dep ⟨1,.data⟩ (by simp) rfl _ rfl);have c3:w7.cell? ⟨B5,2,none⟩=some (.int .i64 r):=hC.cell HB5.out HC.out;unfold Oper.wp;simp [go_sem,Act.eval,h145',c3];exact⟨_,rfl,Below.refl _ _,rfl⟩
  | 3,_=>exact absurd rfl hne1
  | 4,_=>cases hq;have h1':a.tmps[1]?.getD undef=.pointer (some ⟨q,0,none⟩):=gq (hG.fr 1 (by simp));unfold Oper.wp;simp [go_sem,Act.eval,h1'];exact⟨_,rfl,Below.refl _ _,rfl⟩
  | 5,_=>cases hq;have h5':a.tmps[5]?.getD undef=.pointer (some ⟨B5,0,none⟩):=gq (hG.fr 5 (by simp));unfold Oper.wp;simp [go_sem,Act.eval,h5'];exact⟨_,rfl,Below.refl _ _,rfl⟩
  | 6,_ =>
    cases hq;have h149':a.tmps[149]?.getD undef=_:=gq (hG.dep ⟨5,.data⟩ (by simp) rfl _ rfl);have c3:w7.cell? ⟨B5,2,none⟩=some (.int .i64 r):=hC.cell HB5.out HC.out;unfold Oper.wp;simp [go_sem,Act.eval,h149',c3];exact⟨_,rfl,Below.refl _ _,rfl⟩
  | 7,_=>exact absurd rfl hne2
 ·intro q a w7 hq hC hG;cases hq;have h144':a.tmps[144]?.getD undef=_:=gq (hG.dep ⟨0,.data⟩ (by simp) rfl _ rfl);have h146':a.tmps[146]?.getD undef=_:=gq (hG.dep ⟨2,.data⟩ (by simp) rfl _ rfl);unfold Oper.wp;simp [go_sem,callFunc,Act.eval,Tryz.func115,h144',h146'];refine Calls.mono ((HT.out w7 hC.2.2).stage hC.2.2) ?_;rintro e w8 ⟨rfl,hk8,hn8⟩;exact⟨_,rfl,hC.one hk8 HFl.out hn8,rfl,fun j u hne h=>PtP.turn1 j u _ _ hne h⟩
 ·intro q a w7 hq hC hG;cases hq;have h148':a.tmps[148]?.getD undef=_:=gq (hG.dep ⟨4,.data⟩ (by simp) rfl _ rfl);have h150':a.tmps[150]?.getD undef=_:=gq (hG.dep ⟨6,.data⟩ (by simp) rfl _ rfl);unfold Oper.wp;simp [go_sem,callFunc,Act.eval,Tryz.func123,h148',h150'];refine Calls.mono (hC.2.2 w7 (Below.refl _ _)) ?_;rintro e w8 ⟨rfl,hS8,hk8⟩;exact⟨_,rfl,hC.two hk8 (fun b h=>HFl.out b (.inr h)) hS8,rfl,fun j u hne h=>PtP.turn2 j u _ _ hne h⟩
 ·intro a w7 hC hdf hsz hfr hphi;have e0:a.tmps.getD 144 undef=.pointer (some ⟨p,0,none⟩):=hphi 0 _ rfl;have e1:a.tmps.getD 145 undef=.pointer (some ⟨B5,2,none⟩):=hphi 1 _ rfl;have e2:a.tmps.getD 146 undef=.int .i64 r:=hphi 2 _ rfl;have e3:a.tmps.getD 147 undef=.int .i64 x:=hphi 3 _ rfl;have e4:a.tmps.getD 148 undef=.pointer (some ⟨q,0,none⟩):=hphi 4 _ rfl;have e5:a.tmps.getD 149 undef=.pointer (some ⟨B5,2,none⟩):=hphi 5 _ rfl;have e6:a.tmps.getD 150 undef=.int .i64 r:=hphi 6 _ rfl;have e7:a.tmps.getD 151 undef=.int .i64 x:=hphi 7 _ rfl;have ha:=act_of hdf hsz hfr;simp only [List.take_succ_cons,List.take_zero,List.filterMap_cons,List.filterMap_nil,List.foldl_cons,List.foldl_nil,List.setIfInBounds_toArray,List.set_cons_zero,List.set_cons_succ,e0,e1,e2,e3,e4,e5,e6,e7]at ha;clear hdf hsz hfr hphi e0 e1 e2 e3 e4 e5 e6 e7;subst ha;have HD:Hid (TStep w p q M F G w7):=hC.2.2;clear hC;refine⟨rfl,?_⟩;unfold Oper.wp;simp [execOp,go_sem,Act.eval,wpTailG];refine ‹∀ (a:Act) (w:World),Code.wp Tryz.prog _ _ a w->_› _ _ ?_
  go_wp2_with fail
  go_ret
  exact⟨rfl,HD.out⟩
theorem both13_2 (S:TS w p q M F G) (hl:M.last+2≤100000) (sd qq n:Int) {r:Int} (hr:(Lit.int .i64 r).wf=true):Calls Tryz.prog 28 #[.pointer (some ⟨p,0,none⟩),.pointer (some ⟨q,0,none⟩),.agg #[.int .i64 2,.int .i64 sd,.int .i64 r,.int .i64 qq,.int .i64 n]] w fun e w'=>e=.returned (.bool true)/\TStep w p q M F G w':=by
 obtain⟨L,y,hL,hA,hB⟩:=taps2 (p:=p) (q:=q) (F:=F) (G:=G) S.tp hl hr;have HA:Hid (∀ w',Bl w w'->Calls Tryz.prog 117 #[.pointer (some ⟨p,0,none⟩),.int .i64 r] w' (NumsOk w' L y)):=fun w' hb=>hA w' (S.W.below hb);have HB:Hid (∀ w',Bl w w'->Calls Tryz.prog 121 #[.pointer (some ⟨q,0,none⟩),.int .i64 r] w' (NumsOk w' L y)):=fun w' hb=>hB w' (S.R.below hb);have HSb:Hid (∀ w',Bl w w'->TStep w p q M F G w'):=fun w' hb=>S.same hb;have HL:Hid (L.length≤100000):=hL;clear S hl hr hA hB hL;have H1:Hid (Bl w (w.alloc (.cells #[.int .i64 2,.int .i64 sd,.int .i64 r,.int .i64 qq,.int .i64 n] 72))/\(w.alloc (.cells #[.int .i64 2,.int .i64 sd,.int .i64 r,.int .i64 qq,.int .i64 n] 72)).heap[w.heap.size]? = some (.cells #[.int .i64 2,.int .i64 sd,.int .i64 r,.int .i64 qq,.int .i64 n] 72 (0,0))):=⟨(Below.refl _ w).alloc (Nat.le_refl _) _,blk_new _ _⟩
 go_enter Tryz.func28,Tryz.ntmps28
 go_upto_region 1 with fail
 revert H1;generalize w.alloc _=w1;intro H1;have c0:w1.cell? ⟨w.heap.size,0,none⟩=some (.int .i64 2):=by rw [cell_blk H1.out.2];rfl
 have c2:w1.cell? ⟨w.heap.size,2,none⟩=some (.int .i64 r):=by rw [cell_blk H1.out.2];rfl
 go_wp2_with fail
 refine Calls.mono (HA.out w1 H1.out.1) ?_;rintro e w2 ⟨va,rfl,hra,hb2⟩;have H2:Hid (Bl w w2/\w2.heap[w.heap.size]? = some (.cells #[.int .i64 2,.int .i64 sd,.int .i64 r,.int .i64 qq,.int .i64 n] 72 (0,0))/\w2.ownsRow w1.heap.size 25 1 va L.length (L.map (Value.int .i64))/\w.heap.size<w1.heap.size):=⟨H1.out.1.trans (hb2.mono H1.out.1.size),below_blk hb2 H1.out.2,hra,blk_lt H1.out.2⟩;clear hb2 hra H1 c0 c2;have c2:w2.cell? ⟨w.heap.size,2,none⟩=some (.int .i64 r):=by rw [cell_blk H2.out.2.1];rfl
 go_wp2_with fail
 refine Calls.mono (HB.out w2 H2.out.1) ?_;rintro e w3 ⟨vb,rfl,hrb,hb3⟩;have H3:Hid (Bl w w3/\w3.heap[w.heap.size]? = some (.cells #[.int .i64 2,.int .i64 sd,.int .i64 r,.int .i64 qq,.int .i64 n] 72 (0,0))/\w3.ownsRow w1.heap.size 25 1 va L.length (L.map (Value.int .i64))/\w3.ownsRow w2.heap.size 25 1 vb L.length (L.map (Value.int .i64))/\w.heap.size<w1.heap.size/\∀ b,va.ownBlock=some b->b<w2.heap.size):=⟨H2.out.1.trans (hb3.mono H2.out.1.size),below_blk hb3 H2.out.2.1,ownsRow_on H2.out.2.2.1 hb3,hrb,H2.out.2.2.2,fun b hb=>rowN_lt H2.out.2.2.1 b hb⟩;have HLE0:Hid (w2.heap.size≤w3.heap.size):=hb3.size;clear hrb hb3 c2 HB H2;have c2:w3.cell? ⟨w.heap.size,2,none⟩=some (.int .i64 r):=by rw [cell_blk H3.out.2.1];rfl
 go_wp2_with fail
 refine Calls.mono (HA.out w3 H3.out.1) ?_;rintro e w4 ⟨vc,rfl,hrc,hb4⟩;have H4:Hid (Bl w w4/\w4.ownsRow w1.heap.size 25 1 va L.length (L.map (Value.int .i64))/\w4.ownsRow w2.heap.size 25 1 vb L.length (L.map (Value.int .i64))/\w4.ownsRow w3.heap.size 25 1 vc L.length (L.map (Value.int .i64))/\w.heap.size<w1.heap.size/\(∀ b,va.ownBlock=some b->b<w2.heap.size)/\∀ b,vb.ownBlock=some b->b<w3.heap.size):=⟨H3.out.1.trans (hb4.mono H3.out.1.size),ownsRow_on H3.out.2.2.1 hb4,ownsRow_on H3.out.2.2.2.1 hb4,hrc,H3.out.2.2.2.2.1,H3.out.2.2.2.2.2,fun b hb=>rowN_lt H3.out.2.2.2.1 b hb⟩;have HG:Hid ((∀ b,va.ownBlock=some b->w1.heap.size≤b)/\(∀ b,vb.ownBlock=some b->w2.heap.size≤b)/\(∀ b,vc.ownBlock=some b->w3.heap.size≤b)):=⟨fun b hb=>rowN_ge H4.out.2.1 b hb,fun b hb=>rowN_ge H4.out.2.2.1 b hb,fun b hb=>rowN_ge H4.out.2.2.2.1 b hb⟩;have HN:=(show Hid _ from numbers13_W H4.out.2.1 H4.out.2.2.1 (fun b h1 h2=>by have:=H4.out.2.2.2.2.2.1 b h1;have:=HG.out.2.1 b h2;omega) HL.out);have HLE:Hid (w2.heap.size≤w3.heap.size):=HLE0.out;have HLE3:Hid (w.heap.size≤w3.heap.size):=H3.out.1.size;clear hrc hb4 c2 HA H3
 go_wp2_with fail
 refine Calls.mono HN.out ?_;rintro e w5 ⟨rfl,hk5⟩
 have H5:Hid (Bl w w5/\w5.ownsRow w2.heap.size 25 1 vb L.length (L.map (Value.int .i64))/\w5.ownsRow w3.heap.size 25 1 vc L.length (L.map (Value.int .i64))) :=
  ⟨H4.out.1.trans (hk5.below H4.out.1.size fun b hb=>by have:=HG.out.1 b hb;have:=H4.out.2.2.2.2.1;omega),ownsRow_keeps H4.out.2.2.1 hk5 fun b hb hb2=>by have:=H4.out.2.2.2.2.2.1 b hb2;have:=HG.out.2.1 b hb;omega,
   ownsRow_keeps H4.out.2.2.2.1 hk5 fun b hb hb2=>by have:=H4.out.2.2.2.2.2.1 b hb2;have:=HG.out.2.2 b hb;have:=HLE.out;omega⟩
 have HN:=(show Hid _ from numbers13_W H5.out.2.2 H5.out.2.1 (fun b h1 h2=>by have:=HG.out.2.2 b h1;have:=H4.out.2.2.2.2.2.2 b h2;omega) HL.out);clear hk5
 go_wp2_with fail
 refine Calls.mono HN.out ?_;rintro e w6 ⟨rfl,hk6⟩;have H6:Hid (TStep w p q M F G w6):=HSb.out _ (H5.out.1.trans (hk6.below H5.out.1.size fun b hb=>by have:=HG.out.2.2 b hb;have:=HLE3.out;omega));clear hk6 HN H5 H4 HG HL HSb
 go_wp2_with fail
 go_ret
 exact⟨rfl,H6.out⟩
theorem both13_6 (S:TS w p q M F G) (hl:M.last+2≤100000) (sd qq n:Int) {r:Int} (hr:(Lit.int .i64 r).wf=true):Calls Tryz.prog 28 #[.pointer (some ⟨p,0,none⟩),.pointer (some ⟨q,0,none⟩),.agg #[.int .i64 6,.int .i64 sd,.int .i64 r,.int .i64 qq,.int .i64 n]] w fun e w'=>e=.returned (.bool true)/\TStep w p q M F G w':=by
 obtain⟨L,y,hL,hA,hB⟩:=of2 (p:=p) (q:=q) (F:=F) (G:=G) S.tp hl hr;have HA:Hid (∀ w',Bl w w'->Calls Tryz.prog 127 #[.pointer (some ⟨p,0,none⟩),.int .i64 r] w' (NumsOk w' L y)):=fun w' hb=>hA w' (S.W.below hb);have HB:Hid (∀ w',Bl w w'->Calls Tryz.prog 128 #[.pointer (some ⟨q,0,none⟩),.int .i64 r] w' (NumsOk w' L y)):=fun w' hb=>hB w' (S.R.below hb);have HSb:Hid (∀ w',Bl w w'->TStep w p q M F G w'):=fun w' hb=>S.same hb;have HL:Hid (L.length≤100000):=hL;clear S hl hr hA hB hL;have H1:Hid (Bl w (w.alloc (.cells #[.int .i64 6,.int .i64 sd,.int .i64 r,.int .i64 qq,.int .i64 n] 72))/\(w.alloc (.cells #[.int .i64 6,.int .i64 sd,.int .i64 r,.int .i64 qq,.int .i64 n] 72)).heap[w.heap.size]? = some (.cells #[.int .i64 6,.int .i64 sd,.int .i64 r,.int .i64 qq,.int .i64 n] 72 (0,0))):=⟨(Below.refl _ w).alloc (Nat.le_refl _) _,blk_new _ _⟩
 go_enter Tryz.func28,Tryz.ntmps28
 go_upto_region 1 with fail
 revert H1;generalize w.alloc _=w1;intro H1;have c0:w1.cell? ⟨w.heap.size,0,none⟩=some (.int .i64 6):=by rw [cell_blk H1.out.2];rfl
 have c2:w1.cell? ⟨w.heap.size,2,none⟩=some (.int .i64 r):=by rw [cell_blk H1.out.2];rfl
 go_wp2_with fail
 refine Calls.mono (HA.out w1 H1.out.1) ?_;rintro e w2 ⟨va,rfl,hra,hb2⟩;have H2:Hid (Bl w w2/\w2.heap[w.heap.size]? = some (.cells #[.int .i64 6,.int .i64 sd,.int .i64 r,.int .i64 qq,.int .i64 n] 72 (0,0))/\w2.ownsRow w1.heap.size 25 1 va L.length (L.map (Value.int .i64))/\w.heap.size<w1.heap.size):=⟨H1.out.1.trans (hb2.mono H1.out.1.size),below_blk hb2 H1.out.2,hra,blk_lt H1.out.2⟩;clear hb2 hra H1 c0 c2;have c2:w2.cell? ⟨w.heap.size,2,none⟩=some (.int .i64 r):=by rw [cell_blk H2.out.2.1];rfl
 go_wp2_with fail
 refine Calls.mono (HB.out w2 H2.out.1) ?_;rintro e w3 ⟨vb,rfl,hrb,hb3⟩;have H3:Hid (Bl w w3/\w3.heap[w.heap.size]? = some (.cells #[.int .i64 6,.int .i64 sd,.int .i64 r,.int .i64 qq,.int .i64 n] 72 (0,0))/\w3.ownsRow w1.heap.size 25 1 va L.length (L.map (Value.int .i64))/\w3.ownsRow w2.heap.size 25 1 vb L.length (L.map (Value.int .i64))/\w.heap.size<w1.heap.size/\∀ b,va.ownBlock=some b->b<w2.heap.size):=⟨H2.out.1.trans (hb3.mono H2.out.1.size),below_blk hb3 H2.out.2.1,ownsRow_on H2.out.2.2.1 hb3,hrb,H2.out.2.2.2,fun b hb=>rowN_lt H2.out.2.2.1 b hb⟩;have HLE0:Hid (w2.heap.size≤w3.heap.size):=hb3.size;clear hrb hb3 c2 HB H2;have c2:w3.cell? ⟨w.heap.size,2,none⟩=some (.int .i64 r):=by rw [cell_blk H3.out.2.1];rfl
 go_wp2_with fail
 refine Calls.mono (HA.out w3 H3.out.1) ?_;rintro e w4 ⟨vc,rfl,hrc,hb4⟩;have H4:Hid (Bl w w4/\w4.ownsRow w1.heap.size 25 1 va L.length (L.map (Value.int .i64))/\w4.ownsRow w2.heap.size 25 1 vb L.length (L.map (Value.int .i64))/\w4.ownsRow w3.heap.size 25 1 vc L.length (L.map (Value.int .i64))/\w.heap.size<w1.heap.size/\(∀ b,va.ownBlock=some b->b<w2.heap.size)/\∀ b,vb.ownBlock=some b->b<w3.heap.size):=⟨H3.out.1.trans (hb4.mono H3.out.1.size),ownsRow_on H3.out.2.2.1 hb4,ownsRow_on H3.out.2.2.2.1 hb4,hrc,H3.out.2.2.2.2.1,H3.out.2.2.2.2.2,fun b hb=>rowN_lt H3.out.2.2.2.1 b hb⟩;have HG:Hid ((∀ b,va.ownBlock=some b->w1.heap.size≤b)/\(∀ b,vb.ownBlock=some b->w2.heap.size≤b)/\(∀ b,vc.ownBlock=some b->w3.heap.size≤b)):=⟨fun b hb=>rowN_ge H4.out.2.1 b hb,fun b hb=>rowN_ge H4.out.2.2.1 b hb,fun b hb=>rowN_ge H4.out.2.2.2.1 b hb⟩;have HN:=(show Hid _ from numbers13_W H4.out.2.1 H4.out.2.2.1 (fun b h1 h2=>by have:=H4.out.2.2.2.2.2.1 b h1;have:=HG.out.2.1 b h2;omega) HL.out);have HLE:Hid (w2.heap.size≤w3.heap.size):=HLE0.out;have HLE3:Hid (w.heap.size≤w3.heap.size):=H3.out.1.size;clear hrc hb4 c2 HA H3
 go_wp2_with fail
 refine Calls.mono HN.out ?_;rintro e w5 ⟨rfl,hk5⟩
 have H5:Hid (Bl w w5/\w5.ownsRow w2.heap.size 25 1 vb L.length (L.map (Value.int .i64))/\w5.ownsRow w3.heap.size 25 1 vc L.length (L.map (Value.int .i64))) :=
  ⟨H4.out.1.trans (hk5.below H4.out.1.size fun b hb=>by have:=HG.out.1 b hb;have:=H4.out.2.2.2.2.1;omega),ownsRow_keeps H4.out.2.2.1 hk5 fun b hb hb2=>by have:=H4.out.2.2.2.2.2.1 b hb2;have:=HG.out.2.1 b hb;omega,
   ownsRow_keeps H4.out.2.2.2.1 hk5 fun b hb hb2=>by have:=H4.out.2.2.2.2.2.1 b hb2;have:=HG.out.2.2 b hb;have:=HLE.out;omega⟩
 have HN:=(show Hid _ from numbers13_W H5.out.2.2 H5.out.2.1 (fun b h1 h2=>by have:=HG.out.2.2 b h1;have:=H4.out.2.2.2.2.2.2 b h2;omega) HL.out);clear hk5
 go_wp2_with fail
 refine Calls.mono HN.out ?_;rintro e w6 ⟨rfl,hk6⟩;have H6:Hid (TStep w p q M F G w6):=HSb.out _ (H5.out.1.trans (hk6.below H5.out.1.size fun b hb=>by have:=HG.out.2.2 b hb;have:=HLE3.out;omega));clear hk6 HN H5 H4 HG HL HSb
 go_wp2_with fail
 go_ret
 exact⟨rfl,H6.out⟩
theorem both13_o (S:TS w p q M F G) (hl:M.last+2≤100000) (sd n:Int) {how r qq:Int} (hr:(Lit.int .i64 r).wf=true) (hqq:(Lit.int .i64 qq).wf=true) (hh:how≠0/\how≠1/\how≠2/\how≠3/\how≠4/\how≠5/\how≠6):Calls Tryz.prog 28 #[.pointer (some ⟨p,0,none⟩),.pointer (some ⟨q,0,none⟩),.agg #[.int .i64 how,.int .i64 sd,.int .i64 r,.int .i64 qq,.int .i64 n]] w fun e w'=>e=.returned (.bool true)/\TStep w p q M F G w':=by
 have HT:Hid (∀ w',Bl w w'->Calls Tryz.prog 129 #[.pointer (some ⟨p,0,none⟩),.pointer (some ⟨q,0,none⟩),.agg #[.int .i64 how,.int .i64 sd,.int .i64 r,.int .i64 qq,.int .i64 n]] w' fun e w''=>e=.returned (.bool true)/\TStep w' p q M F G w''):=fun w' hb=>lays_any (S.below hb) hl how sd n hr hqq;obtain⟨h0,h1,h2,h3,h4,h5,h6⟩:=hh;have b0:(how==0)=false:=by simpa using h0
 have b1:(how==1)=false:=by simpa using h1
 have b2:(how==2)=false:=by simpa using h2
 have b3:(how==3)=false:=by simpa using h3
 have b4:(how==4)=false:=by simpa using h4
 have b5:(how==5)=false:=by simpa using h5
 have b6:(how==6)=false:=by simpa using h6
 clear S hl hr hqq h0 h1 h2 h3 h4 h5 h6;have H1:Hid (Bl w (w.alloc (.cells #[.int .i64 how,.int .i64 sd,.int .i64 r,.int .i64 qq,.int .i64 n] 72))/\(w.alloc (.cells #[.int .i64 how,.int .i64 sd,.int .i64 r,.int .i64 qq,.int .i64 n] 72)).heap[w.heap.size]? = some (.cells #[.int .i64 how,.int .i64 sd,.int .i64 r,.int .i64 qq,.int .i64 n] 72 (0,0))):=⟨(Below.refl _ w).alloc (Nat.le_refl _) _,blk_new _ _⟩
 go_enter Tryz.func28,Tryz.ntmps28
 go_upto_region 1 with fail
 revert H1;generalize w.alloc _=w1;intro H1;have c0:w1.cell? ⟨w.heap.size,0,none⟩=some (.int .i64 how):=by rw [cell_blk H1.out.2];rfl
 have c1:w1.cell? ⟨w.heap.size,1,none⟩=some (.int .i64 sd):=by rw [cell_blk H1.out.2];rfl
 have c2:w1.cell? ⟨w.heap.size,2,none⟩=some (.int .i64 r):=by rw [cell_blk H1.out.2];rfl
 have c3:w1.cell? ⟨w.heap.size,3,none⟩=some (.int .i64 qq):=by rw [cell_blk H1.out.2];rfl
 have c4:w1.cell? ⟨w.heap.size,4,none⟩=some (.int .i64 n):=by rw [cell_blk H1.out.2];rfl
 go_wp2_with fail
 refine Calls.mono (HT.out w1 H1.out.1) ?_;rintro e w2 ⟨rfl,hs2⟩;have H2:Hid (TStep w p q M F G w2):=hs2.of_below H1.out.1;clear hs2 H1 c0 c1 c2 c3 c4 HT
 go_wp2_with fail
 go_ret
 exact⟨rfl,H2.out⟩
theorem both13_any (S:TS w p q M F G) (hl:M.last+2≤100000) (how sd n:Int) {r qq:Int} (hr:(Lit.int .i64 r).wf=true) (hqq:(Lit.int .i64 qq).wf=true):Calls Tryz.prog 28 #[.pointer (some ⟨p,0,none⟩),.pointer (some ⟨q,0,none⟩),.agg #[.int .i64 how,.int .i64 sd,.int .i64 r,.int .i64 qq,.int .i64 n]] w fun e w'=>e=.returned (.bool true)/\TStep w p q M F G w':=by
 by_cases h0:how=0
 ·subst h0;exact both13_0 S hl sd qq n hr
 by_cases h1:how=1
 ·subst h1;exact both13_1 S hl sd n hr hqq
 by_cases h2:how=2
 ·subst h2;exact both13_2 S hl sd qq n hr
 by_cases h3:how=3
 ·subst h3;exact both13_3 S hl sd qq n hr
 by_cases h4:how=4
 ·subst h4;exact both13_4 S hl sd qq n hr
 by_cases h5:how=5
 ·subst h5;exact both13_5 S hl sd qq n hr
 by_cases h6:how=6
 ·subst h6;exact both13_6 S hl sd qq n hr
 exact both13_o S hl sd n hr hqq ⟨h0,h1,h2,h3,h4,h5,h6⟩
end
end Go.Proofs.YthaliljaglldjaaGreat
namespace Go.Proofs.YthaliljaglldjaaGreat
set_option maxHeartbeats 16000000
set_option maxRecDepth 20000
open Go.ChangeShapes Go.WideShapes Go.ChangeAt Go.RowKit Go.Joins
section
abbrev St5:=Int × Int × Int × Int × Int
def stc (t:St5):List Value:=[.int .i64 t.1,.int .i64 t.2.1,.int .i64 t.2.2.1,.int .i64 t.2.2.2.1,.int .i64 t.2.2.2.2]
def StArg (w:World) (sa:Option Addr) (ts:List St5):Prop:=ts = []\/∃ b o,sa=some ⟨b,o,none⟩/\b<w.heap.size/\∀ (j:Nat) (t:St5),ts[j]? = some t->w.rangeAt b (o+j * 5) (stc t)
theorem rangeAt_below5 {w w':World} {b o:Nat} {cs:List Value} (h:w.rangeAt b o cs) (hb:Bl w w') (hlt:b<w.heap.size):w'.rangeAt b o cs:=fun j v hv=>(hb.cell (p:=⟨b,o+j,none⟩) hlt).trans (h j v hv)
theorem StArg.at {w:World} {sa:Option Addr} {ts:List St5} (h:StArg w sa ts) {j:Nat} {t:St5} (ht:ts[j]? = some t):∃ b o,sa=some ⟨b,o,none⟩/\∀ w',Bl w w'->w'.rangeAt b (o+j * 5) (stc t):=by
 rcases h with rfl | ⟨b,o,h1,h2,h3⟩
 ·cases ht
 ·exact⟨b,o,h1,fun w' hb=>rangeAt_below5 (h3 j t ht) hb h2⟩
theorem open_st5 {H:Type} {enc:TypeId × Value->H} {P:Program} {e:TypeId} {W:World} {base:Nat} {sp:Nat->Bool} {held:Bool} {f0 f1 f2 f3 f4:Field} (he:P.underlying e=some (.struct #[f0,f1,f2,f3,f4]))
 (ce:P.cellsOf e=5) (o0:f0.offset=0) (o1:f1.offset=1) (o2:f2.offset=2) (o3:f3.offset=3) (o4:f4.offset=4) (c0:P.cellsOf f0.type=1) (c1:P.cellsOf f1.type=1) (c2:P.cellsOf f2.type=1) (c3:P.cellsOf f3.type=1) (c4:P.cellsOf f4.type=1)
 (k0:P.underlying f0.type=some (.int .i64)) (k1:P.underlying f1.type=some (.int .i64)) (k2:P.underlying f2.type=some (.int .i64)) (k3:P.underlying f3.type=some (.int .i64)) (k4:P.underlying f4.type=some (.int .i64))
 {n:Nat} {cs:List Value} {x:DataW H × List MemPlace} (h:DataW.trod enc P W base sp held n e cs=some x) :
 ∃ t:St5,cs=stc t/\(Lit.int .i64 t.2.2.1).wf=true/\(Lit.int .i64 t.2.2.2.1).wf=true:=by
 obtain⟨xs,k,-,-,hl,hxl,hf⟩:=DataW.trod_struct he h;rw [ce]at hl
 match xs,hxl,cs,hl with
 | [y0,y1,y2,y3,y4],_,[v0,v1,v2,v3,v4],_ =>
   have g0:=hf 0 f0 rfl;have g1:=hf 1 f1 rfl;have g2:=hf 2 f2 rfl;have g3:=hf 3 f3 rfl;have g4:=hf 4 f4 rfl;simp [o0,o1,o2,o3,o4,c0,c1,c2,c3,c4]at g0 g1 g2 g3 g4;obtain⟨a,e0,-,-⟩:=DataW.trod_int k0 g0;obtain⟨b,e1,-,-⟩:=DataW.trod_int k1 g1;obtain⟨c,e2,-,w1⟩:=DataW.trod_int k2 g2;obtain⟨d,e3,-,w2⟩:=DataW.trod_int k3 g3;obtain⟨f,e4,-,-⟩:=DataW.trod_int k4 g4;simp at e0 e1 e2 e3 e4;exact⟨(a,b,c,d,f),by simp [stc,e0,e1,e2,e3,e4],w1,w2⟩
theorem open_sts {H:Type} {enc:TypeId × Value->H} {P:Program} {t e:TypeId} {W:World} {base:Nat} {held:Bool} (ht:P.underlying t=some (.slice e)) (ce:P.cellsOf e=5)
 (one:∀ (n:Nat) (cs:List Value) (x:DataW H × List MemPlace),DataW.trod enc P W base (fun _=>true) held n e cs=some x->∃ t:St5,cs=stc t/\(Lit.int .i64 t.2.2.1).wf=true/\(Lit.int .i64 t.2.2.2.1).wf=true)
 {r:Reach} {b0:Nat} {v:Value} (hval:Value.okWide P W r b0 t v) {d:DataW H} {ps:List MemPlace} (hd:DataW.Trod enc P W base (fun _=>true) held t v d ps) :
 ∃ (pa:Option Addr) (c:Nat) (ts:List St5),v=.slice pa ts.length c/\(∀ t ∈ ts,(Lit.int .i64 t.2.2.1).wf=true/\(Lit.int .i64 t.2.2.2.1).wf=true)/\StArg W pa ts:=by
 obtain⟨fuel,hf⟩:=hd;obtain⟨a0,len,cap,rfl⟩:=okWide_slice ht hval
 rcases Go.Deep.open_slice ht hf with ⟨hcs,-⟩ | ⟨a,len',cap',m,n,D,Pl,hcs,-,hl,-,hm,-,hx⟩
 ·simp [Value.cells]at hcs;obtain⟨rfl,rfl,rfl⟩:=hcs;exact⟨none,0,[],rfl,by simp,.inl rfl⟩
 ·simp [Value.cells]at hcs;obtain⟨rfl,rfl,rfl⟩:=hcs;simp only [if_true]at hm;subst hm
  have each:∀ i,i<len->∃ q:St5,(∀ j v,(stc q)[j]? = some v->W.cell? ((a.add (i * 5)).add j)=some v)/\(Lit.int .i64 q.2.2.1).wf=true/\(Lit.int .i64 q.2.2.2.1).wf=true:=by
   intro i hi;obtain⟨cs',h1,h2⟩:=hx i (by omega);rw [ce]at h1;obtain⟨_,hlen,hcell⟩:=World.cells?_some h1;obtain⟨q,rfl,w1,w2⟩:=one _ _ _ h2;refine⟨q,fun j v hj=>?_,w1,w2⟩;rw [hcell j (by have:=(List.getElem?_eq_some_iff.1 hj).1;rwa [hlen]at this)];exact hj
  obtain⟨q,hq⟩:=Go.Deep.choose_lt each;refine⟨some a,m,(List.range len).map q,by simp,fun t ht=>?_,?_⟩
  ·obtain⟨i,hi,rfl⟩:=List.mem_map.1 ht;exact(hq i (List.mem_range.1 hi)).2
  ·by_cases h0:len=0
   ·subst h0;exact .inl rfl
   ·right
    have c0:=(hq 0 (by omega)).1 0 (.int .i64 (q 0).1) rfl;obtain⟨b,off,spot⟩:=a;have hspot:spot=none:=by simpa [Addr.add]using World.cell?_spot c0
    subst hspot;refine⟨b,off,rfl,?_,fun j t hj=>?_⟩
    ·have:=World.block_lt_of_cell? _ _ c0
     simpa [Addr.add]using this
    ·rw [List.getElem?_map,Option.map_eq_some_iff]at hj;obtain⟨i,hi,rfl⟩:=hj
     have hi':j<len:=by
      have:=(List.getElem?_eq_some_iff.1 hi).1
      simpa using this
     rw [List.getElem?_range hi']at hi
     cases hi
     intro l v hv;have:=(hq j hi').1 l v hv;rw [Addr.add_mid,Addr.add_mid]at this;exact this
end
end Go.Proofs.YthaliljaglldjaaGreat
namespace Go.Proofs.YthaliljaglldjaaGreat
set_option maxHeartbeats 16000000
set_option maxRecDepth 20000
open Go.RowKit Go.ChangeMaps Go.MapKept
section
variable {w:World} {p:Nat} {M:WM} {F:Nat->Prop}
end
section
def Own (w0 w:World) (p:Nat) (M:WM):Prop:=∃ F,IsW w p M F/\(∀ b,F b->w0.heap.size≤b)/\Bl w0 w
theorem Own.below {w0 w w':World} {p:Nat} {M:WM} (h:Own w0 w p M) (hb:Bl w w'):Own w0 w' p M:=by
 obtain⟨F,h1,h2,h3⟩:=h;exact⟨F,h1.below hb,h2,h3.trans (hb.mono h3.size)⟩
theorem Own.turn {w0 w w':World} {p:Nat} {M':WM} {F F':Nat->Prop} (h2:∀ b,F b->w0.heap.size≤b) (h3:Bl w0 w) (hW:IsW w' p M' F') (hg:Grew F w F' w'):Own w0 w' p M':=by
 refine⟨F',hW,fun b hb=>?_,h3.trans (Keeps.below hg.1 h3.size h2)⟩
 rcases hg.2 b hb with h | h
 ·exact h2 b h
 ·exact Nat.le_trans h3.size h
end
section
def TM1:WM:=(WM.new []).add (lt 1 0 0 0 0 0 0 0 0 false)
def TM2:WM:=(TM1.add (tallyT 0 0)).add (tapT 0 1 (TM1.last+1))
def TM3:WM:=TM2.set 2 (tallyT 0 1)
theorem ttree:TreeOk []:=⟨by decide,fun i p h=>by simp at h⟩
theorem tths2:TM2.things = [(1,lt 1 0 0 0 0 0 0 0 0 false),(2,tallyT 0 0),(3,tapT 0 1 2)]:=rfl
theorem tths3:TM3.things = [(1,lt 1 0 0 0 0 0 0 0 0 false),(2,tallyT 0 1),(3,tapT 0 1 2)]:=rfl
theorem tlight1:∀ r t,TM1.at r=some t->Lite t:=fun r t h=>by
 have:=at_mem h;rw [show TM1.things = [(1,lt 1 0 0 0 0 0 0 0 0 false)]from rfl]at this;simp only [List.mem_cons,List.not_mem_nil,or_false,Prod.mk.injEq]at this;obtain⟨-,rfl⟩:=this;exact⟨_,_,_,_,_,_,_,_,_,_,rfl,plain0⟩
theorem ttw {M:WM} {c:Int} (hths:M.things = [(1,lt 1 0 0 0 0 0 0 0 0 false),(2,tallyT 0 c),(3,tapT 0 1 2)]) (hm:M.made.length=1) (hc:0≤c/\c≤9007199254740992):TW M:=fun r t h hk=>by
 have:=at_mem h;rw [hths]at this;simp only [List.mem_cons,List.not_mem_nil,or_false,Prod.mk.injEq]at this
 rcases this with ⟨-,rfl⟩ | ⟨-,rfl⟩ | ⟨-,rfl⟩
 ·cases hk
 ·cases hk
 ·refine⟨0,1,2,0,c,rfl,?_,by rw [hm];decide,hc⟩;show M.things.lookup 2=_;rw [hths];rfl
theorem tway3 (M:WM) {c:Int} (hths:M.things = [(1,lt 1 0 0 0 0 0 0 0 0 false),(2,tallyT 0 c),(3,tapT 0 1 2)]):WayIs M 3 [3,1]/\WayIs M 1 [1]:=by
 have h1:M.at 1=some (lt 1 0 0 0 0 0 0 0 0 false):=by
  show M.things.lookup 1=_;rw [hths];rfl
 have h3:M.at 3=some (tapT 0 1 2):=by
  show M.things.lookup 3=_;rw [hths];rfl
 have hw1:WayIs M 1 [1]:=WayIs.mk_base h1 rfl;exact⟨WayIs.mk_wrap h3 rfl hw1,hw1⟩
theorem tpass2:TM2.pass [3,1]=TM3:=by
 have h3:TM2.at 3=some (tapT 0 1 2):=rfl;have h2:TM2.at 2=some (tallyT 0 0):=rfl;show (TM2.cnt 3).cnt 1=_;rw [cnt_tap h3 h2];exact cnt_not (t:=lt 1 0 0 0 0 0 0 0 0 false) rfl (by decide)
theorem tpass3:TM3.pass [1]=TM3:=show TM3.cnt 1=TM3 from cnt_not (t:=lt 1 0 0 0 0 0 0 0 0 false) rfl (by decide)
theorem ttaps:TM3.tapsL [3,1] = [3]:=rfl
theorem lives13_W (w:World):Calls Tryz.prog 27 #[] w fun e w'=>e=.returned (.bool true)/\Bl w w':=by
 go_enter Tryz.func27,Tryz.ntmps27
 go_wp2_with fail
 refine(New_W w none 0 [] (.inl rfl)).mono ?_;rintro e w1 hpost;obtain⟨p,F,rfl,hW,hF,hb⟩:=(Or.resolve_right hpost (fun h=>h.1 ttree)).2;clear hpost;have HO:Hid (Own w w1 p (WM.new [])):=⟨F,hW,fun b h=>hF b h,hb⟩;clear hW hF hb
 go_wp2_with fail
 obtain⟨F,hW,h2,h3⟩:=HO.out;refine(Make_1 hW (by decide) (h:=0) (by decide) plain0).mono ?_;rintro e w2 (⟨-,rfl,F',hW',hg⟩ | ⟨hx,-,-⟩)
 rotate_left
 ·exact absurd (by decide) hx
 rw [makeM,if_neg (by simp)]at hW';have HO2:Hid (Own w w2 p TM1):=Own.turn h2 h3 hW' hg;clear HO hW h2 h3 hW' hg;simp only [show (WM.new []).last+1=1 from rfl]
 go_wp2_with fail
 obtain⟨F2,hW,h2,h3⟩:=HO2.out;refine(tMake_W hW tlight1 (by decide) (h:=0) (r:=1) (by decide) (by decide) (v:=lt 1 0 0 0 0 0 0 0 0 false) rfl).mono ?_;rintro e w3 ⟨rfl,F',hW',hg⟩;have HO3:Hid (Own w w3 p TM2):=Own.turn h2 h3 hW' hg;clear HO2 hW h2 h3 hW' hg;simp only [show TM1.last+2=3 from rfl,show TM1.last+1=2 from rfl]
 go_wp2_with fail
 obtain⟨F3,hW,h2,h3⟩:=HO3.out;refine(Pass_W hW (ttw tths2 rfl (by decide)) (tway3 TM2 tths2).1 (t0:=tapT 0 1 2) rfl).mono ?_;rintro e w4 ⟨rfl,hW',hk⟩;rw [tpass2]at hW';have HO4:Hid (Own w w4 p TM3):=⟨F3,hW',h2,h3.trans (Keeps.below hk h3.size h2)⟩;clear HO3 hW h2 h3 hW' hk
 go_wp2_with fail
 obtain⟨F4,hW,h2,h3⟩:=HO4.out;refine(Pass_W hW (ttw tths3 rfl (by decide)) (tway3 TM3 tths3).2 (t0:=lt 1 0 0 0 0 0 0 0 0 false) rfl).mono ?_;rintro e w5 ⟨rfl,hW',hk⟩;rw [tpass3]at hW';have HO5:Hid (Own w w5 p TM3):=⟨F4,hW',h2,h3.trans (Keeps.below hk h3.size h2)⟩;clear HO4 hW h2 h3 hW' hk
 go_wp2_with fail
 obtain⟨F5,hW,h2,h3⟩:=HO5.out;refine(Count_tap hW (r:=3) (h:=0) (tg:=1) (n:=2) (h':=0) (c:=1) rfl rfl).mono ?_;rintro e w6 ⟨rfl,hb⟩;have HO6:Hid (Own w w6 p TM3):=HO5.out.below hb;clear HO5 hW h2 h3 hb
 go_wp2_with fail
 obtain⟨F6,hW,h2,h3⟩:=HO6.out;refine(Count_not hW (r:=1) (k:=1) (h:=0) (vk:=0) (vn:=0) (n:=0) (l:=0) (tg:=0) (bi:=0) (s:=0) (fu:=false) rfl plain0 (by decide)).mono ?_;rintro e w7 ⟨rfl,hb⟩;have HO7:Hid (Own w w7 p TM3):=HO6.out.below hb;clear HO6 hW h2 h3 hb
 go_wp2_with fail
 obtain⟨F7,hW,h2,h3⟩:=HO7.out;refine(Taps_W hW (tway3 TM3 tths3).1 (t0:=tapT 0 1 2) rfl).mono ?_;rw [ttaps];rintro e w8 ⟨v,rfl,hrow,hb⟩;obtain⟨a,cap,rfl,hcells⟩:=way_cells hrow;obtain⟨g,rfl,-,-,hc⟩:=hcells 0 (by decide);have hc:w8.cell? ⟨g,0,none⟩=some (.int .i64 3):=hc;have HB8:Hid (Bl w w8):=h3.trans (hb.mono h3.size);clear HO7 hW h2 h3 hb hcells hrow
 go_wp2_with fail
 go_ret
 exact⟨rfl,HB8.out⟩
end
end Go.Proofs.YthaliljaglldjaaGreat
