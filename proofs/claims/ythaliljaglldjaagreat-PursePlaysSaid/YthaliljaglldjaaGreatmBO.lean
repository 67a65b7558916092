/- A part of the proof, several texts in one: QtK, PyD, Two, PyE. -/
import Derived.Test.YthaliljaglldjaaGreatmBG
import Derived.Deep.QuietTactic
import Derived.BigQuiet
import Derived.Test.YthaliljaglldjaaGreatmBM
import Derived.Test.YthaliljaglldjaaGreatmBN
import Derived.Test.YthaliljaglldjaaGreatmBF
import Derived.Test.YthaliljaglldjaaGreatmAL
import Derived.Deep.DeepCutAuto
import Derived.Deep.CutBlock
/- posternlaw10's numbers: two lists of the same numbers. -/
namespace Go.Proofs.YthaliljaglldjaaGreat
open Go.RowKit Go.ChangeMaps Go.MapKept
set_option maxHeartbeats 2000000 in
set_option maxRecDepth 8000 in
theorem numbers10_W {w:World} {xs:List Int} {b1 b2:Nat} {v1 v2:Value} (h1:w.ownsRow b1 25 1 v1 xs.length (xs.map (Value.int .i64))) (h2:w.ownsRow b2 25 1 v2 xs.length (xs.map (Value.int .i64))) (hl:xs.length ≤ 100000) :
 Calls Tryz.prog 202 #[v1,v2] w fun e w'=>e = .returned (.bool true)∧Below w.heap.size w w':=by
 obtain ⟨a1,c1,rfl,hc1⟩:=row_slice h1
 obtain ⟨a2,c2,rfl,hc2⟩:=row_slice h2
 have HC1:=(show Hid _ from hc1)
 have HC2:=(show Hid _ from hc2)
 obtain ⟨n,hn⟩:∃ n,n = xs.length:=⟨_,rfl⟩
 rw [← hn] at HC1 HC2 ⊢
 have HN:Hid (n = xs.length∧n ≤ 100000):=⟨hn,by omega⟩
 clear h1 h2 hc1 hc2 hn hl
 go_enter Tryz.func202,Tryz.ntmps202
 go_wp2_with fail
 go_loopw [5] (fun vi wr=>∃ i:Nat,vi = .int .i64 i∧i ≤ n∧Hid (Below w.heap.size w wr)) (fun vi _=>n - (intOf vi).toNat)
 case atStart=>exact ⟨0,rfl,Nat.zero_le _,Below.refl _ _⟩
 case round =>
  obtain ⟨i,rfl,hi,HB⟩:=hrel
  by_cases hin:i < n
  ·have hiz:(i:Int) < (n:Int):=by omega
   have hi0:(0:Int) ≤ (i:Int):=by omega
   have hwi:wrap64 ((i:Int) + 1) = (i:Int) + 1:=by have:=HN.out.2;unfold wrap64;omega
   obtain ⟨x,hx⟩:∃ x,xs[i]? = some x:=⟨_,List.getElem?_eq_getElem (by have:=HN.out.1;omega)⟩
   obtain ⟨g1,rfl,k1⟩:=HC1.out i hin
   obtain ⟨g2,rfl,k2⟩:=HC2.out i hin
   rw [List.getElem?_map,hx] at k1 k2
   have d1:wr.cell? ⟨g1,i,none⟩ = some (.int .i64 x):=(HB.out.cell (p:=⟨g1,i,none⟩) (World.block_lt_of_cell? _ _ k1)).trans k1
   have d2:wr.cell? ⟨g2,i,none⟩ = some (.int .i64 x):=(HB.out.cell (p:=⟨g2,i,none⟩) (World.block_lt_of_cell? _ _ k2)).trans k2
   have HB2:Hid (∀ m,Below w.heap.size w (wr.drewN m)):=fun m=>HB.out.trans ⟨rfl,rfl,rfl,Nat.le_refl _,fun _ _=>rfl⟩
   have HB3:Hid (Below w.heap.size w wr.drew):=HB.out.trans (below_drew.mono HB.out.size)
   clear k1 k2 hx
   go_wp2_with fail
   go_region
   all_goals
    go_wp2_with fail
    go_roundw
    case rel=>exact ⟨i + 1,by go_num,by omega,HB3.out⟩
    case measure=>rw [hwi];clear hwi;simp [intOf];omega
  ·have hiz:¬ (i:Int) < (n:Int):=by omega
   obtain rfl:i = n:=by omega
   have hkk:¬ (i:Int) < (i:Int):=by omega
   go_wp2_with fail
   go_ret
   exact ⟨rfl,HB.out⟩
end Go.Proofs.YthaliljaglldjaaGreat
/- PursePlays: Drop in both worlds; the calls that change nothing. -/
namespace Go.Proofs.YthaliljaglldjaaGreat
open Go.RowKit Go.ChangeMaps Go.MapKept
variable {w:World} {p q:Nat} {M:WM} {F G:Nat→Prop}
theorem drop1_W (hW:IsW w p M F) {b c:Nat} {r:Int} (hc:w.cell? ⟨b,0,none⟩ = some (.int .i64 r)) (hb:b < w.heap.size) (hr:(Lit.int .i64 r).wf = true)
 (nofacet:∀ r t,M.at r = some t→t.kind ≠ 14) (light:∀ r t,M.at r = some t→Light t) :
 Calls Tryz.prog 105 #[.pointer (some ⟨p,0,none⟩),.slice (some ⟨b,0,none⟩) 1 c] w (DropPost w p M F [r]) :=
 Drop_W hW (m:=1) (l:=[r]) (show 1 = [r].length from rfl) (by decide) (.inr ⟨b,0,rfl,hb,fun j x hx=>by
  match j,hx with
  | 0,hx=>simp at hx;subst hx;simpa using hc⟩) (fun x hx=>by simp at hx;subst hx;exact hr) nofacet light
theorem nodup_one {ds:List Int} {r:Int} (hn:ds.Nodup) (h:∀ x,x ∈ ds ↔ x ∈ [r]):ds = [r]:=by
 cases ds with
 | nil=>exact absurd ((h r).2 (by simp)) (by simp)
 | cons x xs =>
   have hx:x = r:=by simpa using (h x).1 (by simp)
   subst hx
   cases xs with
   | nil=>rfl
   | cons y ys =>
     have hy:y = x:=by simpa using (h y).1 (by simp)
     subst hy
     simp at hn
theorem PP.gone (h:PP M) (r:Int):goneQ M [r] = [r]:=by
 unfold goneQ
 rw [List.filter_eq_nil_iff.2 fun x hx=>?_]
 ·rfl
 ·have:=(h.things x hx).kinds.1
  simp [facOf,this]
theorem PP.lean (h:PP M) (r:Int):(∃ x ∈ M.things,heldX [r] x∨leanX (goneQ M [r]) x) ↔ Lean' M [r]:=by
 rw [h.gone]
 constructor
 ·rintro ⟨x,hx,hh | ⟨h1,h2⟩⟩
  ·exact absurd hh.1 (h.things x hx).kinds.1
  ·refine ⟨x.1,x.2,h.ok.at_of_mem hx,?_,?_⟩
   ·intro e
    rw [List.contains_iff_mem.2 e] at h1
    cases h1
   ·rcases h2 with ⟨h3,h4⟩ | h4
    ·exact .inl ⟨h3,List.contains_iff_mem.1 h4⟩
    ·exact .inr (List.contains_iff_mem.1 h4)
 ·rintro ⟨k,t,ht,hk,h2⟩
  refine ⟨(k,t),at_mem ht,.inr ⟨?_,?_⟩⟩
  ·show [r].contains k = false
   cases e:[r].contains k with
   | false=>rfl
   | true=>exact absurd (List.contains_iff_mem.1 e) hk
  ·rcases h2 with ⟨h3,h4⟩ | h4
   ·exact .inl ⟨h3,List.contains_iff_mem.2 h4⟩
   ·exact .inr (List.contains_iff_mem.2 h4)
theorem LtM.wide (h:LtM M):LtW M:=fun x hx=>by
 obtain ⟨k,hh,n,l,tg,e⟩:=h x hx
 exact ⟨_,_,_,_,_,_,_,_,e⟩
theorem PP.amounts (h:PP M):∀ x ∈ M.things,(0 ≤ x.2.n∧x.2.n ≤ 9007199254740992)∧0 ≤ x.2.lost∧x.2.lost ≤ 9007199254740992:=fun x hx=>by
 rcases h.things x hx with ⟨k,hh,e,-⟩ | ⟨hh,n,e,hn⟩ | ⟨hh,n,l,e,hl,hn⟩ | ⟨hh,n,m,e,hn,-⟩ <;> rw [e]
 ·exact ⟨⟨Int.le_refl _,(by decide:(0:Int) ≤ 9007199254740992)⟩,Int.le_refl _,(by decide:(0:Int) ≤ 9007199254740992)⟩
 ·exact ⟨hn,Int.le_refl _,(by decide:(0:Int) ≤ 9007199254740992)⟩
 ·show (0 ≤ n∧n ≤ 9007199254740992)∧0 ≤ l∧l ≤ 9007199254740992
  omega
 ·exact ⟨hn,Int.le_refl _,(by decide:(0:Int) ≤ 9007199254740992)⟩
def DropTwo (x:Int) (w:World) (p q:Nat) (M:WM) (F G:Nat→Prop) (r:Int):Prop:=∀ b c,w.cell? ⟨b,0,none⟩ = some (.int .i64 r)→b < w.heap.size →
 Calls Tryz.prog 105 #[.pointer (some ⟨p,0,none⟩),.slice (some ⟨b,0,none⟩) 1 c] w fun e w5=>e = .returned (.int .i64 x)∧Keeps (fun b=>F b∨G b) w w5 ∧
  ∀ w',Below w5.heap.size w5 w'→∀ b' c',w'.cell? ⟨b',0,none⟩ = some (.int .i64 r)→b' < w'.heap.size→Calls Tryz.prog 106 #[.pointer (some ⟨q,0,none⟩),.slice (some ⟨b',0,none⟩) 1 c'] w' fun e w6=>e = .returned (.int .i64 x)∧PStep w p q M F G w6∧Keeps G w' w6
theorem drop2 (hP:PP M) (hl:M.last ≤ 100000) {r:Int} (hr:(Lit.int .i64 r).wf = true):∃ x:Int,∀ w,PS w p q M F G→DropTwo x w p q M F G r:=by
 have hQ:=hP.qok hl
 have hd:∀ w',IsR w' q M G→∀ b' c',w'.cell? ⟨b',0,none⟩ = some (.int .i64 r)→b' < w'.heap.size→Calls Tryz.prog 106 #[.pointer (some ⟨q,0,none⟩),.slice (some ⟨b',0,none⟩) 1 c'] w' (Drop7Post w' q M G [r]):=fun w' hR b' c' hc hb =>
  drop7_W (oL:=0) (ls:=[r]) hR hQ.good.ok hP.ltM.wide hP.amounts (by simp) hb fun j x hx=>by
   match j,hx with
   | 0,hx=>simp at hx;subst hx;simpa using hc
 by_cases h0:M.at r = none
 ·refine ⟨5,fun w S b c hc hb=>(drop1_W S.W hc hb hr hP.nofacet hP.light).mono ?_⟩
  rintro e w5 (⟨rfl,hb5,-⟩ | ⟨h1,-⟩)
  ·refine ⟨rfl,Keeps.of_below hb5,fun w' hb' b' c' hc' hbl=>(hd w' (S.R.below (hb5.trans (hb'.mono hb5.size))) b' c' hc' hbl).mono ?_⟩
   rintro e w6 (⟨rfl,hb6,-⟩ | ⟨k1,-⟩ | ⟨k1,-⟩)
   ·exact ⟨rfl,S.same ((hb5.trans (hb'.mono hb5.size)).trans (hb6.mono (Nat.le_trans hb5.size hb'.size))),Keeps.of_below hb6⟩
   ·exact absurd h0 (k1 r (by simp))
   ·exact absurd h0 (k1 r (by simp))
  ·exact absurd h0 (h1 r (by simp))
 obtain ⟨t,ht⟩:=Option.ne_none_iff_exists'.1 h0
 by_cases hle:Lean' M [r]
 ·refine ⟨72,fun w S b c hc hb=>(drop1_W S.W hc hb hr hP.nofacet hP.light).mono ?_⟩
  rintro e w5 (⟨-,-,k,hk,hk0⟩ | ⟨h1,⟨rfl,hb5,-⟩ | ⟨-,h2,-⟩⟩)
  ·rw [List.mem_singleton.1 hk] at hk0
   exact absurd hk0 h0
  ·refine ⟨rfl,Keeps.of_below hb5,fun w' hb' b' c' hc' hbl=>(hd w' (S.R.below (hb5.trans (hb'.mono hb5.size))) b' c' hc' hbl).mono ?_⟩
   rintro e w6 (⟨-,-,k,hk,hk0⟩ | ⟨k1,rfl,hb6,-⟩ | ⟨k1,-,k2,-⟩)
   ·rw [List.mem_singleton.1 hk] at hk0
    exact absurd hk0 h0
   ·exact ⟨rfl,S.same ((hb5.trans (hb'.mono hb5.size)).trans (hb6.mono (Nat.le_trans hb5.size hb'.size))),Keeps.of_below hb6⟩
   ·obtain ⟨x,hx,hx2⟩:=(hP.lean r).2 hle
    exact (hx2.elim (k2 x hx).1 (k2 x hx).2).elim
  ·exact absurd hle h2
 ·refine ⟨0,fun w S b c hc hb=>(drop1_W S.W hc hb hr hP.nofacet hP.light).mono ?_⟩
  rintro e w5 (⟨-,-,k,hk,hk0⟩ | ⟨h1,⟨-,-,h2⟩ | ⟨rfl,-,ds,hnd,hds,hW,hk⟩⟩)
  ·rw [List.mem_singleton.1 hk] at hk0
   exact absurd hk0 h0
  ·exact absurd h2 hle
  ·have e1:=nodup_one hnd hds
   subst e1
   have hW:IsW w5 p (dropM M [r]) F:=by rw [← hP.drop_eq ht];exact hW
   have hg0:Grew F w F w5:=⟨hk,fun b h=>.inl h⟩
   refine ⟨rfl,hk.mono fun _ _ h=>.inl h,fun w' hb' b' c' hc' hbl=>(hd w' (S.R5 (hg0.on hb')) b' c' hc' hbl).mono ?_⟩
   rintro e w6 (⟨-,-,k,hk,hk0⟩ | ⟨k1,rfl,hb6,k2⟩ | ⟨k1,rfl,k2,G',hR,hg6⟩)
   ·rw [List.mem_singleton.1 hk] at hk0
    exact absurd hk0 h0
   ·exact absurd ((hP.lean r).1 k2) hle
   ·rw [hP.gone] at hR
    exact ⟨rfl,S.two (hW.below hb') (hg0.on hb') hR hg6 (hP.drop ht hle) (by show M.last ≤ M.last + 1;omega),hg6.1⟩
theorem pursesRow {w':World} {base:Nat} {v:Value} {r:Int} (h:w'.ownsRow base 25 1 v (M.things.filter (isP r)).length ((M.things.filter (isP r)).map fun x=>.int .i64 x.1)) :
 w'.ownsRow base 25 1 v (pursesTo M r M.things.length).length ((pursesTo M r M.things.length).map (Value.int .i64)):=by
 rw [pursesTo_all,List.length_map,List.map_map]
 exact h
def PursesOk (w:World) (L:List Int) (y:Int) (e:Ending) (w':World):Prop:=∃ v,e = .returned (.tuple #[v,.int .i64 y])∧w'.ownsRow w.heap.size 25 1 v L.length (L.map (Value.int .i64))∧Below w.heap.size w w'
theorem purses2 (hP:PP M) (hl:M.last ≤ 100000) {r:Int} (hr:(Lit.int .i64 r).wf = true):∃ (L:List Int) (y:Int),L.length ≤ 100000∧(∀ w,IsW w p M F→Calls Tryz.prog 200 #[.pointer (some ⟨p,0,none⟩),.int .i64 r] w (PursesOk w L y)) ∧
 ∀ w,IsR w q M G→Calls Tryz.prog 201 #[.pointer (some ⟨q,0,none⟩),.int .i64 r] w (PursesOk w L y):=by
 have hQ:=hP.qok hl
 have hlen:M.things.length ≤ 100000:=hQ.good.ok.len
 by_cases hno:findE M 8 r ≠ 0
 ·refine ⟨[],findE M 8 r,by simp,fun w hW=>(Purses_ref hW hP.ltM hr hno).mono ?_,fun w hR=>(pursesq_no hR hQ.good.ok r hno).mono ?_⟩
  ·rintro e w' ⟨rfl,hb⟩
   exact ⟨_,rfl,World.ownsRow_nil _ _ _ _,hb⟩
  ·rintro e w' ⟨rfl,hb⟩
   exact ⟨_,rfl,World.ownsRow_nil _ _ _ _,hb⟩
 ·obtain ⟨hh,N,lo,ht,hlo,hN⟩:=hP.isMint hno
  refine ⟨pursesTo M r M.things.length,0,Nat.le_trans (pursesTo_len M r _) hlen,fun w hW=>(Purses_W hW hr ht fun x hx hk=>?_).mono ?_,fun w hR=>pursesq_W hR hQ.good.ok r (Decidable.not_not.1 hno)⟩
  ·obtain ⟨h,n,m,e,-⟩:=hP.purses x hx hk
   exact ⟨h,n,m,e⟩
  ·rintro e w' ⟨v,rfl,h1,h2⟩
   exact ⟨v,rfl,pursesRow h1,h2⟩
theorem sum2 (hP:PP M) (hl:M.last ≤ 100000) {r:Int} (hr:(Lit.int .i64 r).wf = true):∃ a b c y:Int,(∀ w,IsW w p M F→Calls Tryz.prog 192 #[.pointer (some ⟨p,0,none⟩),.int .i64 r] w fun e w'=>e = .returned (.tuple #[.int .i64 a,.int .i64 b,.int .i64 c,.int .i64 y])∧Below w.heap.size w w') ∧
 ∀ w,IsR w q M G→Calls Tryz.prog 203 #[.pointer (some ⟨q,0,none⟩),.int .i64 r] w fun e w'=>e = .returned (.tuple #[.int .i64 a,.int .i64 b,.int .i64 c,.int .i64 y])∧Below w.heap.size w w':=by
 have hQ:=hP.qok hl
 by_cases hno:findE M 8 r ≠ 0
 ·exact ⟨0,0,0,_,fun w hW=>Sum_ref hW hP.ltM hr hno,fun w hR=>sumq_no hR hQ.good.ok r hno⟩
 ·obtain ⟨hh,N,lo,ht,hlo,hN⟩:=hP.isMint hno
  refine ⟨_,_,_,0,fun w hW=>Sum_W hW hr ht hP.purses,fun w hR=>?_⟩
  have:=sumq_W hR hQ.good.ok hP.sum r (Decidable.not_not.1 hno)
  rw [at7_some ht] at this
  exact this
end Go.Proofs.YthaliljaglldjaaGreat
/- A region that draws its order, with two calls that turn memory, the second behind the first; the other operations read, or make memory. -/
namespace Go.Proofs.YthaliljaglldjaaGreat
open Go.RowKit
def stg (x y:Bool):Nat:=if y then 2 else if x then 1 else 0
def twoB (l:List Oper) (m1 m2:Nat):Bool:=decide (m1 < l.length) && decide (m2 < l.length) && decide (m1 ≠ m2) && (l.zipIdx.all fun x=>decide (x.2 ≠ m2) || x.1.after.any fun e=>e.on == m1 && Region.binds .any e)
theorem twoB_at {l:List Oper} {m1 m2:Nat} (h:twoB l m1 m2 = true):m1 < l.length∧m2 < l.length∧m1 ≠ m2∧∀ o,l[m2]? = some o→∃ e ∈ o.after,e.on = m1∧Region.binds .any e = true:=by
 simp only [twoB,Bool.and_eq_true,decide_eq_true_eq] at h
 obtain ⟨⟨⟨h1,h2⟩,h3⟩,h4⟩:=h
 refine ⟨h1,h2,h3,fun o ho=>?_⟩
 have:=List.all_eq_true.1 h4 (o,m2) (List.mem_zipIdx_iff_getElem?.2 ho)
 simp only [Bool.or_eq_true,decide_eq_true_eq] at this
 rcases this with h | h
 ·exact absurd rfl h
 ·obtain ⟨j,hj,h6⟩:=Array.any_eq_true.1 h
  simp only [Bool.and_eq_true,beq_iff_eq] at h6
  exact ⟨_,Array.getElem_mem hj,h6.1,h6.2⟩
theorem two_step {P:Program} {Q:Exit→Act→World→Prop} {l:List Oper} {a0:Act} (hB:growGB l a0.tmps.size = true) (m1 m2:Nat) (hM:twoB l m1 m2 = true)
 (R:World→World→Prop) (Φ:Nat→Nat→Value→World→Prop) (C:Nat→World→Prop)
 (hΦ:∀ s j v w w',R w w'→Φ s j v w→Φ s j v w') (hC:∀ s w w',C s w→R w w'→C s w')
 {i:Nat} {o:Oper} {a:Act} {w:World} {A B:Array Bool}
 (step:∀ s,i ≠ m1→i ≠ m2→l[i]? = some o→C s w→Given l (Φ s) (fun _=>false) a0 o a w→o.wp P a w (fun a' w'=>∃ v,a' = a.put o.dst v∧R w w'∧Φ s i (o.dst.elim undef fun _=>v) w') Q)
 (turn1:l[m1]? = some o→C 0 w→Given l (Φ 0) (fun _=>false) a0 o a w→o.wp P a w (fun a' w'=>∃ v,a' = a.put o.dst v∧C 1 w'∧Φ 1 m1 (o.dst.elim undef fun _=>v) w'∧∀ j u,j ≠ m1→Φ 0 j u w→Φ 1 j u w') Q)
 (turn2:l[m2]? = some o→C 1 w→Given l (Φ 1) (fun _=>false) a0 o a w→o.wp P a w (fun a' w'=>∃ v,a' = a.put o.dst v∧C 2 w'∧Φ 2 m2 (o.dst.elim undef fun _=>v) w'∧∀ j u,j ≠ m2→Φ 1 j u w→Φ 2 j u w') Q)
 (hI:GInv l R (Φ (stg (A.getD m1 false) (A.getD m2 false))) (fun _=>false) (C (stg (A.getD m1 false) (A.getD m2 false))) a0 B a w) (ho:l[i]? = some o) (hdep:∀ e ∈ o.after,Region.binds .any e = true→B.getD e.on false = true)
 (hA21:A.getD m2 false = true→A.getD m1 false = true) (hAi:A.getD i false = false) (hBA:∀ k,k < l.length→B.getD k false = A.getD k false) (hil:i < l.length) :
 o.wp P a w (GInv l R (Φ (stg ((B.setIfInBounds i true).getD m1 false) ((B.setIfInBounds i true).getD m2 false))) (fun _=>false) (C (stg ((B.setIfInBounds i true).getD m1 false) ((B.setIfInBounds i true).getD m2 false))) a0 (B.setIfInBounds i true)) Q:=by
 obtain ⟨hm1,hm2,hne,hd⟩:=twoB_at hM
 have hG:Given l (Φ (stg (A.getD m1 false) (A.getD m2 false))) (fun _=>false) a0 o a w:=⟨fun e he hb oj hj=>hI.phi _ _ hj (hdep e he hb),hI.fr,hI.sz,fun e he f hf hbe hbf hne oi oj hi hj hci hcj=>by cases hci⟩
 have hiB:i < B.size:=by rw [hI.lsz];exact hil
 by_cases e1:i = m1
 ·subst e1
  have h2:A.getD m2 false = false:=by
   cases h:A.getD m2 false with
   | false=>rfl
   | true=>have:=hA21 h;rw [hAi] at this;cases this
  rw [getD_set_same' hiB,getD_set_ne false hne,hBA m2 hm2,h2]
  rw [hAi,h2] at hI hG
  exact growP_put hB hI ho (turn1 ho hI.c hG)
 ·by_cases e2:i = m2
  ·subst e2
   obtain ⟨e,he,h3,h4⟩:=hd o ho
   have h1:A.getD m1 false = true:=by
    have:=hdep e he h4
    rw [h3,hBA m1 hm1] at this
    exact this
   rw [getD_set_same' hiB,getD_set_ne false e1,hBA m1 hm1,h1]
   rw [hAi,h1] at hI hG
   exact growP_put hB hI ho (turn2 ho hI.c hG)
  ·rw [getD_set_ne false e1,getD_set_ne false e2,hBA m1 hm1,hBA m2 hm2]
   refine growP_put hB hI ho (Oper.wp_mono ?_ (step _ e1 e2 ho hI.c hG))
   rintro a' w' ⟨v,h1,hR,h2⟩
   exact ⟨v,h1,hC _ _ _ hI.c hR,h2,fun j u _ h=>hΦ _ _ _ _ _ hR h⟩
theorem wp_region_two {P:Program} {Q:Exit→Act→World→Prop} {id:Nat} {l:List Oper} {z:Oper} {t:List Oper} {a0:Act} {w0:World} (hm:P.follows .mixedOrders = true) (hB:growGB l a0.tmps.size = true)
 (ht:(chainB l.length 0 (z :: t) && lastB l z) = true)
 (m1 m2:Nat) (hM:twoB l m1 m2 = true) (R:World→World→Prop) (Φ:Nat→Nat→Value→World→Prop) (C:Nat→World→Prop)
 (hΦ:∀ s j v w w',R w w'→Φ s j v w→Φ s j v w') (hC0:C 0 w0.drew) (hC:∀ s w w',C s w→R w w'→C s w')
 (hg:∀ (p:Nat) (i:Nat) (o:Oper) (g:Nat) (b:Bool),l[i]? = some o→o.guard = some (g,b)→∀ v w,Φ p g v w→v = .bool b)
 (step:∀ (s i:Nat) (o:Oper) (a:Act) (w:World),i ≠ m1→i ≠ m2→l[i]? = some o→C s w→Given l (Φ s) (fun _=>false) a0 o a w→o.wp P a w (fun a' w'=>∃ v,a' = a.put o.dst v∧R w w'∧Φ s i (o.dst.elim undef fun _=>v) w') Q)
 (turn1:∀ (o:Oper) (a:Act) (w:World),l[m1]? = some o→C 0 w→Given l (Φ 0) (fun _=>false) a0 o a w→o.wp P a w (fun a' w'=>∃ v,a' = a.put o.dst v∧C 1 w'∧Φ 1 m1 (o.dst.elim undef fun _=>v) w'∧∀ j u,j ≠ m1→Φ 0 j u w→Φ 1 j u w') Q)
 (turn2:∀ (o:Oper) (a:Act) (w:World),l[m2]? = some o→C 1 w→Given l (Φ 1) (fun _=>false) a0 o a w→o.wp P a w (fun a' w'=>∃ v,a' = a.put o.dst v∧C 2 w'∧Φ 2 m2 (o.dst.elim undef fun _=>v) w'∧∀ j u,j ≠ m2→Φ 1 j u w→Φ 2 j u w') Q)
 (done:∀ a w,C 2 w→a.defers = a0.defers→a.tmps.size = a0.tmps.size→(∀ s,(∀ oj ∈ l,oj.dst ≠ some s)→a.tmps.getD s undef = a0.tmps.getD s undef)→(∀ (i:Nat) (o:Oper),l[i]? = some o→Φ 2 i (valOf o a) w)→wpTailG P (l ++ (z :: t)).toArray Q (z :: t) a w) :
 (Code.region id (l ++ (z :: t)).toArray true).wp P Q a0 w0:=by
 obtain ⟨at1,at2⟩:=growG_at hB
 obtain ⟨hm1,hm2,hne,hd2⟩:=twoB_at hM
 simp only [Bool.and_eq_true] at ht
 obtain ⟨ht,hz⟩:=ht
 have hat:∀ (i:Nat) (o:Oper),(l ++ (z :: t)).toArray[i]? = some o→(l[i]? = some o∧i < l.length)∨(∃ j,i = l.length + j∧(z :: t)[j]? = some o∧j < (z :: t).length):=fun i o ho=>by
  rw [List.getElem?_toArray,List.getElem?_append] at ho
  split at ho
  ·exact .inl ⟨ho,by assumption⟩
  ·right
   rename_i h
   exact ⟨i - l.length,by omega,ho,(List.getElem?_eq_some_iff.1 ho).1⟩
 have hget:∀ (i:Nat) (o:Oper),l[i]? = some o→(l ++ (z :: t)).toArray[i]? = some o:=fun i o ho=>by
  rw [List.getElem?_toArray,List.getElem?_append_left (List.getElem?_eq_some_iff.1 ho).1]
  exact ho
 refine wp_region_inv hm (fun A a w=>A.size = l.length + (z :: t).length ∧
  ((∃ j,1 ≤ j∧j ≤ (z :: t).length∧(∀ i,i < l.length + j→A.getD i false = true)∧(∀ i,l.length + j ≤ i→A.getD i false = false)∧wpTailG P (l ++ (z :: t)).toArray Q ((z :: t).drop j) a w) ∨
   ((∀ i,l.length ≤ i→A.getD i false = false)∧(∀ (i:Nat) (o:Oper),l[i]? = some o→A.getD i false = true→∀ e ∈ o.after,Region.binds .any e = true→A.getD e.on false = true) ∧
    ∃ B:Array Bool,(∀ i,i < l.length→B.getD i false = A.getD i false)∧GInv l R (Φ (stg (A.getD m1 false) (A.getD m2 false))) (fun _=>false) (C (stg (A.getD m1 false) (A.getD m2 false))) a0 B a w))) ?_ ?_ ?_ ?_
 ·intro i o ho e he
  rcases hat i o ho with ⟨ho,-⟩ | ⟨j,rfl,ho,-⟩
  ·exact (at1 i o ho).2.1 e he
  ·have:=(chainB_at ht ho).1 e he
   omega
 ·refine ⟨by simp,.inr ⟨fun i _=>getD_replicate_false _ _,(fun i o _ h=>by rw [getD_replicate_false] at h;cases h),Array.replicate l.length false,fun i _=>by rw [getD_replicate_false,getD_replicate_false],?_⟩⟩
  exact {
   lsz:=by simp
   c:=by rw [getD_replicate_false,getD_replicate_false];exact hC0
   sz:=rfl
   df:=rfl
   fr:=fun t _=>rfl
   phi:=fun i o _ h=>by rw [getD_replicate_false] at h;cases h
   blk:=fun i o _ h=>by rw [getD_replicate_false] at h;cases h
   ne:=fun i j oi oj _ _ _ h=>by rw [getD_replicate_false] at h;cases h }
 ·rintro A a w i o ⟨hA,hI⟩ ho hAi hdep
  have hiA:i < A.size:=by
   rcases hat i o ho with ⟨-,hi⟩ | ⟨j,rfl,-,hj⟩ <;> omega
  have hAf:A.getD i false = false:=by
   simp only [Array.getD,hiA,dif_pos] at hAi ⊢
   exact hAi
  rcases hI with ⟨k,hk1,hk2,hon,hoff,hq⟩ | ⟨hoff,hdn,B,hBA,hI⟩
  ·rcases hat i o ho with ⟨-,hi⟩ | ⟨j,rfl,hj,hjl⟩
   ·have:=hon i (by omega)
    rw [this] at hAf
    cases hAf
   ·have hjk:j = k:=by
     rcases Nat.lt_trichotomy j k with h | h | h
     ·have:=hon (l.length + j) (by omega)
      rw [this] at hAf
      cases hAf
     ·exact h
     ·exfalso
      obtain ⟨e,he,h1,h2⟩:=(chainB_at ht hj).2 (by omega)
      have h3:=hdep e he h2
      rw [h1,hoff _ (by omega)] at h3
      cases h3
    subst hjk
    have hdrop:(z :: t).drop j = o :: (z :: t).drop (j + 1):=by
     rw [List.drop_eq_getElem_cons hjl,(List.getElem?_eq_some_iff.1 hj).2]
    rw [hdrop] at hq
    obtain ⟨hw,hq⟩:=hq
    rw [if_pos hw]
    refine Oper.wp_mono ?_ hq
    intro a' w' hq'
    refine ⟨by simpa using hA,.inl ⟨j + 1,by omega,by omega,fun i hi=>?_,fun i hi=>?_,hq'⟩⟩
    ·by_cases e:i = l.length + j
     ·subst e
      exact getD_set_same' hiA
     ·rw [getD_set_ne false (by omega)]
      exact hon i (by omega)
    ·rw [getD_set_ne false (by omega)]
     exact hoff i (by omega)
  ·rcases hat i o ho with ⟨ho',hi⟩ | ⟨j,rfl,hj,hjl⟩
   ·have hdB:∀ e ∈ o.after,Region.binds .any e = true→B.getD e.on false = true:=fun e he hb=>by
     rw [hBA _ (Nat.lt_trans ((at1 i o ho').2.1 e he) hi)]
     exact hdep e he hb
    have hw:Region.wanted o (yielded (l ++ (z :: t)).toArray a.tmps) = true:=by
     unfold Region.wanted
     cases hgd:o.guard with
     | none=>rfl
     | some gb =>
       obtain ⟨g,b⟩:=gb
       obtain ⟨e,he,h1,h2⟩:=(at1 i o ho').1 g b hgd
       have hgi:g < i:=by
        have:=(at1 i o ho').2.1 e he
        omega
       obtain ⟨og,hog⟩:∃ og,l[g]? = some og:=⟨_,List.getElem?_eq_getElem (by omega)⟩
       have hphi:=hI.phi g og hog (by have:=hdB e he h2;rwa [h1] at this)
       have hv:=hg _ i o g b ho' hgd _ _ hphi
       have hy:yielded (l ++ (z :: t)).toArray a.tmps g = some b:=by
        unfold yielded
        rw [hget g og hog]
        unfold valOf at hv
        cases hdg:og.dst with
        | none=>rw [hdg] at hv;simp [undef] at hv
        | some d =>
          rw [hdg] at hv
          have hd:d < a.tmps.size:=by rw [hI.sz];exact (at1 g og hog).2.2 d hdg
          have hv:a.tmps.getD d undef = .bool b:=hv
          have:a.tmps[d]? = some (.bool b):=by
           rw [Array.getElem?_eq_getElem hd,← hv]
           simp [Array.getD,hd]
          simp [hdg,this]
       simp [hy]
    rw [if_pos hw]
    refine Oper.wp_mono ?_ (two_step hB m1 m2 hM R Φ C hΦ hC (fun s=>step s i o a w) (turn1 o a w) (turn2 o a w) hI ho' hdB (fun h2=>by
     obtain ⟨o2,ho2⟩:∃ o2,l[m2]? = some o2:=⟨_,List.getElem?_eq_getElem hm2⟩
     obtain ⟨e,he,h3,h4⟩:=hd2 o2 ho2
     have:=hdn m2 o2 ho2 h2 e he h4
     rwa [h3] at this) hAf (fun k hk=>hBA k hk) hi)
    rintro a' w' hI'
    have hAB:∀ m,m < l.length→(B.setIfInBounds i true).getD m false = (A.setIfInBounds i true).getD m false:=fun m hml=>by
     by_cases e:i = m
     ·subst e
      rw [getD_set_same' hiA,getD_set_same' (by rw [hI.lsz];exact hi)]
     ·rw [getD_set_ne false e,getD_set_ne false e]
      exact hBA m hml
    rw [hAB m1 hm1,hAB m2 hm2] at hI'
    refine ⟨by simpa using hA,.inr ⟨fun x hx=>?_,fun x ox hox hxA e he hb=>?_,_,fun x hx=>?_,hI'⟩⟩
    ·rw [getD_set_ne false (by omega)]
     exact hoff x hx
    ·by_cases e1:x = i
     ·subst e1
      rw [ho'] at hox
      cases hox
      have h1:=(at1 x o ho').2.1 e he
      rw [getD_set_ne false (by omega)]
      exact hdep e he hb
     ·rw [getD_set_ne false (Ne.symm e1)] at hxA
      have h3:=hdn x ox hox hxA e he hb
      by_cases e2:i = e.on
      ·rw [← e2]
       exact getD_set_same' hiA
      ·rw [getD_set_ne false e2]
       exact h3
    ·by_cases e:i = x
     ·subst e
      rw [getD_set_same' hiA,getD_set_same' (by rw [hI.lsz];exact hi)]
     ·rw [getD_set_ne false e,getD_set_ne false e]
      exact hBA x hx
   ·have hj0:j = 0:=by
     rcases Nat.eq_zero_or_pos j with h | h
     ·exact h
     ·exfalso
      obtain ⟨e,he,h1,h2⟩:=(chainB_at ht hj).2 (by omega)
      have h3:=hdep e he h2
      rw [h1,hoff _ (by omega)] at h3
      cases h3
    subst hj0
    have hz':o = z:=by simpa using hj.symm
    subst hz'
    have hall:=lastB_all hz hdep hdn
    have hBall:∀ i,i < l.length→B.getD i false = true:=fun i hi=>by rw [hBA i hi];exact hall i hi
    rw [hall m1 hm1,hall m2 hm2] at hI
    obtain ⟨hw,hd⟩:=done a w hI.c hI.df hI.sz hI.fr (fun i o ho=>hI.phi i o ho (hBall i (List.getElem?_eq_some_iff.1 ho).1))
    rw [if_pos hw]
    refine Oper.wp_mono ?_ hd
    intro a' w' hq'
    refine ⟨by simpa using hA,.inl ⟨1,by omega,by simp,fun i hi=>?_,fun i hi=>?_,hq'⟩⟩
    ·by_cases e:i = l.length
     ·subst e
      exact getD_set_same' hiA
     ·rw [getD_set_ne false (by omega)]
      exact hall i (by omega)
    ·rw [getD_set_ne false (by omega)]
     exact hoff i (by omega)
 ·rintro A a w ⟨hA,⟨k,hk1,hk2,hon,hoff,hq⟩ | ⟨hoff,-⟩⟩ hall
  ·have hk:k = (z :: t).length:=by
    rcases Nat.lt_or_ge k (z :: t).length with h | h
    ·exfalso
     have h1:=hall (l.length + k) (by simp at h ⊢;omega)
     have h2:=hoff (l.length + k) (Nat.le_refl _)
     have h3:l.length + k < A.size:=by omega
     simp only [Array.getD,h3,dif_pos] at h1 h2
     rw [h1] at h2
     cases h2
    ·omega
   subst hk
   simpa [wpTailG] using hq
  ·exfalso
   have h1:=hall l.length (by simp)
   have h2:=hoff l.length (Nat.le_refl _)
   have h3:l.length < A.size:=by simp at hA;omega
   simp only [Array.getD,h3,dif_pos] at h1 h2
   rw [h1] at h2
   cases h2
theorem wp_region_twoK {P:Program} {Q:Exit→Act→World→Prop} {id:Nat} {L:List Oper} {a0:Act} {w0:World} (k m1 m2:Nat) {z:Oper} {t:List Oper} (hm:P.follows .mixedOrders = true) (hk:L.drop k = z :: t) (hB:growGB (L.take k) a0.tmps.size = true)
 (ht:(chainB (L.take k).length 0 (L.drop k) && lastB (L.take k) z) = true) (hM:twoB (L.take k) m1 m2 = true)
 (R:World→World→Prop) (Φ:Nat→Nat→Value→World→Prop) (C:Nat→World→Prop)
 (hΦ:∀ s j v w w',R w w'→Φ s j v w→Φ s j v w') (hC0:C 0 w0.drew) (hC:∀ s w w',C s w→R w w'→C s w')
 (hg:∀ (p:Nat) (i:Nat) (o:Oper) (g:Nat) (b:Bool),(L.take k)[i]? = some o→o.guard = some (g,b)→∀ v w,Φ p g v w→v = .bool b)
 (step:∀ (s i:Nat) (o:Oper) (a:Act) (w:World),i ≠ m1→i ≠ m2→(L.take k)[i]? = some o→C s w→Given (L.take k) (Φ s) (fun _=>false) a0 o a w→o.wp P a w (fun a' w'=>∃ v,a' = a.put o.dst v∧R w w'∧Φ s i (o.dst.elim undef fun _=>v) w') Q)
 (turn1:∀ (o:Oper) (a:Act) (w:World),(L.take k)[m1]? = some o→C 0 w→Given (L.take k) (Φ 0) (fun _=>false) a0 o a w→o.wp P a w (fun a' w'=>∃ v,a' = a.put o.dst v∧C 1 w'∧Φ 1 m1 (o.dst.elim undef fun _=>v) w'∧∀ j u,j ≠ m1→Φ 0 j u w→Φ 1 j u w') Q)
 (turn2:∀ (o:Oper) (a:Act) (w:World),(L.take k)[m2]? = some o→C 1 w→Given (L.take k) (Φ 1) (fun _=>false) a0 o a w→o.wp P a w (fun a' w'=>∃ v,a' = a.put o.dst v∧C 2 w'∧Φ 2 m2 (o.dst.elim undef fun _=>v) w'∧∀ j u,j ≠ m2→Φ 1 j u w→Φ 2 j u w') Q)
 (done:∀ a w,C 2 w→a.defers = a0.defers→a.tmps.size = a0.tmps.size→(∀ s,(∀ oj ∈ L.take k,oj.dst ≠ some s)→a.tmps.getD s undef = a0.tmps.getD s undef)→(∀ (i:Nat) (o:Oper),(L.take k)[i]? = some o→Φ 2 i (valOf o a) w)→wpTailG P L.toArray Q (L.drop k) a w) :
 (Code.region id L.toArray true).wp P Q a0 w0:=by
 rw [hk] at ht done
 have hL:L.take k ++ (z :: t) = L:=by rw [← hk,List.take_append_drop]
 revert hB ht hM hg step turn1 turn2 done
 generalize L.take k = l at hL ⊢
 subst hL
 intro hB ht hM hg step turn1 turn2 done
 exact wp_region_two hm hB ht m1 m2 hM R Φ C hΦ hC0 hC hg step turn1 turn2 done
end Go.Proofs.YthaliljaglldjaaGreat
/- posternlaw10.tells: calls that change nothing. Printed by gen_both10.py. -/
namespace Go.Proofs.YthaliljaglldjaaGreat
open Go.RowKit Go.ChangeMaps Go.MapKept
variable {w:World} {p q:Nat} {M:WM} {F G:Nat→Prop}
set_option maxHeartbeats 4000000 in
set_option maxRecDepth 20000 in
theorem tells_2 (S:PS w p q M F G) (hl:M.last ≤ 100000) (sd qq n:Int) {r:Int} (hr:(Lit.int .i64 r).wf = true):Calls Tryz.prog 109 #[.pointer (some ⟨p,0,none⟩),.pointer (some ⟨q,0,none⟩),.agg #[.int .i64 2,.int .i64 sd,.int .i64 r,.int .i64 qq,.int .i64 n]] w fun e w'=>e = .returned (.bool true)∧Below w.heap.size w w':=by
 have hQ:=S.pp.qok hl
 obtain ⟨A,hA⟩:∃ A,A = (getA M r):=⟨_,rfl⟩
 obtain ⟨E,hE⟩:∃ E,E = (purseE M r):=⟨_,rfl⟩
 have HA:Hid (∀ w',Below w.heap.size w w'→Calls Tryz.prog 98 #[.pointer (some ⟨p,0,none⟩),.int .i64 r] w' fun e w''=>e = .returned (.tuple #[.int .i64 A,.int .i64 E])∧Below w'.heap.size w' w''):=fun w' hb=>by rw [hA,hE];exact Get_any (S.W.below hb) S.pp.ltM hr
 have HB:Hid (∀ w',Below w.heap.size w w'→Calls Tryz.prog 197 #[.pointer (some ⟨q,0,none⟩),.int .i64 r] w' fun e w''=>e = .returned (.tuple #[.int .i64 A,.int .i64 E])∧Below w'.heap.size w' w''):=fun w' hb=>by rw [hA,hE];exact getq_W (S.R.below hb) hQ.good.ok r
 clear S hl hr hQ hA hE
 have H1:Hid (Below w.heap.size w (w.alloc (.cells #[.int .i64 2,.int .i64 sd,.int .i64 r,.int .i64 qq,.int .i64 n] 62))∧(w.alloc (.cells #[.int .i64 2,.int .i64 sd,.int .i64 r,.int .i64 qq,.int .i64 n] 62)).heap[w.heap.size]? = some (.cells #[.int .i64 2,.int .i64 sd,.int .i64 r,.int .i64 qq,.int .i64 n] 62 (0,0))):=⟨(Below.refl _ w).alloc (Nat.le_refl _) _,blk_new _ _⟩
 go_enter Tryz.func109,Tryz.ntmps109
 go_upto_region 1 with fail
 revert H1
 generalize w.alloc _ = w1
 intro H1
 have c0:w1.cell? ⟨w.heap.size,0,none⟩ = some (.int .i64 2):=by rw [cell_blk H1.out.2];rfl
 have c2:w1.cell? ⟨w.heap.size,2,none⟩ = some (.int .i64 r):=by rw [cell_blk H1.out.2];rfl
 go_wp2_with fail
 refine Calls.mono (HA.out w1 H1.out.1) ?_
 rintro e w2 ⟨rfl,hb2⟩
 have H2:Hid (Below w.heap.size w w2∧w2.heap[w.heap.size]? = some (.cells #[.int .i64 2,.int .i64 sd,.int .i64 r,.int .i64 qq,.int .i64 n] 62 (0,0))):=⟨H1.out.1.trans (hb2.mono H1.out.1.size),below_blk hb2 H1.out.2⟩
 clear hb2 H1 c0 c2 HA
 have c2:w2.cell? ⟨w.heap.size,2,none⟩ = some (.int .i64 r):=by rw [cell_blk H2.out.2];rfl
 go_wp2_with fail
 refine Calls.mono (HB.out w2 H2.out.1) ?_
 rintro e w3 ⟨rfl,hb3⟩
 have H3:Hid (Below w.heap.size w w3):=H2.out.1.trans (hb3.mono H2.out.1.size)
 clear hb3 H2 c2 HB
 go_wp2_with fail
 go_ret
 exact ⟨rfl,H3.out⟩
set_option maxHeartbeats 4000000 in
set_option maxRecDepth 20000 in
theorem tells_5 (S:PS w p q M F G) (hl:M.last ≤ 100000) (sd qq n:Int) {r:Int} (hr:(Lit.int .i64 r).wf = true):Calls Tryz.prog 109 #[.pointer (some ⟨p,0,none⟩),.pointer (some ⟨q,0,none⟩),.agg #[.int .i64 5,.int .i64 sd,.int .i64 r,.int .i64 qq,.int .i64 n]] w fun e w'=>e = .returned (.bool true)∧Below w.heap.size w w':=by
 have hQ:=S.pp.qok hl
 obtain ⟨A,hA⟩:∃ A,A = (ofA M r):=⟨_,rfl⟩
 obtain ⟨E,hE⟩:∃ E,E = (ofErr M r):=⟨_,rfl⟩
 have HA:Hid (∀ w',Below w.heap.size w w'→Calls Tryz.prog 198 #[.pointer (some ⟨p,0,none⟩),.int .i64 r] w' fun e w''=>e = .returned (.tuple #[.int .i64 A,.int .i64 E])∧Below w'.heap.size w' w''):=fun w' hb=>by rw [hA,hE];exact Of_any (S.W.below hb) S.pp.ltM hr
 have HB:Hid (∀ w',Below w.heap.size w w'→Calls Tryz.prog 199 #[.pointer (some ⟨q,0,none⟩),.int .i64 r] w' fun e w''=>e = .returned (.tuple #[.int .i64 A,.int .i64 E])∧Below w'.heap.size w' w''):=fun w' hb=>by rw [hA,hE];exact ofq_W (S.R.below hb) hQ.good.ok r
 clear S hl hr hQ hA hE
 have H1:Hid (Below w.heap.size w (w.alloc (.cells #[.int .i64 5,.int .i64 sd,.int .i64 r,.int .i64 qq,.int .i64 n] 62))∧(w.alloc (.cells #[.int .i64 5,.int .i64 sd,.int .i64 r,.int .i64 qq,.int .i64 n] 62)).heap[w.heap.size]? = some (.cells #[.int .i64 5,.int .i64 sd,.int .i64 r,.int .i64 qq,.int .i64 n] 62 (0,0))):=⟨(Below.refl _ w).alloc (Nat.le_refl _) _,blk_new _ _⟩
 go_enter Tryz.func109,Tryz.ntmps109
 go_upto_region 1 with fail
 revert H1
 generalize w.alloc _ = w1
 intro H1
 have c0:w1.cell? ⟨w.heap.size,0,none⟩ = some (.int .i64 5):=by rw [cell_blk H1.out.2];rfl
 have c2:w1.cell? ⟨w.heap.size,2,none⟩ = some (.int .i64 r):=by rw [cell_blk H1.out.2];rfl
 go_wp2_with fail
 refine Calls.mono (HA.out w1 H1.out.1) ?_
 rintro e w2 ⟨rfl,hb2⟩
 have H2:Hid (Below w.heap.size w w2∧w2.heap[w.heap.size]? = some (.cells #[.int .i64 5,.int .i64 sd,.int .i64 r,.int .i64 qq,.int .i64 n] 62 (0,0))):=⟨H1.out.1.trans (hb2.mono H1.out.1.size),below_blk hb2 H1.out.2⟩
 clear hb2 H1 c0 c2 HA
 have c2:w2.cell? ⟨w.heap.size,2,none⟩ = some (.int .i64 r):=by rw [cell_blk H2.out.2];rfl
 go_wp2_with fail
 refine Calls.mono (HB.out w2 H2.out.1) ?_
 rintro e w3 ⟨rfl,hb3⟩
 have H3:Hid (Below w.heap.size w w3):=H2.out.1.trans (hb3.mono H2.out.1.size)
 clear hb3 H2 c2 HB
 go_wp2_with fail
 go_ret
 exact ⟨rfl,H3.out⟩
set_option maxHeartbeats 4000000 in
set_option maxRecDepth 20000 in
theorem tells_7 (S:PS w p q M F G) (hl:M.last ≤ 100000) (sd qq n:Int) {r:Int} (hr:(Lit.int .i64 r).wf = true):Calls Tryz.prog 109 #[.pointer (some ⟨p,0,none⟩),.pointer (some ⟨q,0,none⟩),.agg #[.int .i64 7,.int .i64 sd,.int .i64 r,.int .i64 qq,.int .i64 n]] w fun e w'=>e = .returned (.bool true)∧Below w.heap.size w w':=by
 obtain ⟨a,b,c,y,hA,hB⟩:=sum2 (p:=p) (q:=q) (F:=F) (G:=G) S.pp hl hr
 have HA:Hid (∀ w',Below w.heap.size w w'→Calls Tryz.prog 192 #[.pointer (some ⟨p,0,none⟩),.int .i64 r] w' fun e w''=>e = .returned (.tuple #[.int .i64 a,.int .i64 b,.int .i64 c,.int .i64 y])∧Below w'.heap.size w' w''):=fun w' hb=>hA w' (S.W.below hb)
 have HB:Hid (∀ w',Below w.heap.size w w'→Calls Tryz.prog 203 #[.pointer (some ⟨q,0,none⟩),.int .i64 r] w' fun e w''=>e = .returned (.tuple #[.int .i64 a,.int .i64 b,.int .i64 c,.int .i64 y])∧Below w'.heap.size w' w''):=fun w' hb=>hB w' (S.R.below hb)
 clear S hl hr hA hB
 have H1:Hid (Below w.heap.size w (w.alloc (.cells #[.int .i64 7,.int .i64 sd,.int .i64 r,.int .i64 qq,.int .i64 n] 62))∧(w.alloc (.cells #[.int .i64 7,.int .i64 sd,.int .i64 r,.int .i64 qq,.int .i64 n] 62)).heap[w.heap.size]? = some (.cells #[.int .i64 7,.int .i64 sd,.int .i64 r,.int .i64 qq,.int .i64 n] 62 (0,0))):=⟨(Below.refl _ w).alloc (Nat.le_refl _) _,blk_new _ _⟩
 go_enter Tryz.func109,Tryz.ntmps109
 go_upto_region 1 with fail
 revert H1
 generalize w.alloc _ = w1
 intro H1
 have c0:w1.cell? ⟨w.heap.size,0,none⟩ = some (.int .i64 7):=by rw [cell_blk H1.out.2];rfl
 have c2:w1.cell? ⟨w.heap.size,2,none⟩ = some (.int .i64 r):=by rw [cell_blk H1.out.2];rfl
 go_wp2_with fail
 refine Calls.mono (HA.out w1 H1.out.1) ?_
 rintro e w2 ⟨rfl,hb2⟩
 have H2:Hid (Below w.heap.size w w2∧w2.heap[w.heap.size]? = some (.cells #[.int .i64 7,.int .i64 sd,.int .i64 r,.int .i64 qq,.int .i64 n] 62 (0,0))):=⟨H1.out.1.trans (hb2.mono H1.out.1.size),below_blk hb2 H1.out.2⟩
 clear hb2 H1 c0 c2 HA
 have c2:w2.cell? ⟨w.heap.size,2,none⟩ = some (.int .i64 r):=by rw [cell_blk H2.out.2];rfl
 go_wp2_with fail
 refine Calls.mono (HB.out w2 H2.out.1) ?_
 rintro e w3 ⟨rfl,hb3⟩
 have H3:Hid (Below w.heap.size w w3):=H2.out.1.trans (hb3.mono H2.out.1.size)
 clear hb3 H2 c2 HB
 go_wp2_with fail
 go_ret
 exact ⟨rfl,H3.out⟩
set_option maxHeartbeats 4000000 in
set_option maxRecDepth 20000 in
theorem tells_o (S:PS w p q M F G) (hl:M.last ≤ 100000) (sd qq n:Int) {r:Int} {how:Int} (hh:how ≠ 2∧how ≠ 5∧how ≠ 6∧how ≠ 7):Calls Tryz.prog 109 #[.pointer (some ⟨p,0,none⟩),.pointer (some ⟨q,0,none⟩),.agg #[.int .i64 how,.int .i64 sd,.int .i64 r,.int .i64 qq,.int .i64 n]] w fun e w'=>e = .returned (.bool true)∧Below w.heap.size w w':=by
 have hQ:=S.pp.qok hl
 obtain ⟨E,hE⟩:∃ E,E = checkE M:=⟨_,rfl⟩
 have HA:Hid (∀ w',Below w.heap.size w w'→Calls Tryz.prog 100 #[.pointer (some ⟨p,0,none⟩)] w' fun e w''=>e = .returned (.int .i64 E)∧Below w'.heap.size w' w''):=fun w' hb=>by rw [hE];exact Check_any (S.W.below hb) S.pp.purses S.pp.mints
 have HB:Hid (∀ w',Below w.heap.size w w'→Calls Tryz.prog 204 #[.pointer (some ⟨q,0,none⟩)] w' fun e w''=>e = .returned (.int .i64 E)∧Below w'.heap.size w' w''):=fun w' hb=>by rw [hE];exact checkq_W (S.R.below hb) hQ.good.ok S.pp.sum S.pp.mlost
 have b2:(how == 2) = false:=by simpa using hh.1
 have b5:(how == 5) = false:=by simpa using hh.2.1
 have b6:(how == 6) = false:=by simpa using hh.2.2.1
 have b7:(how == 7) = false:=by simpa using hh.2.2.2
 clear S hl hQ hE hh
 have H1:Hid (Below w.heap.size w (w.alloc (.cells #[.int .i64 how,.int .i64 sd,.int .i64 r,.int .i64 qq,.int .i64 n] 62))∧(w.alloc (.cells #[.int .i64 how,.int .i64 sd,.int .i64 r,.int .i64 qq,.int .i64 n] 62)).heap[w.heap.size]? = some (.cells #[.int .i64 how,.int .i64 sd,.int .i64 r,.int .i64 qq,.int .i64 n] 62 (0,0))):=⟨(Below.refl _ w).alloc (Nat.le_refl _) _,blk_new _ _⟩
 go_enter Tryz.func109,Tryz.ntmps109
 go_upto_region 1 with fail
 revert H1
 generalize w.alloc _ = w1
 intro H1
 have c0:w1.cell? ⟨w.heap.size,0,none⟩ = some (.int .i64 how):=by rw [cell_blk H1.out.2];rfl
 go_wp2_with fail
 refine Calls.mono (HA.out w1 H1.out.1) ?_
 rintro e w2 ⟨rfl,hb2⟩
 have H2:Hid (Below w.heap.size w w2):=H1.out.1.trans (hb2.mono H1.out.1.size)
 clear hb2 H1 c0 HA
 go_wp2_with fail
 refine Calls.mono (HB.out w2 H2.out) ?_
 rintro e w3 ⟨rfl,hb3⟩
 have H3:Hid (Below w.heap.size w w3):=H2.out.trans (hb3.mono H2.out.size)
 clear hb3 H2 HB
 go_wp2_with fail
 go_ret
 exact ⟨rfl,H3.out⟩
set_option maxHeartbeats 4000000 in
set_option maxRecDepth 20000 in
theorem tells_6 (S:PS w p q M F G) (hl:M.last ≤ 100000) (sd qq n:Int) {r:Int} (hr:(Lit.int .i64 r).wf = true):Calls Tryz.prog 109 #[.pointer (some ⟨p,0,none⟩),.pointer (some ⟨q,0,none⟩),.agg #[.int .i64 6,.int .i64 sd,.int .i64 r,.int .i64 qq,.int .i64 n]] w fun e w'=>e = .returned (.bool true)∧Below w.heap.size w w':=by
 obtain ⟨L,y,hL,hA,hB⟩:=purses2 (p:=p) (q:=q) (F:=F) (G:=G) S.pp hl hr
 have HA:Hid (∀ w',Below w.heap.size w w'→Calls Tryz.prog 200 #[.pointer (some ⟨p,0,none⟩),.int .i64 r] w' (PursesOk w' L y)):=fun w' hb=>hA w' (S.W.below hb)
 have HB:Hid (∀ w',Below w.heap.size w w'→Calls Tryz.prog 201 #[.pointer (some ⟨q,0,none⟩),.int .i64 r] w' (PursesOk w' L y)):=fun w' hb=>hB w' (S.R.below hb)
 have HL:Hid (L.length ≤ 100000):=hL
 clear S hl hr hA hB hL
 have H1:Hid (Below w.heap.size w (w.alloc (.cells #[.int .i64 6,.int .i64 sd,.int .i64 r,.int .i64 qq,.int .i64 n] 62))∧(w.alloc (.cells #[.int .i64 6,.int .i64 sd,.int .i64 r,.int .i64 qq,.int .i64 n] 62)).heap[w.heap.size]? = some (.cells #[.int .i64 6,.int .i64 sd,.int .i64 r,.int .i64 qq,.int .i64 n] 62 (0,0))):=⟨(Below.refl _ w).alloc (Nat.le_refl _) _,blk_new _ _⟩
 go_enter Tryz.func109,Tryz.ntmps109
 go_upto_region 1 with fail
 revert H1
 generalize w.alloc _ = w1
 intro H1
 have c0:w1.cell? ⟨w.heap.size,0,none⟩ = some (.int .i64 6):=by rw [cell_blk H1.out.2];rfl
 have c2:w1.cell? ⟨w.heap.size,2,none⟩ = some (.int .i64 r):=by rw [cell_blk H1.out.2];rfl
 go_wp2_with fail
 refine Calls.mono (HA.out w1 H1.out.1) ?_
 rintro e w2 ⟨va,rfl,hra,hb2⟩
 obtain ⟨pa,ca,hva,-⟩:=row_intArg hra
 obtain ⟨m,hm⟩:∃ m,m = L.length:=⟨_,rfl⟩
 rw [← hm] at hva
 subst hva
 have H2:Hid (Below w.heap.size w w2∧w2.heap[w.heap.size]? = some (.cells #[.int .i64 6,.int .i64 sd,.int .i64 r,.int .i64 qq,.int .i64 n] 62 (0,0))∧w2.ownsRow w1.heap.size 25 1 (.slice pa m ca) L.length (L.map (Value.int .i64))∧w.heap.size < w1.heap.size∧m = L.length):=⟨H1.out.1.trans (hb2.mono H1.out.1.size),below_blk hb2 H1.out.2,hra,blk_lt H1.out.2,hm⟩
 clear hb2 hra H1 c0 c2 hm
 have c2:w2.cell? ⟨w.heap.size,2,none⟩ = some (.int .i64 r):=by rw [cell_blk H2.out.2.1];rfl
 go_wp2_with fail
 refine Calls.mono (HB.out w2 H2.out.1) ?_
 rintro e w3 ⟨vb,rfl,hrb,hb3⟩
 have H3:Hid (Below w.heap.size w w3∧w3.heap[w.heap.size]? = some (.cells #[.int .i64 6,.int .i64 sd,.int .i64 r,.int .i64 qq,.int .i64 n] 62 (0,0))∧w3.ownsRow w1.heap.size 25 1 (.slice pa m ca) L.length (L.map (Value.int .i64))∧w3.ownsRow w2.heap.size 25 1 vb L.length (L.map (Value.int .i64))):=⟨H2.out.1.trans (hb3.mono H2.out.1.size),below_blk hb3 H2.out.2.1,ownsRow_on H2.out.2.2.1 hb3,hrb⟩
 have HN:=(show Hid _ from numbers10_W H3.out.2.2.1 H3.out.2.2.2 HL.out)
 have HO:Hid (∀ b,(Value.slice pa m ca).ownBlock = some b→w1.heap.size ≤ b∧b < w2.heap.size):=fun b hb=>by
  obtain ⟨h1,⟨h2,-⟩ | ⟨g,cap,cur,h2,h3,h4,-⟩⟩:=H2.out.2.2.1
  ·rw [h2] at hb;cases hb
  ·rw [h2] at hb;cases hb;exact ⟨h3,blk_lt h4⟩
 clear hrb hb3 c2 HB
 go_wp2_with fail
 refine Calls.mono HN.out ?_
 rintro e w4 ⟨rfl,hb4⟩
 have H4:Hid (Below w.heap.size w w4∧w4.heap[w.heap.size]? = some (.cells #[.int .i64 6,.int .i64 sd,.int .i64 r,.int .i64 qq,.int .i64 n] 62 (0,0))∧w4.ownsRow w1.heap.size 25 1 (.slice pa m ca) L.length (L.map (Value.int .i64))∧w4.ownsRow w2.heap.size 25 1 vb L.length (L.map (Value.int .i64))):=⟨H3.out.1.trans (hb4.mono H3.out.1.size),below_blk hb4 H3.out.2.1,ownsRow_on H3.out.2.2.1 hb4,ownsRow_on H3.out.2.2.2 hb4⟩
 clear hb4 H3 HN
 go_wp2_with fail
 go_loopw [20] (fun vi wr=>∃ i:Nat,vi = .int .i64 i∧i ≤ m∧Hid (Keeps (fun b=>(Value.slice pa m ca).ownBlock = some b) w4 wr∧∀ g,pa = some ⟨g,0,none⟩→0 < m→∃ cur,wr.heap[g]? = some (.cells cur 25 (0,0))∧m ≤ cur.size)) (fun vi _=>m - (intOf vi).toNat)
 case atStart =>
  refine ⟨0,rfl,Nat.zero_le _,Keeps.refl _ _,fun g hg hm=>?_⟩
  obtain ⟨h1,⟨h2,h3⟩ | ⟨g',cap,cur,h2,h3,h4,h5,h6,h7,h8⟩⟩:=H4.out.2.2.1
  ·have:=H2.out.2.2.2.2
   omega
  ·injection h2 with h9
   rw [hg] at h9
   cases h9
   exact ⟨cur,h4,by have:=congrArg List.length h8;have:=H2.out.2.2.2.2;simp at *;omega⟩
 case round =>
  obtain ⟨i,rfl,hi,HK⟩:=hrel
  by_cases him:i < m
  ·have hiz:(i:Int) < (m:Int):=by omega
   have hi0:(0:Int) ≤ (i:Int):=by omega
   obtain ⟨g,hg⟩:∃ g,pa = some ⟨g,0,none⟩:=by
    obtain ⟨h1,⟨h2,h3⟩ | ⟨g',cap,cur,h2,h3,h4,-⟩⟩:=H4.out.2.2.1
    ·have:=H2.out.2.2.2.2
     omega
    ·injection h2 with h9
     exact ⟨g',h9⟩
   subst hg
   obtain ⟨cur,hcur,hsz⟩:=HK.out.2 g rfl (by omega)
   have fg:=frozen_blk hcur i
   have kg:∃ v,wr.cell? ⟨g,i,none⟩ = some v:=by rw [cell_blk hcur];exact ⟨_,Array.getElem?_eq_getElem (by omega)⟩
   obtain ⟨vg,kg⟩:=kg
   have hwi:wrap64 ((i:Int) + 1) = (i:Int) + 1:=by have:=HL.out;have:=H2.out.2.2.2.2;unfold wrap64;omega
   have HK2:Hid (Keeps (fun b=>(Value.slice (some ⟨g,0,none⟩) m ca).ownBlock = some b) w4 (wr.setCell ⟨g,i,none⟩ (.int .i64 77))∧∀ g',(some ⟨g,0,none⟩:Option Addr) = some ⟨g',0,none⟩→0 < m→∃ cur,(wr.setCell ⟨g,i,none⟩ (.int .i64 77)).heap[g']? = some (.cells cur 25 (0,0))∧m ≤ cur.size) :=
    ⟨HK.out.1.trans (Keeps.setCell (S:=fun b=>b = g) wr ⟨g,i,none⟩ (.int .i64 77) rfl) (fun _ _ h=>h) (fun x _ h=>by subst h;rfl),fun g' e _=>by
     cases e
     exact ⟨_,blk_setCell hcur i _,by simpa using hsz⟩⟩
   clear hcur HK hsz
   go_wp2_with fail
   go_roundw
   case rel=>exact ⟨i + 1,by go_num,by omega,HK2.out⟩
   case measure=>rw [hwi];clear hwi;simp [intOf];omega
  ·have hiz:¬ (i:Int) < (m:Int):=by omega
   obtain rfl:i = m:=by omega
   have hkk:¬ (i:Int) < (i:Int):=by omega
   have hO:=HO.out
   have hw1:w.heap.size ≤ w1.heap.size:=Nat.le_of_lt H2.out.2.2.2.1
   have H5:Hid (Below w.heap.size w wr∧wr.heap[w.heap.size]? = some (.cells #[.int .i64 6,.int .i64 sd,.int .i64 r,.int .i64 qq,.int .i64 n] 62 (0,0))∧wr.ownsRow w2.heap.size 25 1 vb L.length (L.map (Value.int .i64))) :=
    ⟨H4.out.1.trans (HK.out.1.below H4.out.1.size fun b hb=>by have:=(hO b hb).1;omega),(HK.out.1.block _ (blk_lt H4.out.2.1) (fun hb=>by have:=(hO _ hb).1;have:=H2.out.2.2.2.1;omega)).trans H4.out.2.1,ownsRow_keeps H4.out.2.2.2 HK.out.1 fun b hb hb2=>by
     have h1:=(hO b hb2).2
     obtain ⟨-,⟨h2,-⟩ | ⟨g',cap,cur,h2,h3,-⟩⟩:=H4.out.2.2.2
     ·rw [h2] at hb;cases hb
     ·rw [h2] at hb
      have hb:g' = b:=by injection hb
      omega⟩
   clear HK hO hw1 HO
   have c2:wr.cell? ⟨w.heap.size,2,none⟩ = some (.int .i64 r):=by rw [cell_blk H5.out.2.1];rfl
   go_wp2_with fail
   refine Calls.mono (HA.out wr H5.out.1) ?_
   rintro e w6 ⟨vc,rfl,hrc,hb6⟩
   have H6:Hid (Below w.heap.size w w6∧w6.ownsRow wr.heap.size 25 1 vc L.length (L.map (Value.int .i64))∧w6.ownsRow w2.heap.size 25 1 vb L.length (L.map (Value.int .i64))):=⟨H5.out.1.trans (hb6.mono H5.out.1.size),hrc,ownsRow_on H5.out.2.2 hb6⟩
   have HN:=(show Hid _ from numbers10_W H6.out.2.1 H6.out.2.2 HL.out)
   clear hrc hb6 H5 H4 c2 HA
   go_wp2_with fail
   refine Calls.mono HN.out ?_
   rintro e w7 ⟨rfl,hb7⟩
   have H7:Hid (Below w.heap.size w w7):=H6.out.1.trans (hb7.mono H6.out.1.size)
   clear hb7 H6 HN
   go_wp2_with fail
   go_ret
   exact ⟨rfl,H7.out⟩
theorem tells_any (S:PS w p q M F G) (hl:M.last ≤ 100000) (how sd qq n:Int) {r:Int} (hr:(Lit.int .i64 r).wf = true):Calls Tryz.prog 109 #[.pointer (some ⟨p,0,none⟩),.pointer (some ⟨q,0,none⟩),.agg #[.int .i64 how,.int .i64 sd,.int .i64 r,.int .i64 qq,.int .i64 n]] w fun e w'=>e = .returned (.bool true)∧Below w.heap.size w w':=by
 by_cases h2:how = 2
 ·subst h2;exact tells_2 S hl sd qq n hr
 by_cases h5:how = 5
 ·subst h5;exact tells_5 S hl sd qq n hr
 by_cases h6:how = 6
 ·subst h6;exact tells_6 S hl sd qq n hr
 by_cases h7:how = 7
 ·subst h7;exact tells_7 S hl sd qq n hr
 exact tells_o S hl sd qq n ⟨h2,h5,h6,h7⟩
end Go.Proofs.YthaliljaglldjaaGreat
