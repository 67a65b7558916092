/- A part of the proof, several texts in one: R7F10out, R7F12ne, R7F12out, R7F13ne, R7F13out, R7F3out, R7F8out, R7F8lost, R7F9out, PyB, QtM, FuK. -/
import Derived.Test.YthaliljaglldjaaGreatmKD
import Derived.Test.YthaliljaglldjaaGreatmKE
import Derived.Test.YthaliljaglldjaaGreatmKF
import Derived.Test.YthaliljaglldjaaGreatmKA
import Derived.Test.YthaliljaglldjaaGreatmKB
import Derived.Test.YthaliljaglldjaaGreatmKC
import Derived.Test.YthaliljaglldjaaGreatmAN
import Derived.Test.YthaliljaglldjaaGreatmAC
import Derived.Test.YthaliljaglldjaaGreatmBH
import Derived.Test.YthaliljaglldjaaGreatmBI
import Derived.Test.YthaliljaglldjaaGreatmBJ
import Derived.Test.YthaliljaglldjaaGreatmAO
import Derived.Test.YthaliljaglldjaaGreatmBK
import Derived.Test.YthaliljaglldjaaGreatmBE
/- PursePlays: each call, in the program's world and then in the document's. -/
namespace Go.Proofs.YthaliljaglldjaaGreat
open Go.RowKit Go.ChangeMaps Go.MapKept
variable {w:World} {p q:Nat} {M:WM} {F G:Nat→Prop}
structure PS (w:World) (p q:Nat) (M:WM) (F G:Nat→Prop):Prop where
 W:IsW w p M F
 R:IsR w q M G
 ap:∀ b,F b→¬ G b
 pp:PP M
def PStep (w:World) (p q:Nat) (M:WM) (F G:Nat→Prop) (w':World):Prop :=
 ∃ M' F' G',PS w' p q M' F' G'∧M'.last ≤ M.last + 1∧Keeps (fun b=>F b∨G b) w w'∧∀ b,F' b∨G' b→(F b∨G b)∨w.heap.size ≤ b
def Two2 (w:World) (p q:Nat) (M:WM) (F G:Nat→Prop) (f:FuncId) (a:Array Value) (g:FuncId) (b:Array Value):Prop :=
 Calls Tryz.prog f a w fun e w5=>∃ x y,e = .returned (.tuple #[.int .i64 x,.int .i64 y])∧Keeps (fun b=>F b∨G b) w w5 ∧
  ∀ w',Below w5.heap.size w5 w'→Calls Tryz.prog g b w' fun e w6=>e = .returned (.tuple #[.int .i64 x,.int .i64 y])∧PStep w p q M F G w6
def Two1 (x:Int) (w:World) (p q:Nat) (M:WM) (F G:Nat→Prop) (f:FuncId) (a:Array Value) (g:FuncId) (b:Array Value):Prop :=
 Calls Tryz.prog f a w fun e w5=>e = .returned (.int .i64 x)∧Keeps (fun b=>F b∨G b) w w5 ∧
  ∀ w',Below w5.heap.size w5 w'→Calls Tryz.prog g b w' fun e w6=>e = .returned (.int .i64 x)∧PStep w p q M F G w6∧Keeps G w' w6
theorem Grew.on {F F':Nat→Prop} {w w5 w':World} (h:Grew F w F' w5) (hb:Below w5.heap.size w5 w'):Grew F w F' w':=⟨h.1.then_below hb,h.2⟩
theorem PStep.of_below {w0 w w':World} {p q:Nat} {M:WM} {F G:Nat→Prop} (h:PStep w p q M F G w') (hb:Below w0.heap.size w0 w):PStep w0 p q M F G w':=by
 obtain ⟨M',F',G',h1,h2,h3,h4⟩:=h
 exact ⟨M',F',G',h1,h2,Below.keeps hb h3,fun b h=>(h4 b h).imp id fun h=>Nat.le_trans hb.size h⟩
theorem PS.below {w':World} (S:PS w p q M F G) (hb:Below w.heap.size w w'):PS w' p q M F G:=⟨S.W.below hb,S.R.below hb,S.ap,S.pp⟩
theorem PS.same {w':World} (S:PS w p q M F G) (hb:Below w.heap.size w w'):PStep w p q M F G w' :=
 ⟨M,F,G,S.below hb,by omega,Keeps.of_below hb,fun b h=>.inl h⟩
theorem PS.two {w5 w6:World} {M':WM} {F' G':Nat→Prop} (S:PS w p q M F G) (hW:IsW w5 p M' F') (hg:Grew F w F' w5) (hR:IsR w6 q M' G') (hg2:Grew G w5 G' w6) (hP:PP M') (hl:M'.last ≤ M.last + 1):PStep w p q M F G w6:=by
 have hFG:∀ b,F' b→¬ G b:=fun b h1 h2=>(hg.2 b h1).elim (fun h=>S.ap b h h2) fun h=>by have:=S.R.lt b h2;omega
 exact ⟨M',F',G',⟨hW.keeps hg2.1 hFG,hR,fun b h1 h2=>(hg2.2 b h2).elim (hFG b h1) fun h=>by have:=hW.lt b h1;omega,hP⟩,hl,hg.1.trans hg2.1 (fun _ _ h=>.inl h) (fun _ _ h=>.inr h),
  fun b h=>h.elim (fun h=>(hg.2 b h).imp .inl id) (fun h=>(hg2.2 b h).imp .inr fun h=>Nat.le_trans hg.1.size h)⟩
theorem PS.R5 {w5:World} {F':Nat→Prop} (S:PS w p q M F G) (hg:Grew F w F' w5):IsR w5 q M G:=S.R.keeps hg.1 fun b h1 h2=>S.ap b h2 h1
theorem Two2.below {f g:FuncId} {a b:Array Value} {x y:Int} (S:PS w p q M F G) (h1:Calls Tryz.prog f a w fun e w'=>e = .returned (.tuple #[.int .i64 x,.int .i64 y])∧Below w.heap.size w w')
 (h2:∀ w',Below w.heap.size w w'→Calls Tryz.prog g b w' fun e w''=>e = .returned (.tuple #[.int .i64 x,.int .i64 y])∧Below w'.heap.size w' w''):Two2 w p q M F G f a g b :=
 h1.mono fun _ _ ⟨e1,hb⟩=>⟨x,y,e1,Keeps.of_below hb,fun w' hb'=>(h2 w' (hb.trans (hb'.mono hb.size))).mono fun _ _ ⟨e2,hb2⟩=>⟨e2,S.same ((hb.trans (hb'.mono hb.size)).trans (hb2.mono (Nat.le_trans hb.size hb'.size)))⟩⟩
theorem Two1.below {f g:FuncId} {a b:Array Value} {x:Int} (S:PS w p q M F G) (h1:Calls Tryz.prog f a w fun e w'=>e = .returned (.int .i64 x)∧Below w.heap.size w w')
 (h2:∀ w',Below w.heap.size w w'→Calls Tryz.prog g b w' fun e w''=>e = .returned (.int .i64 x)∧Below w'.heap.size w' w''):Two1 x w p q M F G f a g b :=
 h1.mono fun _ _ ⟨e1,hb⟩=>⟨e1,Keeps.of_below hb,fun w' hb'=>(h2 w' (hb.trans (hb'.mono hb.size))).mono fun _ _ ⟨e2,hb2⟩=>⟨e2,S.same ((hb.trans (hb'.mono hb.size)).trans (hb2.mono (Nat.le_trans hb.size hb'.size))),Keeps.of_below hb2⟩⟩
theorem PP.isMint (h:PP M) {r:Int} (hf:¬ findE M 8 r ≠ 0):∃ hh N lo,M.at r = some (mintT hh N lo)∧(0 ≤ lo∧lo ≤ N)∧N ≤ 9007199254740992:=by
 have hf:findE M 8 r = 0:=Decidable.not_not.1 hf
 unfold findE at hf
 cases e:M.at r with
 | none=>rw [e] at hf;cases hf
 | some t =>
   have h7:at7 M r = t:=by unfold at7;rw [e];rfl
   rw [e,h7] at hf
   by_cases hk:t.kind = 8
   ·obtain ⟨hh,n,l,rfl,h1,h2⟩:=(h.at e).mint hk
    exact ⟨_,_,_,rfl,h1,h2⟩
   ·simp [hk] at hf
theorem PP.isPurse (h:PP M) {r:Int} (hf:¬ findE M 9 r ≠ 0):∃ hh N m hh' Nm lo,M.at r = some (purseT hh N m)∧(0 ≤ N∧N ≤ 9007199254740992)∧M.at m = some (mintT hh' Nm lo)∧hh' = hh:=by
 have hf:findE M 9 r = 0:=Decidable.not_not.1 hf
 unfold findE at hf
 cases e:M.at r with
 | none=>rw [e] at hf;cases hf
 | some t =>
   have h7:at7 M r = t:=by unfold at7;rw [e];rfl
   rw [e,h7] at hf
   by_cases hk:t.kind = 9
   ·obtain ⟨hh,n,m,rfl,h1,u,hu,hu8,hu1⟩:=(h.at e).purse hk
    obtain ⟨hh',Nm,lo,rfl,-,-⟩:=(h.at hu).mint hu8
    exact ⟨_,_,_,_,_,_,rfl,h1,hu,hu1⟩
   ·simp [hk] at hf
theorem PP.addOk (_h:PP M) (hl:M.last + 1 ≤ 100000) {t:Th} {k hh n l tg:Int} (e:t = lt k hh 0 0 n l tg 0 0 false) (hk:1 ≤ k∧k ≤ 16) (htg:(Lit.int .i64 tg).wf = true) (home:0 ≤ hh∧hh < M.made.length) (hroom:M.made.getD hh.toNat 0 < 512)
 (h14:k ≠ 14∧k ≠ 15∧k ≠ 16) (h9:k = 9→∃ u,M.at tg = some u∧u.kind = 8):AddOk M t:=by
 subst e
 exact {
  wf:=⟨hk,htg,rfl,by show (0:Int) ≤ 0∧(0:Int) ≤ 255;decide⟩
  last:=by omega
  home:=fun _=>home
  made:=fun _=>hroom
  wrap:=fun e=>by
   have e:wrapsB k = true:=e
   have:wrapsB k = false:=by simp [wrapsB,h14]
   rw [this] at e
   cases e
  gate:=fun e=>absurd (show k = 15 from e) h14.2.1
  purse:=h9
  facet:=fun e=>absurd (show k = 14 from e) h14.1 }
theorem PP.asked (h:PP M) (hl:M.last + 1 ≤ 100000) {r hh N lo n:Int} (hr:(Lit.int .i64 r).wf = true) (ht:M.at r = some (mintT hh N lo)) (hlo:0 ≤ lo∧lo ≤ N) (hroom:M.made.getD hh.toNat 0 < 512) (hn:0 ≤ n∧n ≤ 9007199254740992 - N) :
 PP ((M.add (purseT hh n r)).set r (mintT hh (N + n) lo)):=by
 have ha:=h.addOk hl (t:=purseT hh n r) rfl (by decide) hr (h.home ht) hroom (by decide) (fun _=>⟨_,ht,rfl⟩)
 have hP:=h.add ha (.inr (.inr (.inr ⟨hh,n,r,rfl,by omega,_,ht,rfl,rfl⟩)))
 exact hP.set ⟨WM.add_at_old h.ok _ ht,rfl,rfl,fun _=>rfl,rfl,rfl,rfl⟩ (.inr (.inr (.inl ⟨hh,N + n,lo,rfl,by omega,by omega⟩)))
theorem PP.taken (h:PP M) (hl:M.last + 1 ≤ 100000) {r hh N mi n hh' Nm lo:Int} (ht:M.at r = some (purseT hh N mi)) (hm:M.at mi = some (mintT hh' Nm lo)) (hhh:hh' = hh) (hN:0 ≤ N∧N ≤ 9007199254740992) (hroom:M.made.getD hh.toNat 0 < 512) (hn:0 ≤ n∧n ≤ N) :
 PP ((M.add (purseT hh n mi)).set r (purseT hh (N - n) mi)):=by
 have hmw:=h.ok.at_wf hm
 have ha:=h.addOk hl (t:=purseT hh n mi) rfl (by decide) hmw (h.home ht) hroom (by decide) (fun _=>⟨_,hm,rfl⟩)
 have hP:=h.add ha (.inr (.inr (.inr ⟨hh,n,mi,rfl,by omega,_,hm,rfl,hhh⟩)))
 exact hP.set ⟨WM.add_at_old h.ok _ ht,rfl,rfl,fun _=>rfl,hmw,rfl,rfl⟩ (.inr (.inr (.inr ⟨hh,N - n,mi,rfl,by omega,_,WM.add_at_old h.ok _ hm,rfl,hhh⟩)))
theorem ask2 (S:PS w p q M F G) (hl:M.last + 1 ≤ 100000) {r:Int} (n:Int) (hr:(Lit.int .i64 r).wf = true) :
 Two2 w p q M F G 96 #[.pointer (some ⟨p,0,none⟩),.int .i64 r,.int .i64 n] 102 #[.pointer (some ⟨q,0,none⟩),.int .i64 r,.int .i64 n]:=by
 have hQ:=S.pp.qok (by omega)
 by_cases hno:findE M 8 r ≠ 0
 ·exact Two2.below S (Ask_no S.W S.pp.ltM hr hno) fun w' hb=>askq_no (S.R.below hb) hQ.good.ok hno
 obtain ⟨hh,N,lo,ht,hlo,hN⟩:=S.pp.isMint hno
 have home:=S.pp.home ht
 refine (Ask_W S.W hr (by omega) home ht ⟨by omega,hN⟩ hlo).mono ?_
 intro e w5 hp
 have hq:∀ w5,IsR w5 q M G→Calls Tryz.prog 102 #[.pointer (some ⟨q,0,none⟩),.int .i64 r,.int .i64 n] w5 (AskR w5 q M G r hh N lo n):=fun w5 hR=>askq_W hR hQ hl hr ht ⟨by omega,hN⟩ hlo
 rcases hp with ⟨h1,rfl,hb⟩ | ⟨h1,rfl,hb⟩ | ⟨h1,h2,rfl,hb⟩ | ⟨h1,h2,rfl,F',hW,hg⟩
 ·refine ⟨_,_,rfl,Keeps.of_below hb,fun w5' hb'=>(hq w5' (S.R.below (hb.trans (hb'.mono hb.size)))).mono ?_⟩
  rintro e w6 (⟨k1,rfl,hb6⟩ | ⟨k1,rfl,hb6⟩ | ⟨k1,k2,rfl,hb6⟩ | ⟨k1,k2,rfl,G',hR,hg6⟩)
  ·exact ⟨rfl,S.same ((hb.trans (hb'.mono hb.size)).trans (hb6.mono (Nat.le_trans hb.size hb'.size)))⟩
  all_goals (exfalso;omega)
 ·refine ⟨_,_,rfl,Keeps.of_below hb,fun w5' hb'=>(hq w5' (S.R.below (hb.trans (hb'.mono hb.size)))).mono ?_⟩
  rintro e w6 (⟨k1,rfl,hb6⟩ | ⟨k1,rfl,hb6⟩ | ⟨k1,k2,rfl,hb6⟩ | ⟨k1,k2,rfl,G',hR,hg6⟩)
  ·exfalso;omega
  ·exact ⟨rfl,S.same ((hb.trans (hb'.mono hb.size)).trans (hb6.mono (Nat.le_trans hb.size hb'.size)))⟩
  all_goals (exfalso;omega)
 ·refine ⟨_,_,rfl,Keeps.of_below hb,fun w5' hb'=>(hq w5' (S.R.below (hb.trans (hb'.mono hb.size)))).mono ?_⟩
  rintro e w6 (⟨k1,rfl,hb6⟩ | ⟨k1,rfl,hb6⟩ | ⟨k1,k2,rfl,hb6⟩ | ⟨k1,k2,rfl,G',hR,hg6⟩)
  ·exfalso;omega
  ·exfalso;omega
  ·exact ⟨rfl,S.same ((hb.trans (hb'.mono hb.size)).trans (hb6.mono (Nat.le_trans hb.size hb'.size)))⟩
  ·exact absurd k2 h2
 ·refine ⟨_,_,rfl,hg.1.mono fun _ _ h=>.inl h,fun w5' hb'=>(hq w5' (S.R5 (hg.on hb'))).mono ?_⟩
  rintro e w6 (⟨k1,rfl,hb6⟩ | ⟨k1,rfl,hb6⟩ | ⟨k1,k2,rfl,hb6⟩ | ⟨k1,k2,rfl,G',hR,hg6⟩)
  ·exfalso;omega
  ·exfalso;omega
  ·exact absurd h2 k2
  ·exact ⟨rfl,S.two (hW.below hb') (hg.on hb') hR hg6 (S.pp.asked hl hr ht hlo h2 h1) (Int.le_refl _)⟩
theorem take2 (S:PS w p q M F G) (hl:M.last + 1 ≤ 100000) {r:Int} (n:Int) (hr:(Lit.int .i64 r).wf = true) :
 Two2 w p q M F G 97 #[.pointer (some ⟨p,0,none⟩),.int .i64 r,.int .i64 n] 103 #[.pointer (some ⟨q,0,none⟩),.int .i64 r,.int .i64 n]:=by
 have hQ:=S.pp.qok (by omega)
 by_cases hno:findE M 9 r ≠ 0
 ·exact Two2.below S (Take_no S.W S.pp.ltM hr hno) fun w' hb=>by rw [findE_9] at hno ⊢;exact takeq_no (S.R.below hb) hQ.good.ok hno
 obtain ⟨hh,N,mi,hh',Nm,lo,ht,hN,hm,hhh⟩:=S.pp.isPurse hno
 have home:=S.pp.home ht
 refine (Take_W S.W hr (by omega) home ht (by rw [hhh] at hm;exact hm) hN).mono ?_
 intro e w5 hp
 have hq:∀ w5,IsR w5 q M G→Calls Tryz.prog 103 #[.pointer (some ⟨q,0,none⟩),.int .i64 r,.int .i64 n] w5 (TakeRq w5 q M G r hh N mi n):=fun w5 hR=>takeq_W hR hQ hl (S.pp.ok.at_wf hm) ht hm rfl hhh hN
 rcases hp with ⟨h1,rfl,hb⟩ | ⟨h1,rfl,hb⟩ | ⟨h1,h2,rfl,hb⟩ | ⟨h1,h2,rfl,F',hW,hg⟩
 ·refine ⟨_,_,rfl,Keeps.of_below hb,fun w5' hb'=>(hq w5' (S.R.below (hb.trans (hb'.mono hb.size)))).mono ?_⟩
  rintro e w6 (⟨k1,rfl,hb6⟩ | ⟨k1,rfl,hb6⟩ | ⟨k1,k2,rfl,hb6⟩ | ⟨k1,k2,rfl,G',hR,hg6⟩)
  ·exact ⟨rfl,S.same ((hb.trans (hb'.mono hb.size)).trans (hb6.mono (Nat.le_trans hb.size hb'.size)))⟩
  all_goals (exfalso;omega)
 ·refine ⟨_,_,rfl,Keeps.of_below hb,fun w5' hb'=>(hq w5' (S.R.below (hb.trans (hb'.mono hb.size)))).mono ?_⟩
  rintro e w6 (⟨k1,rfl,hb6⟩ | ⟨k1,rfl,hb6⟩ | ⟨k1,k2,rfl,hb6⟩ | ⟨k1,k2,rfl,G',hR,hg6⟩)
  ·exfalso;omega
  ·exact ⟨rfl,S.same ((hb.trans (hb'.mono hb.size)).trans (hb6.mono (Nat.le_trans hb.size hb'.size)))⟩
  all_goals (exfalso;omega)
 ·refine ⟨_,_,rfl,Keeps.of_below hb,fun w5' hb'=>(hq w5' (S.R.below (hb.trans (hb'.mono hb.size)))).mono ?_⟩
  rintro e w6 (⟨k1,rfl,hb6⟩ | ⟨k1,rfl,hb6⟩ | ⟨k1,k2,rfl,hb6⟩ | ⟨k1,k2,rfl,G',hR,hg6⟩)
  ·exfalso;omega
  ·exfalso;omega
  ·exact ⟨rfl,S.same ((hb.trans (hb'.mono hb.size)).trans (hb6.mono (Nat.le_trans hb.size hb'.size)))⟩
  ·exact absurd k2 h2
 ·refine ⟨_,_,rfl,hg.1.mono fun _ _ h=>.inl h,fun w5' hb'=>(hq w5' (S.R5 (hg.on hb'))).mono ?_⟩
  rintro e w6 (⟨k1,rfl,hb6⟩ | ⟨k1,rfl,hb6⟩ | ⟨k1,k2,rfl,hb6⟩ | ⟨k1,k2,rfl,G',hR,hg6⟩)
  ·exfalso;omega
  ·exfalso;omega
  ·exact absurd h2 k2
  ·exact ⟨rfl,S.two (hW.below hb') (hg.on hb') hR hg6 (S.pp.taken hl ht hm hhh hN h2 h1) (Int.le_refl _)⟩
def moveX (M:WM) (a b:Int):Int:=if moveE M a b ≠ 0 then moveE M a b else if a = b∨(at7 M a).tgt ≠ (at7 M b).tgt then 100 else if 9007199254740992 - (at7 M a).n < (at7 M b).n then 8 else 0
theorem at7_some {M:WM} {r:Int} {t:Th} (h:M.at r = some t):at7 M r = t:=by unfold at7;rw [h];rfl
theorem move2 (S:PS w p q M F G) (hl:M.last + 1 ≤ 100000) {a b:Int} (hra:(Lit.int .i64 a).wf = true) (hrb:(Lit.int .i64 b).wf = true) :
 Two1 (moveX M a b) w p q M F G 99 #[.pointer (some ⟨p,0,none⟩),.int .i64 a,.int .i64 b] 104 #[.pointer (some ⟨q,0,none⟩),.int .i64 a,.int .i64 b]:=by
 have hQ:=S.pp.qok (by omega)
 by_cases hno:moveE M a b ≠ 0
 ·have e:moveX M a b = moveE M a b:=by unfold moveX;rw [if_pos hno]
  rw [e]
  exact Two1.below S (Move_no S.W S.pp.ltM hra hrb hno) fun w' hb=>moveq_no (S.R.below hb) hQ.good.ok hno
 have hno':moveE M a b = 0:=Decidable.not_not.1 hno
 have h2:findE M 9 a = 0∧findE M 9 b = 0:=by
  unfold moveE at hno'
  unfold findE
  cases ea:(M.at a).isSome <;> cases eb:(M.at b).isSome <;> simp [ea,eb] at hno' ⊢
  by_cases ka:(at7 M a).kind = 9 <;> by_cases kb:(at7 M b).kind = 9 <;> simp [ka,kb] at hno' ⊢
 obtain ⟨hh,N,mi,hh1,Nm,lo,ha,hN,hm,hhh⟩:=S.pp.isPurse (not_not_intro h2.1)
 obtain ⟨hh',N',mi',hh1',Nm',lo',hb,hN',hm',hhh'⟩:=S.pp.isPurse (not_not_intro h2.2)
 have ex:moveX M a b = if a = b∨mi ≠ mi' then 100 else if 9007199254740992 - N < N' then 8 else 0:=by
  unfold moveX
  rw [if_neg hno,at7_some ha,at7_some hb]
 rw [ex]
 clear ex
 refine (Move_W S.W ha hb (S.pp.home ha) (S.pp.home hb) hN hN').mono ?_
 intro e w5 hp
 have hq:∀ w5,IsR w5 q M G→Calls Tryz.prog 104 #[.pointer (some ⟨q,0,none⟩),.int .i64 a,.int .i64 b] w5 (MoveR w5 q M G a hh N mi b hh' N' mi'):=fun w5 hR=>moveq_W hR hQ ha hb hN hN'
 rcases hp with ⟨h1,rfl,hb5⟩ | ⟨h1,h2,h3,rfl,hb5⟩ | ⟨h1,h2,h3,rfl,hW,hk⟩
 ·rw [if_pos h1]
  refine ⟨rfl,Keeps.of_below hb5,fun w5' hb'=>(hq w5' (S.R.below (hb5.trans (hb'.mono hb5.size)))).mono ?_⟩
  rintro e w6 (⟨k1,rfl,hb6⟩ | ⟨k1,k2,k3,rfl,hb6⟩ | ⟨k1,k2,k3,rfl,G',hR,hg6⟩)
  ·exact ⟨rfl,S.same ((hb5.trans (hb'.mono hb5.size)).trans (hb6.mono (Nat.le_trans hb5.size hb'.size))),Keeps.of_below hb6⟩
  all_goals (exfalso;rcases h1 with h1 | h1 <;> contradiction)
 ·have hn:¬ (a = b∨mi ≠ mi'):=fun h=>h.elim h1 fun h=>h h2
  rw [if_neg hn,if_pos h3]
  refine ⟨rfl,Keeps.of_below hb5,fun w5' hb'=>(hq w5' (S.R.below (hb5.trans (hb'.mono hb5.size)))).mono ?_⟩
  rintro e w6 (⟨k1,rfl,hb6⟩ | ⟨k1,k2,k3,rfl,hb6⟩ | ⟨k1,k2,k3,rfl,G',hR,hg6⟩)
  ·exact absurd k1 hn
  ·exact ⟨rfl,S.same ((hb5.trans (hb'.mono hb5.size)).trans (hb6.mono (Nat.le_trans hb5.size hb'.size))),Keeps.of_below hb6⟩
  ·exfalso;omega
 ·have hn:¬ (a = b∨mi ≠ mi'):=fun h=>h.elim h1 fun h=>h h2
  rw [if_neg hn,if_neg (by omega)]
  have hg0:Grew F w F w5:=⟨hk,fun b h=>.inl h⟩
  refine ⟨rfl,hk.mono fun _ _ h=>.inl h,fun w5' hb'=>(hq w5' (S.R5 (hg0.on hb'))).mono ?_⟩
  have hg:=hg0.on hb'
  rintro e w6 (⟨k1,rfl,hb6⟩ | ⟨k1,k2,k3,rfl,hb6⟩ | ⟨k1,k2,k3,rfl,G',hR,hg6⟩)
  ·exact absurd k1 hn
  ·exfalso;omega
  ·refine ⟨rfl,S.two (hW.below hb') hg hR hg6 ?_ (by show M.last ≤ M.last + 1;omega),hg6.1⟩
   have hmw:=S.pp.ok.at_wf hm
   have hs:SetOk M a (purseT hh N mi) (purseT hh (N + N') mi):=⟨ha,rfl,rfl,fun _=>rfl,hmw,rfl,rfl⟩
   have hP:=S.pp.set hs (.inr (.inr (.inr ⟨hh,N + N',mi,rfl,by omega,_,hm,rfl,hhh⟩)))
   have hb':(M.set a (purseT hh (N + N') mi)).at b = some (purseT hh' N' mi'):=by rw [WM.set_at_ne M _ (fun e=>h1 e.symm)];exact hb
   have hm2:(M.set a (purseT hh (N + N') mi)).at mi' = some (mintT hh1' Nm' lo'):=by
    rw [WM.set_at_ne M _ fun e=>?_]
    ·exact hm'
    ·rw [e,ha] at hm'
     cases hm'
   exact hP.set ⟨hb',rfl,rfl,fun _=>rfl,S.pp.ok.at_wf hm',rfl,rfl⟩ (.inr (.inr (.inr ⟨hh',0,mi',rfl,by decide,_,hm2,rfl,hhh'⟩)))
end Go.Proofs.YthaliljaglldjaaGreat
/- posternref07's Make where what it is asked refuses. -/
namespace Go.Proofs.YthaliljaglldjaaGreat
open Go.RowKit Go.ChangeMaps Go.MapKept
set_option maxHeartbeats 8000000 in
set_option maxRecDepth 20000 in
theorem make7_ref {w:World} {q:Nat} {N:WM} {G:Nat→Prop} (hR:IsR w q N G) (t:Th) (hk:0 ≤ t.kind∧t.kind ≤ 255) (hk13:t.kind ≠ 13∧t.kind ≠ 14) {aE:Int} (ha:aE ≠ 0)
 (hask:∀ w',Below w.heap.size w w'→Calls Tryz.prog 82 #[.pointer (some ⟨q,0,none⟩),.int .i64 0,.agg (thc t)] w' fun e w''=>e = .returned (.int .i64 aE)∧Below w'.heap.size w' w'')
 (hform:∀ w',Below w.heap.size w w'→Calls Tryz.prog 81 #[.agg (thc t),.int .i64 N.made.length] w' fun e w''=>e = .returned (.bool true)∧Below w'.heap.size w' w'') :
 Calls Tryz.prog 15 #[.pointer (some ⟨q,0,none⟩),.agg (thc t)] w fun e w'=>e = .returned (.tuple #[.int .i64 0,.int .i64 aE])∧Below w.heap.size w w':=by
 have hwk:IntKind.i64.wrap t.kind = t.kind:=by simp [IntKind.wrap,IntKind.signed,IntKind.bits];omega
 have k13:(t.kind == 13) = false:=by simpa using hk13.1
 have k14:(t.kind == 14) = false:=by simpa using hk13.2
 have hab:(aE == 0) = false:=by simpa using ha
 have HAK:=(show Hid _ from hask)
 clear hk13 hk ha hask
 obtain ⟨sP,sC,sT,sM,hV⟩:=hR
 obtain ⟨ln,hln⟩:∃ ln,ln = N.made.length:=⟨_,rfl⟩
 obtain ⟨pM,cM,hsM⟩:∃ p c,sM = .slice p ln c:=by
  obtain ⟨h1,⟨rfl,h0⟩ | ⟨g,cap,cur,rfl,-⟩⟩:=hV.rm
  ·exact ⟨none,0,by rw [hln,h0]⟩
  ·exact ⟨_,_,by rw [hln]⟩
 have HFM:=(show Hid _ from hform)
 rw [← hln] at HFM
 have DS:Hid (∀ w',Below w.heap.size w w'→w'.heap[w.heap.size]? = some (.cells (thc t) 46 (0,0))→w'.cell? ⟨q,4,none⟩ = some (.slice pM ln cM)∧w'.cell? ⟨w.heap.size,0,none⟩ = some (.int .u8 t.kind) ∧
  (ldW (.pointer (some ⟨w.heap.size,0,none⟩))).run Tryz.prog w' = .ok (.value (.agg (thc t))) w'):=fun w' hb hx=>by
  have hq:=below_blk hb hV.blk
  exact ⟨by rw [cell_blk hq,← hsM];rfl,by rw [cell_blk hx];rfl,loadWhat_blk hx rfl⟩
 clear hV hform hln hsM
 go_enter Tryz.func15,Tryz.ntmps15
 go_upto_region 1 with fail
 have H0:Hid (Below w.heap.size w (w.alloc (.cells (thc t) 46))∧(w.alloc (.cells (thc t) 46)).heap[w.heap.size]? = some (.cells (thc t) 46 (0,0))):=⟨(Below.refl _ w).alloc (Nat.le_refl _) _,blk_new _ _⟩
 revert H0
 generalize w.alloc _ = w0
 intro H0
 have ds:Hid (∀ w',Below w0.heap.size w0 w'→w'.cell? ⟨q,4,none⟩ = some (.slice pM ln cM)∧w'.cell? ⟨w.heap.size,0,none⟩ = some (.int .u8 t.kind)∧(ldW (.pointer (some ⟨w.heap.size,0,none⟩))).run Tryz.prog w' = .ok (.value (.agg (thc t))) w'∧Below w.heap.size w w'):=fun w' hb=>by
  have hb':=H0.out.1.trans (hb.mono H0.out.1.size)
  obtain ⟨q1,q2,q3⟩:=DS.out w' hb' (below_blk hb H0.out.2)
  exact ⟨q1,q2,q3,hb'⟩
 have Hf:=HFM
 have k0:=(ds.out w0 (Below.refl _ _)).2.1
 go_upto_region 2 with fail
 clear k0
 refine region_class (C:=fun w'=>Below w0.heap.size w0 w') (by kernel_rfl) (by kernel_rfl) below_drew ?_
 repeat (first
  | go_big_quiet_step (fail)
  | quiet_step (fail)
  | (refine wpQuiet_step (fun K hK=>?_);go_simp;first
   | (refine hK _ ?_;clear hK K)
   | (apply Exists.intro
      refine ⟨fun w' hC=>?_,hK _ ?_⟩
      ·obtain ⟨q1,q2,q3,q4⟩:=ds.out w' hC
       first
        | exact rfl
        | (go_simp;exact rfl)
        | (go_simp;exact ⟨rfl,rfl⟩)
        | exact (Hf.out w' q4).mono fun e w'' ⟨he,hb⟩=>⟨he,hC.trans (hb.mono hC.size)⟩
      clear hK K)))
 refine wpQuiet_nil ?_
 intro w5 hC5
 have H5:Hid (Below w.heap.size w w5):=(ds.out w5 hC5).2.2.2
 have l5:=(ds.out w5 hC5).2.2.1
 clear hC5 ds Hf H0
 go_wp2_with fail
 refine Calls.mono (HAK.out w5 H5.out) ?_
 rintro e w6 ⟨rfl,hb6⟩
 have H6:Hid (Below w.heap.size w w6):=H5.out.trans (hb6.mono H5.out.size)
 clear hb6 H5 l5 HAK HFM
 go_wp2_with fail
 go_returns
 exact ⟨rfl,H6.out⟩
end Go.Proofs.YthaliljaglldjaaGreat
/- (Light laws: two facts.) -/
namespace Go.Proofs.YthaliljaglldjaaGreat
theorem nilL_wf:(listV []).wf:=.inr rfl
theorem nilL_may:mayV (listV []) = true:=by rfl
end Go.Proofs.YthaliljaglldjaaGreat
