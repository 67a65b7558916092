/- Part of the proof. -/
import Derived.Test.YthaliljaglldjaaGreatmBT
namespace Go.Proofs.YthaliljaglldjaaGreat
set_option maxHeartbeats 16000000
set_option maxRecDepth 20000
open Go.RowKit Go.ChangeMaps Go.MapKept
section
variable {w:World} {p:Nat} {M:WM} {F:Nat->Prop}
theorem Tally_0 (hW:IsW w p M F) {r:Int} (hr:(Lit.int .i64 r).wf=true) (ht:M.at r=none) :
 Calls Tryz.prog 125 #[.pointer (some ⟨p,0,none⟩),.int .i64 r] w fun e w'=>e=.returned (.tuple #[.int .i64 0,.int .i64 5])/\Bl w w':=by
 have HQ:=(show Hid _ from What_0 hW hr ht);clear hW ht hr
 go_enter Tryz.func125,Tryz.ntmps125
 go_wp2_with fail
 refine Calls.mono HQ.out ?_;rintro e w1 ⟨rfl,hb1⟩;obtain⟨w2,hst,hb2,hg2⟩:=box_what w1 (wr 0 0 0 0 0 0 0 0 0 false) rfl (by simp [go_sem]);have HB2:=(show Hid (Bl w w2)from hb1.trans (hb2.mono hb1.size));clear hb1 hb2 hg2
 go_wp2_with fail
 go_ret2
 exact⟨rfl,HB2.out⟩
theorem Count_0 (hW:IsW w p M F) {r:Int} (hr:(Lit.int .i64 r).wf=true) (ht:M.at r=none) :
 Calls Tryz.prog 116 #[.pointer (some ⟨p,0,none⟩),.int .i64 r] w fun e w'=>e=.returned (.tuple #[.int .i64 0,.int .i64 5])/\Bl w w':=by
 have HQ:=(show Hid _ from Tally_0 hW hr ht);clear hW ht hr
 go_enter Tryz.func116,Tryz.ntmps116
 go_wp2_with fail
 refine Calls.mono HQ.out ?_;rintro e w1 ⟨rfl,hb1⟩;have HB1:=(show Hid (Bl w w1)from hb1);clear hb1
 go_wp2_with fail
 go_ret2
 exact⟨rfl,HB1.out⟩
theorem walk_0 (hW:IsW w p M F) {r:Int} (hr:(Lit.int .i64 r).wf=true) (ht:M.at r=none) (f:Value) :
 Calls Tryz.prog 212 #[.pointer (some ⟨p,0,none⟩),.int .i64 r,f] w fun e w'=>e=.returned (.int .i64 5)/\w=w':=by
 have HS:=(show Hid _ from Sides_W hW);have hI:=Is_W hW hr;rw [ht]at hI;have HI:=(show Hid _ from hI)
 have hne:((M.made.length:Int)==0)=false:=by
  have:=hW.ok.made;exact beq_eq_false_iff_ne.2 (by omega)
 clear hW ht hI
 go_enter Tryz.func212,Tryz.ntmps212
 go_wp2_with fail
 refine Calls.mono HS.out ?_;rintro e _ ⟨rfl,rfl⟩
 go_wp2_with fail
 refine Calls.mono HI.out ?_;rintro e _ ⟨rfl,rfl⟩
 go_wp2_with fail
 go_ret
 exact⟨rfl,rfl⟩
theorem Pass_0 (hW:IsW w p M F) {r:Int} (hr:(Lit.int .i64 r).wf=true) (ht:M.at r=none) :
 Calls Tryz.prog 115 #[.pointer (some ⟨p,0,none⟩),.int .i64 r] w fun e w'=>e=.returned (.int .i64 5)/\Bl w w':=by
 have hmf:∀ (fn:Fn) (first cap:Array Value) (w:World),(Instr.makeFunc fn first cap).run Tryz.prog w=.ok (.func fn first cap) w:=fun _ _ _ _=>rfl;have HP:=(show Hid _ from fun f=>walk_0 hW hr ht f);clear hW ht
 go_enter Tryz.func115,Tryz.ntmps115
 go_wp2_with fail
 refine Calls.mono (HP.out _) ?_;rintro e _ ⟨rfl,rfl⟩
 go_wp2_with fail
 go_ret
 exact⟨rfl,Below.refl _ _⟩
theorem Taps_0 (hW:IsW w p M F) {r:Int} (hr:(Lit.int .i64 r).wf=true) (ht:M.at r=none) :
 Calls Tryz.prog 117 #[.pointer (some ⟨p,0,none⟩),.int .i64 r] w fun e w'=>e=.returned (.tuple #[.slice none 0 0,.int .i64 5])/\Bl w w':=by
 have hmf:∀ (fn:Fn) (first cap:Array Value) (w:World),(Instr.makeFunc fn first cap).run Tryz.prog w=.ok (.func fn first cap) w:=fun _ _ _ _=>rfl;have hb1:Bl w (w.alloc (.cells #[.slice none 0 0] 267)):=(Below.refl _ _).alloc (Nat.le_refl _) _;have HP:Hid (∀ f,Calls Tryz.prog 212 #[.pointer (some ⟨p,0,none⟩),.int .i64 r,f] (w.alloc (.cells #[.slice none 0 0] 267)) fun e w'=>e=.returned (.int .i64 5)/\(w.alloc (.cells #[.slice none 0 0] 267))=w'):=fun f=>walk_0 (hW.below hb1) hr ht f;have HB1:=(show Hid _ from hb1);have cB:(w.alloc (.cells #[.slice none 0 0] 267)).cell? ⟨w.heap.size,0,none⟩=some (.slice none 0 0):=by rw [cell_blk (blk_new _ _)];rfl
 clear hW ht hb1
 go_enter Tryz.func117,Tryz.ntmps117
 go_wp2_with fail
 refine Calls.mono (HP.out _) ?_;rintro e _ ⟨rfl,rfl⟩
 go_wp2_with fail
 go_ret2
 exact⟨rfl,HB1.out⟩
theorem pass_taps:∀ (l:List Int) {M:WM},TW M->(∀ x ∈ l,∃ t,M.at x=some t)->M.pass l=M.pass (M.tapsL l)
 | [],_,_,_=>rfl
 | x :: l,M,hT,h=>by
   obtain⟨t,ht⟩:=h x (List.mem_cons_self ..)
   have hm:∀ y ∈ l,∃ t,(M.cnt x).at y=some t:=fun y hy=>by
    obtain⟨u,hu⟩:=h y (List.mem_cons_of_mem _ hy);obtain⟨u',h1,-⟩:=cnt_at hT ht hu;exact⟨u',h1⟩
   have e1:(M.cnt x).pass l=(M.cnt x).pass ((M.cnt x).tapsL l):=pass_taps l (hT.cnt ht) hm
   have e2:(M.cnt x).tapsL l=M.tapsL l:=by
    unfold WM.tapsL;refine List.filter_congr fun y hy=>?_;obtain⟨u,hu⟩:=h y (List.mem_cons_of_mem _ hy);obtain⟨u',h1,h2,-⟩:=cnt_at hT ht hu;unfold WM.kindOf;rw [hu,h1];simp [h2]
   show (M.cnt x).pass l=M.pass (M.tapsL (x :: l));rw [e1,e2]
   by_cases hk:M.kindOf x=16
   ·have:M.tapsL (x :: l)=x :: M.tapsL l:=by unfold WM.tapsL;rw [List.filter_cons_of_pos (by simpa using hk)]
    rw [this];rfl
   ·have:M.tapsL (x :: l)=M.tapsL l:=by unfold WM.tapsL;rw [List.filter_cons_of_neg (by simpa using hk)]
    rw [this,cnt_not ht (fun e=>hk (by unfold WM.kindOf;rw [ht];exact e))]
end
section
variable {w:World} {p q:Nat} {M:WM} {F G:Nat->Prop}
theorem TP.tally (h:TP M) {n:Int} {t:Th} (ht:M.at n=some t) (hk:t.kind=3):∃ hh c,t=tallyT hh c/\0≤c/\c≤9007199254740992:=by
 rcases h.at ht with ⟨k,hh,e,h1⟩ | h1 | ⟨hh,m,e,-⟩ | ⟨hh,g,e,-⟩ | ⟨x,d,e,-⟩ | ⟨hh,x,m,e,-⟩ | ⟨hh,x,m,e,-⟩
 ·have:k=3:=by rw [e]at hk;exact hk
  omega
 ·obtain⟨hh,c,e,h2⟩:=h1;exact⟨hh,c,e,h2⟩
 ·rw [e]at hk;exact absurd (show (8:Int)=3 from hk) (by decide)
 ·rw [e]at hk;exact absurd (show (13:Int)=3 from hk) (by decide)
 ·rw [e]at hk;exact absurd (show (14:Int)=3 from hk) (by decide)
 ·rw [e]at hk;exact absurd (show (15:Int)=3 from hk) (by decide)
 ·rw [e]at hk;exact absurd (show (16:Int)=3 from hk) (by decide)
theorem tap_add (hok:M.ok) (hl:M.last+1≤1099511627776) {h r n:Int} {v:Th} (home:0≤h/\h<M.made.length) (room:M.made.getD h.toNat 0<512) (hv:M.at r=some v) (hn:(Lit.int .i64 n).wf=true):AddOk M (tapT h r n) where
 wf:=⟨⟨by show (1:Int)≤16;decide,by show (16:Int)≤16;decide⟩,hok.at_wf hv,hn,by show (0:Int)≤0/\(0:Int)≤255;decide⟩
 last:=hl
 home:=fun _=>home
 made:=fun _=>room
 wrap:=fun _=>⟨v,hv⟩
 gate:=fun h=>absurd (show (16:Int)=15 from h) (by decide)
 purse:=fun h=>absurd (show (16:Int)=9 from h) (by decide)
 facet:=fun h=>absurd (show (16:Int)=14 from h) (by decide)
theorem with2 (S:TS w p q M F G) (hl:M.last+2≤100000) {h r n:Int} (hr:(Lit.int .i64 r).wf=true) (hn:(Lit.int .i64 n).wf=true) :
 Tw2 w p q M F G 119 #[.pointer (some ⟨p,0,none⟩),.int .i64 h,.int .i64 r,.int .i64 n] 120 #[.pointer (some ⟨q,0,none⟩),.int .i64 h,.int .i64 r,.int .i64 n]:=by
 have hQ:=S.tp.q (by omega)
 by_cases he:withE M h r n=0
 rotate_left
 ·exact Tw2.below S (tWith_no S.W hr hn he) fun w' hb=>with13_no (S.R.below hb) hQ.good S.tp.ok.made he
 have hs:sideB M h=true:=by
  by_cases e:sideB M h=true
  ·exact e
  ·unfold withE at he;rw [if_neg e]at he;cases he
 have hrs:(M.at r).isSome=true:=by
  by_cases e:(M.at r).isSome=true
  ·exact e
  ·unfold withE at he;rw [if_pos hs,if_neg e]at he;cases he
 have hns:(M.at n).isSome=true:=by
  by_cases e:(M.at n).isSome=true
  ·exact e
  ·unfold withE at he;rw [if_pos hs,if_pos hrs,if_neg e]at he;cases he
 have h3:(at7 M n).kind=3/\(at7 M n).home=h:=by
  by_cases e:(at7 M n).kind=3/\(at7 M n).home=h
  ·exact e
  ·unfold withE at he;rw [if_pos hs,if_pos hrs,if_pos hns,if_neg e]at he;cases he
 have home:=sideB_iff.1 hs;obtain⟨v,hv⟩:=Option.isSome_iff_exists.1 hrs;obtain⟨u,hu⟩:=Option.isSome_iff_exists.1 hns;have eu:at7 M n=u:=by unfold at7;rw [hu];rfl
 rw [eu]at h3;obtain⟨hh,c,rfl,hc⟩:=S.tp.tally hu h3.1;obtain rfl:hh=h:=h3.2
 by_cases room:M.made.getD hh.toNat 0<512
 ·have hA:=tap_add S.tp.ok (n:=n) (by omega) home room hv hn;have hP:TP (M.add (tapT hh r n)):=S.tp.add hA (.inr (.inr (.inr (.inr (.inr (.inr ⟨hh,r,n,rfl,⟨v,WM.add_at_old S.tp.ok _ hv⟩,_,WM.add_at_old S.tp.ok _ hu,rfl,rfl⟩))))));refine(With_W S.W (by omega) home room hv hu).mono ?_;rintro e w5 hm;obtain⟨rfl,F',hW,hg⟩:=hm.out;refine⟨_,_,rfl,hg.1.mono fun _ _ h=>.inl h,fun w5' hb'=>(with13_W (S.R5 (hg.on hb')) hQ.good S.tp.ok.made he).mono ?_⟩;rintro e w6 (⟨-,rfl,G',hR,hg6⟩ | ⟨h1,-⟩)
  ·exact⟨rfl,S.two (hW.below hb') (hg.on hb') hR hg6 hP (by show M.last+1≤M.last+2;omega)⟩
  ·exact absurd room h1
 ·refine Tw2.below (x:=0) (y:=8) S ((With_no S.W (by omega) home room hv hu).mono fun e w' hm=>hm.out) fun w' hb=>(with13_W (S.R.below hb) hQ.good S.tp.ok.made he).mono fun e w'' h7=>?_
  rcases h7 with ⟨h1,-⟩ | ⟨-,h1,h2⟩
  ·exact absurd h1 room
  ·exact⟨h1,h2⟩
end
section
variable {w:World} {p q:Nat} {M:WM} {F G:Nat->Prop}
theorem TP.tap (h:TP M) {r:Int} {t:Th} (ht:M.at r=some t) (hk:t.kind=16):∃ hh x n c,t=tapT hh x n/\(∃ v,M.at x=some v)/\M.at n=some (tallyT hh c)/\0≤c/\c≤9007199254740992:=by
 rcases h.at ht with ⟨k,hh,e,h1⟩ | ⟨hh,m,e,-⟩ | ⟨hh,m,e,-⟩ | ⟨hh,g,e,-⟩ | ⟨x,d,e,-⟩ | ⟨hh,x,m,e,-⟩ | ⟨hh,x,n,e,hx,u,hu,hu3,huh⟩
 ·have:k=16:=by rw [e]at hk;exact hk
  omega
 ·rw [e]at hk;exact absurd (show (3:Int)=16 from hk) (by decide)
 ·rw [e]at hk;exact absurd (show (8:Int)=16 from hk) (by decide)
 ·rw [e]at hk;exact absurd (show (13:Int)=16 from hk) (by decide)
 ·rw [e]at hk;exact absurd (show (14:Int)=16 from hk) (by decide)
 ·rw [e]at hk;exact absurd (show (15:Int)=16 from hk) (by decide)
 ·obtain⟨h',c,e2,hc⟩:=h.tally hu hu3;have:h'=hh:=by rw [e2]at huh;exact huh
  subst this;exact⟨h',x,n,c,e,hx,by rw [hu,e2],hc⟩
theorem TP.tw (h:TP M):TW M:=fun r t ht hk=>by
 obtain⟨hh,x,n,c,e,-,hn,hc⟩:=h.tap ht hk;exact⟨hh,x,n,hh,c,e,hn,h.ok.homes n _ hn (by show (3:Int)≠14;decide),hc⟩
theorem tapE_none {k r:Int} (h:M.at r=none):tapE M k r=5:=by unfold tapE;rw [h];rfl
theorem tapE_some {k r:Int} {t:Th} (h:M.at r=some t):tapE M k r=if t.kind=k then 0 else 130:=by
 have:at7 M r=t:=by unfold at7;rw [h];rfl
 unfold tapE;rw [h,this];rfl
theorem tally2 (S:TS w p q M F G) (hl:M.last+2≤100000) {r:Int} (hr:(Lit.int .i64 r).wf=true) :
 Tw2 w p q M F G 125 #[.pointer (some ⟨p,0,none⟩),.int .i64 r] 126 #[.pointer (some ⟨q,0,none⟩),.int .i64 r]:=by
 have hQ:=S.tp.q (by omega)
 cases ht:M.at r with
 | none =>
   refine Tw2.below S (Tally_0 S.W hr ht) fun w' hb=>?_;have:=tally13_W (S.R.below hb) hQ.good.ok r;rw [tapE_none ht]at this;exact this
 | some t =>
   have ha:at7 M r=t:=by unfold at7;rw [ht];rfl
   by_cases hk:t.kind=16
   ·obtain⟨hh,x,n,c,rfl,-,hn,-⟩:=S.tp.tap ht hk;refine Tw2.below S (Tally_tap S.W ht) fun w' hb=>?_;have:=tally13_W (S.R.below hb) hQ.good.ok r;rw [tapE_some ht,if_pos hk,ha]at this;exact this
   ·obtain⟨k,hh,n,tg,bi,s,rfl⟩:=(S.tp.at ht).lt;refine Tw2.below S (Tally_not S.W ht plain0 hk) fun w' hb=>?_;have:=tally13_W (S.R.below hb) hQ.good.ok r;rw [tapE_some ht,if_neg hk]at this;exact this
theorem count2 (S:TS w p q M F G) (hl:M.last+2≤100000) {r:Int} (hr:(Lit.int .i64 r).wf=true) :
 Tw2 w p q M F G 116 #[.pointer (some ⟨p,0,none⟩),.int .i64 r] 124 #[.pointer (some ⟨q,0,none⟩),.int .i64 r]:=by
 have hQ:=S.tp.q (by omega)
 cases ht:M.at r with
 | none =>
   refine Tw2.below S (Count_0 S.W hr ht) fun w' hb=>?_;have:=count13_no (S.R.below hb) hQ.good.ok r (by rw [tapE_none ht];decide);rw [tapE_none ht]at this;exact this
 | some t =>
   have ha:at7 M r=t:=by unfold at7;rw [ht];rfl
   by_cases hk:t.kind=16
   ·obtain⟨hh,x,n,c,rfl,-,hn,-⟩:=S.tp.tap ht hk;refine Tw2.below S (Count_tap S.W ht hn) fun w' hb=>?_;have:=count13_W (S.R.below hb) hQ.good.ok r (by rw [tapE_some ht,if_pos hk]);have en:at7 M n=tallyT hh c:=by unfold at7;rw [hn];rfl
    rw [ha]at this;rw [show (tapT hh x n).bi=n from rfl,en]at this;exact this
   ·have hE:tapE M 16 r=130:=by rw [tapE_some ht,if_neg hk]
    obtain⟨k,hh,n,tg,bi,s,rfl⟩:=(S.tp.at ht).lt;refine Tw2.below S (Count_not S.W ht plain0 hk) fun w' hb=>?_;have:=count13_no (S.R.below hb) hQ.good.ok r (by rw [hE];decide);rw [hE]at this;exact this
end
section
variable {w:World} {p q:Nat} {M:WM} {F G:Nat->Prop}
def But (M M':WM):Prop:=∀ r t,M.at r=some t->∃ t',M'.at r=some t'/\t'.kind=t.kind/\t'.home=t.home/\t'.tgt=t.tgt/\t'.bi=t.bi/\t'.set=t.set
theorem But.wider {M':WM} (h:But M M'):Wider M M':=fun r t ht=>by
 obtain⟨t',h1,h2,-,h3,-,h4⟩:=h r t ht;exact⟨t',h1,h2,fun _=>⟨h3,h4⟩⟩
theorem TThing.but {M':WM} (hok:M.ok) (hx:But M M') {r:Int} {u:Th} (h:TThing M r u):TThing M' r u:=by
 rcases h with h | h | h | ⟨hh,g,e,hg⟩ | ⟨x,d,e,⟨v,hv,hv14⟩,hd,h1,h2⟩ | ⟨hh,x,n,e,⟨v,hv⟩,u',hu,h1,h2,h3⟩ | ⟨hh,x,n,e,⟨v,hv⟩,u',hu,h1,h2⟩
 ·exact .inl h
 ·exact .inr (.inl h)
 ·exact .inr (.inr (.inl h))
 ·refine .inr (.inr (.inr (.inl ⟨hh,g,e,hg.imp id fun⟨v,hv,h1,h2⟩=>?_⟩)));obtain⟨v',e1,e2,-,-,e3,-⟩:=hx g v hv;exact⟨v',e1,e2.trans h1,e3.trans h2⟩
 ·obtain⟨v',e1,e2,-⟩:=hx x v hv;exact .inr (.inr (.inr (.inr (.inl ⟨x,d,e,⟨v',e1,fun e=>hv14 (e2.symm.trans e)⟩,hd.wider hok hx.wider hv,h1,h2⟩))))
 ·obtain⟨v',e1,-⟩:=hx x v hv;obtain⟨w',a1,a2,a3,a4,-⟩:=hx n u' hu;exact .inr (.inr (.inr (.inr (.inr (.inl ⟨hh,x,n,e,⟨v',e1⟩,w',a1,a2.trans h1,a3.trans h2,a4.trans h3⟩)))))
 ·obtain⟨v',e1,-⟩:=hx x v hv;obtain⟨w',a1,a2,a3,-⟩:=hx n u' hu;exact .inr (.inr (.inr (.inr (.inr (.inr ⟨hh,x,n,e,⟨v',e1⟩,w',a1,a2.trans h1,a3.trans h2⟩)))))
theorem but_set {r:Int} {u t:Th} (hu:M.at r=some u) (hk:t.kind=u.kind) (hh:t.home=u.home) (ht:t.tgt=u.tgt) (hb:t.bi=u.bi) (hs:t.set=u.set):But M (M.set r t):=fun x v hv=>by
 by_cases e:x=r
 ·subst e;rw [hu]at hv
  cases hv
  exact⟨t,WM.set_at_self t hu,hk,hh,ht,hb,hs⟩
 ·exact⟨v,by rw [WM.set_at_ne M t e];exact hv,rfl,rfl,rfl,rfl,rfl⟩
theorem TP.setN (h:TP M) {r:Int} {u t:Th} (hs:SetOk M r u t) (hb:But M (M.set r t)) (ht:TThing M r t):TP (M.set r t) where
 ok:=WM.set_ok h.ok hs
 things:=fun x hx=>by
  obtain⟨y,hy,e⟩:=List.mem_map.1 (show x ∈ M.things.map _ from hx);rw [<- e];split
  ·rename_i e1
   show TThing _ y.1 t;rw [e1];exact ht.but h.ok hb
  ·exact(h.things y hy).but h.ok hb
 made:=h.made
 cuts:=h.cuts
theorem TP.cnt (h:TP M) {x:Int} {u:Th} (hx:M.at x=some u):TP (M.cnt x):=by
 by_cases hk:u.kind=16
 ·obtain⟨hh,y,n,c,rfl,-,hn,hc⟩:=h.tap hx hk;rw [cnt_tap hx hn];exact h.setN (u:=tallyT hh c) ⟨hn,rfl,rfl,fun _=>rfl,(h.ok.wf n _ hn).tgt,rfl,rfl⟩ (but_set hn rfl rfl rfl rfl rfl) (.inr (.inl ⟨hh,up c,rfl,up_range hc⟩))
 ·rw [cnt_not hx hk];exact h
theorem TP.pass:∀ (l:List Int) {M:WM},TP M->(∀ x ∈ l,∃ t,M.at x=some t)->TP (M.pass l)
 | [],_,h,_=>h
 | x :: l,M,h,hl=>by
   obtain⟨u,hu⟩:=hl x (List.mem_cons_self ..);refine TP.pass l (h.cnt hu) fun y hy=>?_;obtain⟨t,ht⟩:=hl y (List.mem_cons_of_mem _ hy);obtain⟨t',h1,-⟩:=cnt_at h.tw hu ht;exact⟨t',h1⟩
theorem pass_last:∀ (l:List Int) (M:WM),(M.pass l).last=M.last
 | [],_=>rfl
 | x :: l,M=>by
   show ((M.cnt x).pass l).last=_;rw [pass_last l (M.cnt x)];unfold WM.cnt;split
   ·split
    ·split <;> rfl
    ·rfl
   ·rfl
def passX (M:WM) (r:Int):Int:=if (M.at r).isSome=true then 0 else 5
theorem pass2 (S:TS w p q M F G) (hl:M.last+2≤100000) {r:Int} (hr:(Lit.int .i64 r).wf=true) (h13:∀ w',IsR w' q M G->M.at r=none->Calls Tryz.prog 123 #[.pointer (some ⟨q,0,none⟩),.int .i64 r] w' fun e w''=>e=.returned (.int .i64 5)/\Bl w' w'') :
 Tw1 (passX M r) w p q M F G 115 #[.pointer (some ⟨p,0,none⟩),.int .i64 r] 123 #[.pointer (some ⟨q,0,none⟩),.int .i64 r]:=by
 have hQ:=S.tp.q (by omega)
 cases ht:M.at r with
 | none =>
   have e:passX M r=5:=by unfold passX;rw [ht];rfl
   rw [e];exact Tw1.below S (Pass_0 S.W hr ht) fun w' hb=>h13 w' (S.R.below hb) ht
 | some t =>
   obtain⟨l,hw,-⟩:=way_ex S.tp.ok r;have hmem:=way_mem l r hw
   have hl0:l ≠ []:=fun e=>by
    rw [e]at hw
    cases hk:wrapsB t.kind with
    | true =>
      obtain⟨l',e1,-⟩:=hw.wrap ht hk
      cases e1
    | false=>have:=hw.base ht hk;cases this
   have e:passX M r=0:=by unfold passX;rw [ht];rfl
   rw [e];refine(Pass_W S.W S.tp.tw hw ht).mono ?_;rintro e w5 ⟨rfl,hW,hk⟩;have hg:Grew F w F w5:=⟨hk,fun b h=>.inl h⟩;refine⟨rfl,hk.mono fun _ _ h=>.inl h,fun w5' hb'=>(pass13_W (S.R5 (hg.on hb')) hQ S.tp.tw hw hl0 fun b h=>(S.R5 (hg.on hb')).lt b h).mono ?_⟩;rintro e w6 ⟨rfl,G',hR,hg6⟩;rw [<- pass_taps l S.tp.tw hmem]at hR;exact⟨rfl,S.two (hW.below hb') (hg.on hb') hR hg6 (S.tp.pass l hmem) (by rw [pass_last];omega),hg6.1⟩
end
section
variable {w:World} {q:Nat} {M:WM} {G:Nat->Prop}
def mk13E (M:WM) (h r:Int):Int:=if sideB M h=true then if (M.at r).isSome=true then if M.made.getD h.toNat 0+2 > 512 then 8 else 0 else 5 else 2
theorem make13_no (hR:IsR w q M G) (hQ:TQ M) {h r:Int} (he:mk13E M h r≠0) :
 Calls Tryz.prog 118 #[.pointer (some ⟨q,0,none⟩),.int .i64 h,.int .i64 r] w fun e w'=>e=.returned (.tuple #[.int .i64 0,.int .i64 0,.int .i64 (mk13E M h r)])/\Bl w w':=by
 have hN:=hQ.good;have HS:=(show Hid _ from side13_W hR hQ.ok.made h);have HAr:Hid (∀ w1,Bl w w1->Calls Tryz.prog 47 #[.pointer (some ⟨q,0,none⟩),.int .i64 r] w1 fun e w'=>e=.returned (.tuple #[.agg (thc (at7 M r)),.bool (M.at r).isSome])/\Bl w1 w'):=fun w1 hb=>at7_W (hR.below hb) hN.ok.len r (fun x hx=>(hN.ok.kd x hx).1);have ho1:=hN.ok.one r;obtain⟨E,hE⟩:∃ E,E=mk13E M h r:=⟨_,rfl⟩;rw [<- hE]at he ⊢;unfold mk13E at hE;have HE:=(show Hid (E=if sideB M h=true then if (M.at r).isSome=true then if M.made.getD h.toNat 0+2 > 512 then 8 else 0 else 5 else 2)from hE)
 have HNE:Hid (E≠0):=he
 have HI:Hid (sideB M h=true->∃ (j:Nat) (m:Int) (g c:Nat),h=j/\j<M.made.length/\M.made.getD h.toNat 0=m/\(0≤m/\m≤512)/\g<w.heap.size/\∀ w1,Bl w w1->w1.cell? ⟨q,4,none⟩=some (.slice (some ⟨g,0,none⟩) M.made.length c)/\w1.cell? ⟨g,j,none⟩=some (.int .i64 m)):=fun hs=>by
  obtain⟨h0,h1⟩:=sideB_iff.1 hs;obtain⟨j,hj⟩:∃ j:Nat,h=j:=⟨h.toNat,by omega⟩;have hjn:j<M.made.length:=by omega
  obtain⟨m,hm⟩:∃ m,M.made[j]? = some m:=⟨_,List.getElem?_eq_getElem hjn⟩;obtain⟨sP,sC,sT,sM,hV⟩:=hR;obtain⟨g,cM,hsM,hcm,-,hgl⟩:=ownsRow_int hV.rm hm;refine⟨j,m,g,cM,hj,hjn,by rw [hj];simp [List.getD_eq_getElem?_getD,hm],hQ.ok.mades j m hm,hgl,fun w1 hb=>⟨?_,(hb.cell (p:=⟨g,j,none⟩) hgl).trans hcm⟩⟩;rw [cell_blk (below_blk hb hV.blk),← hsM];rfl
 clear hR hN hQ hE he;generalize at7 M r=t1 at *;generalize (M.at r).isSome=B1 at *;generalize sideB M h=B0 at *
 go_enter Tryz.func118,Tryz.ntmps118
 go_wp2_with fail
 refine Calls.mono HS.out ?_;rintro e w1 ⟨rfl,hb1⟩;have H1:=(show Hid (Bl w w1)from hb1);clear hb1 HS
 cases B0
 ·have HX:Hid (E=2):=HE.out;clear HE HNE HI
  go_wp2_with fail
  go_returns
  exact⟨by rw [HX.out];rfl,H1.out⟩
 go_wp2_with fail
 refine Calls.mono (HAr.out w1 H1.out) ?_;rintro e w2 ⟨rfl,hb2⟩;obtain⟨w3,hst,hb3,-,-⟩:=boxed_what' w2 (thc t1) rfl ho1;have H3:=(show Hid (Bl w w3)from H1.out.trans ((hb2.trans (hb3.mono hb2.size)).mono H1.out.size));clear hb2 hb3 H1 HAr
 cases B1
 ·have HX:Hid (E=5):=HE.out;clear HE HNE HI
  go_wp2_with fail
  go_returns
  exact⟨by rw [HX.out];rfl,H3.out⟩
 obtain⟨j,m,g,c,rfl,hjn,hgd,hm,hgl,hcs⟩:=HI.out trivial
 have HE2:Hid (E=if m+2 > 512 then 8 else 0):=by
  have:=HE.out;rw [if_pos trivial,if_pos rfl,hgd]at this;exact this
 have hm5:m+2 > 512:=Decidable.byContradiction fun h=>HNE.out (by rw [HE2.out,if_neg h]);have HX:Hid (E=8):=by show _=_;rw [HE2.out,if_pos hm5]
 obtain⟨c4,cj⟩:=hcs w3 H3.out;have hw2:wrap64 (m+2)=m+2:=by unfold wrap64;omega
 have hj0:(0:Int)≤(j:Int):=by omega
 have hjl:(j:Int)<(M.made.length:Int):=by omega
 clear HE HNE HI HE2 hgd hcs hgl hm
 go_wp2_with fail
 go_returns
 exact⟨by rw [HX.out];rfl,H3.out⟩
theorem TQ.add (h:TQ M) {t:Th} (a:AddOk M t) {k hh n l tg bi s:Int} {fu:Bool} (ht:t=lt k hh 0 0 n l tg bi s fu) (hl:M.last+1≤100000):TQ (M.add t) where
 ok:=WM.add_ok h.ok a
 light:=fun x hx=>by
  rcases List.mem_append.1 (show x ∈ M.things ++ [(M.last+1,t)]from hx)with hx | hx
  ·exact h.light x hx
  ·rw [List.mem_singleton.1 hx];exact⟨_,_,_,_,_,_,_,_,ht⟩
 last:=by show M.last+1≤100000;exact hl
theorem tally_add (hl:M.last+1≤1099511627776) {h n:Int} (home:0≤h/\h<M.made.length) (room:M.made.getD h.toNat 0<512):AddOk M (tallyT h n) where
 wf:=⟨⟨by show (1:Int)≤3;decide,by show (3:Int)≤16;decide⟩,rfl,rfl,by show (0:Int)≤0/\(0:Int)≤255;decide⟩
 last:=hl
 home:=fun _=>home
 made:=fun _=>room
 wrap:=fun h=>absurd (show (false:Bool)=true from h) (by decide)
 gate:=fun h=>absurd (show (3:Int)=15 from h) (by decide)
 purse:=fun h=>absurd (show (3:Int)=9 from h) (by decide)
 facet:=fun h=>absurd (show (3:Int)=14 from h) (by decide)
theorem make13_W (hR:IsR w q M G) (hQ:TQ M) {h r:Int} (hl:M.last+2≤100000) (he:mk13E M h r=0) :
 Calls Tryz.prog 118 #[.pointer (some ⟨q,0,none⟩),.int .i64 h,.int .i64 r] w fun e w'=>e=.returned (.tuple #[.int .i64 (M.last+2),.int .i64 (M.last+1),.int .i64 0])/\∃ G',IsR w' q ((M.add (tallyT h 0)).add (tapT h r (M.last+1))) G'/\Grew G w G' w':=by
 have hN:=hQ.good
 have hs:sideB M h=true:=by
  by_cases e:sideB M h=true
  ·exact e
  ·unfold mk13E at he;rw [if_neg e]at he;cases he
 have hr:(M.at r).isSome=true:=by
  by_cases e:(M.at r).isSome=true
  ·exact e
  ·unfold mk13E at he;rw [if_pos hs,if_neg e]at he;cases he
 have hroom:¬ M.made.getD h.toNat 0+2 > 512:=fun e=>by
  unfold mk13E at he;rw [if_pos hs,if_pos hr,if_pos e]at he;cases he
 have hh:=sideB_iff.1 hs;have HS:=(show Hid _ from side13_W hR hQ.ok.made h);rw [hs]at HS;have HAr:Hid (∀ w1,Bl w w1->Calls Tryz.prog 47 #[.pointer (some ⟨q,0,none⟩),.int .i64 r] w1 fun e w'=>e=.returned (.tuple #[.agg (thc (at7 M r)),.bool (M.at r).isSome])/\Bl w1 w'):=fun w1 hb=>at7_W (hR.below hb) hN.ok.len r (fun x hx=>(hN.ok.kd x hx).1);rw [hr]at HAr;have ho1:=hN.ok.one r
 have HI:Hid (∃ (j:Nat) (m:Int) (g c:Nat),h=j/\j<M.made.length/\M.made.getD h.toNat 0=m/\(0≤m/\m≤512)/\g<w.heap.size/\∀ w1,Bl w w1->w1.cell? ⟨q,4,none⟩=some (.slice (some ⟨g,0,none⟩) M.made.length c)/\w1.cell? ⟨g,j,none⟩=some (.int .i64 m)):=by
  obtain⟨h0,h1⟩:=hh;obtain⟨j,hj⟩:∃ j:Nat,h=j:=⟨h.toNat,by omega⟩;have hjn:j<M.made.length:=by omega
  obtain⟨m,hm⟩:∃ m,M.made[j]? = some m:=⟨_,List.getElem?_eq_getElem hjn⟩;obtain⟨sP,sC,sT,sM,hV⟩:=hR;obtain⟨g,cM,hsM,hcm,-,hgl⟩:=ownsRow_int hV.rm hm;refine⟨j,m,g,cM,hj,hjn,by rw [hj];simp [List.getD_eq_getElem?_getD,hm],hQ.ok.mades j m hm,hgl,fun w1 hb=>⟨?_,(hb.cell (p:=⟨g,j,none⟩) hgl).trans hcm⟩⟩;rw [cell_blk (below_blk hb hV.blk),← hsM];rfl
 have hlast:=hQ.ok.last
 have HT1:Hid (∀ w1,Bl w w1->Calls Tryz.prog 15 #[.pointer (some ⟨q,0,none⟩),.agg (thc (tallyT h 0))] w1 fun e w'=>e=.returned (.tuple #[.int .i64 (M.last+1),.int .i64 0])/\∃ G',IsR w' q (M.add (tallyT h 0)) G'/\Grew G w1 G' w'):=fun w1 hb =>
  (rMake_lt (hR.below hb) hN (k:=3) (n:=0) (l:=0) (tg:=0) (by decide) (by decide) hh fun w2 _=>form7_3 w2 M.made.length h hh 0 (by decide)).mono fun e w' hm=>by
   rcases hm with ⟨-,e1,G',e2,e3⟩ | ⟨e1,-⟩
   ·exact⟨e1,G',e2,e3⟩
   ·exact absurd (show M.made.getD h.toNat 0<512 by omega) e1
 have hA:=tally_add (M:=M) (n:=0) (by omega) hh (by omega)
 have HT2:Hid (∀ w1 G1,IsR w1 q (M.add (tallyT h 0)) G1->Calls Tryz.prog 15 #[.pointer (some ⟨q,0,none⟩),.agg (thc (tapT h r (M.last+1)))] w1 fun e w'=>e=.returned (.tuple #[.int .i64 (M.last+2),.int .i64 0])/\∃ G',IsR w' q ((M.add (tallyT h 0)).add (tapT h r (M.last+1))) G'/\Grew G1 w1 G' w'):=fun w1 G1 hR1=>by
  obtain⟨v,hv⟩:=Option.isSome_iff_exists.1 hr;have hQ1:TQ (M.add (tallyT h 0)):=hQ.add hA rfl (by omega);have hml:(M.add (tallyT h 0)).made.length=M.made.length:=by rw [hQ1.ok.made,hQ.ok.made];rfl
  refine(rMake_16 hR1 hQ1.good (by rw [hml];exact hh) (WM.add_at_old hQ.ok _ hv) (WM.add_at_new hQ.ok _) rfl rfl).mono fun e w' hm=>?_
  have hgd:(M.add (tallyT h 0)).made.getD h.toNat 0=M.made.getD h.toNat 0+1:=by
   show (if (3:Int)=14 then M.made else M.made.set h.toNat (M.made.getD h.toNat 0+1)).getD h.toNat 0=_
   rw [if_neg (by decide)];have:h.toNat<M.made.length:=by omega
   simp [List.getD_eq_getElem?_getD,this]
  rcases hm with ⟨-,e1,G',e2,e3⟩ | ⟨e1,-⟩
  ·refine⟨?_,G',e2,e3⟩;rw [e1];show Ending.returned (.tuple #[.int .i64 (M.last+1+1),.int .i64 0])=_;rw [show M.last+1+1=M.last+2 by omega]
  ·exact absurd (show (M.add (tallyT h 0)).made.getD h.toNat 0<512 by rw [hgd];omega) e1
 have HRm:Hid (¬ M.made.getD h.toNat 0+2 > 512):=hroom;clear hR hN hQ he hs hr hh hlast hA hroom;generalize at7 M r=t1 at *
 go_enter Tryz.func118,Tryz.ntmps118
 go_wp2_with fail
 refine Calls.mono HS.out ?_;rintro e w1 ⟨rfl,hb1⟩;have H1:=(show Hid (Bl w w1)from hb1);clear hb1 HS
 go_wp2_with fail
 refine Calls.mono (HAr.out w1 H1.out) ?_;rintro e w2 ⟨rfl,hb2⟩;obtain⟨w3,hst,hb3,-,-⟩:=boxed_what' w2 (thc t1) rfl ho1;have H3:=(show Hid (Bl w w3)from H1.out.trans ((hb2.trans (hb3.mono hb2.size)).mono H1.out.size));clear hb2 hb3 H1 HAr;obtain⟨j,m,g,c,hj,hjn,hgd,hm,hgl,hcs⟩:=HI.out;obtain⟨L,hL⟩:∃ L,L=M.made.length:=⟨_,rfl⟩;have hm5:¬ m+2 > 512:=by have:=HRm.out;rw [hgd]at this;omega
 obtain⟨c4,cj⟩:=hcs w3 H3.out;have hw2:wrap64 (m+2)=m+2:=by unfold wrap64;omega
 have hj0:(0:Int)≤(j:Int):=by omega
 rw [<- hL]at c4 hjn;have hjl:(j:Int)<(L:Int):=by omega
 clear HI HRm hgd hcs hgl hm hL;subst hj
 go_wp2_with fail
 refine Calls.mono (HT1.out w3 H3.out) ?_;rintro e w4 ⟨rfl,G4,hR4,hG4⟩;have H4:Hid (IsR w4 q (M.add (tallyT j 0)) G4/\Grew G w G4 w4):=⟨hR4,Below.keeps H3.out hG4.1,fun b hb=>(hG4.2 b hb).imp id fun h=>Nat.le_trans H3.out.size h⟩;clear hR4 hG4 H3 HT1 hst c4 cj
 go_wp2_with fail
 refine Calls.mono (HT2.out w4 G4 H4.out.1) ?_;rintro e w5 ⟨rfl,G5,hR5,hG5⟩;have H5:Hid (∃ G',IsR w5 q ((M.add (tallyT j 0)).add (tapT j r (M.last+1))) G'/\Grew G w G' w5):=⟨G5,hR5,H4.out.2.both hG5⟩;clear hR5 hG5 H4 HT2
 go_wp2_with fail
 go_returns
 exact⟨rfl,H5.out⟩
end
section
variable {w:World} {p q:Nat} {M:WM} {F G:Nat->Prop}
theorem pass13_no (hR:IsR w q M G) (hN:ROk M) (hok:M.ok) {r:Int} (hr:M.at r=none):Calls Tryz.prog 123 #[.pointer (some ⟨q,0,none⟩),.int .i64 r] w fun e w'=>e=.returned (.int .i64 5)/\Bl w w':=by
 have HT:=(show Hid _ from taps13_no hR hN hok hr);clear hR hN hok hr
 go_enter Tryz.func123,Tryz.ntmps123
 go_wp2_with fail
 refine Calls.mono HT.out ?_;rintro e w1 ⟨rfl,hb1⟩;have HB1:=(show Hid (Bl w w1)from hb1);clear hb1
 go_wp2_with fail
 go_ret
 exact⟨rfl,HB1.out⟩
theorem passT (S:TS w p q M F G) (hl:M.last+2≤100000) {r:Int} (hr:(Lit.int .i64 r).wf=true) :
 Tw1 (passX M r) w p q M F G 115 #[.pointer (some ⟨p,0,none⟩),.int .i64 r] 123 #[.pointer (some ⟨q,0,none⟩),.int .i64 r] :=
 pass2 S hl hr fun _ hR ht=>pass13_no hR (S.tp.q (by omega)).good.ok S.tp.ok ht
end
section
variable {w:World} {p q:Nat} {M:WM} {F G:Nat->Prop}
theorem TP.switch (h:TP M) {n:Int} {t:Th} (ht:M.at n=some t) (hk:t.kind=13):∃ hh g,t=lt 13 hh 0 0 0 0 g 0 0 false/\(g=0\/∃ u,M.at g=some u/\u.kind=15/\u.bi=n):=by
 rcases h.at ht with ⟨k,hh,e,h1⟩ | ⟨hh,m,e,-⟩ | ⟨hh,m,e,-⟩ | h1 | ⟨x,d,e,-⟩ | ⟨hh,x,m,e,-⟩ | ⟨hh,x,m,e,-⟩
 ·have:k=13:=by rw [e]at hk;exact hk
  omega
 ·rw [e]at hk;exact absurd (show (3:Int)=13 from hk) (by decide)
 ·rw [e]at hk;exact absurd (show (8:Int)=13 from hk) (by decide)
 ·exact h1
 ·rw [e]at hk;exact absurd (show (14:Int)=13 from hk) (by decide)
 ·rw [e]at hk;exact absurd (show (15:Int)=13 from hk) (by decide)
 ·rw [e]at hk;exact absurd (show (16:Int)=13 from hk) (by decide)
theorem TP.gate (h:TP M) {n:Int} {t:Th} (ht:M.at n=some t) (hk:t.kind=15):∃ hh x s,t=gateT hh x s/\(∃ u,M.at x=some u)/\∃ u,M.at s=some u/\u.kind=13/\u.home=hh/\u.tgt=n:=by
 rcases h.at ht with ⟨k,hh,e,h1⟩ | ⟨hh,m,e,-⟩ | ⟨hh,m,e,-⟩ | ⟨hh,m,e,-⟩ | ⟨x,d,e,-⟩ | h1 | ⟨hh,x,m,e,-⟩
 ·have:k=15:=by rw [e]at hk;exact hk
  omega
 ·rw [e]at hk;exact absurd (show (3:Int)=15 from hk) (by decide)
 ·rw [e]at hk;exact absurd (show (8:Int)=15 from hk) (by decide)
 ·rw [e]at hk;exact absurd (show (13:Int)=15 from hk) (by decide)
 ·rw [e]at hk;exact absurd (show (14:Int)=15 from hk) (by decide)
 ·exact h1
 ·rw [e]at hk;exact absurd (show (16:Int)=15 from hk) (by decide)
theorem TP.by_iff (h:TP M) {n:Int} {u:Th} (hu:M.at n=some u) (hk:u.kind=13):byB M 15 n=false ↔ u.tgt=0:=by
 constructor
 ·intro hb;obtain⟨hh,g,rfl,hg⟩:=h.switch hu hk
  rcases hg with rfl | ⟨v,hv,h1,h2⟩
  ·rfl
  ·have:byB M 15 n=true:=List.any_eq_true.2 ⟨(g,v),at_mem hv,by simp [isBy,h1,h2]⟩;rw [hb]at this
   cases this
 ·intro h0;refine Bool.eq_false_iff.2 fun hb=>?_;obtain⟨x,hx,h1⟩:=List.any_eq_true.1 hb;have hx1:=h.ok.at_of_mem hx;obtain⟨h2,h3⟩:=(Bool.and_eq_true_iff).1 h1;obtain⟨hh,y,s,e,-,v,hv,-,-,h6⟩:=h.gate hx1 (by simpa using h2)
  have:s=n:=by
   have:x.2.bi=n:=by simpa using h3
   rw [e]at this;exact this
  subst this;rw [hu]at hv
  cases hv
  have:=(h.ok.range x hx).1;omega
theorem TP.gateE (h:TP M) (hh r n:Int):gateE M hh r n=gateP M hh r n:=by
 unfold Proofs.YthaliljaglldjaaGreat.gateE gateP
 cases hn:M.at n with
 | none=>rfl
 | some u =>
   have eu:at7 M n=u:=by unfold at7;rw [hn];rfl
   rw [eu]
   by_cases hk:u.kind=13
   ·have:=h.by_iff hn hk;simp only [this]
   ·have e1:¬ (u.kind=13/\u.home=hh/\byB M 15 n=false):=fun e=>hk e.1;have e2:¬ (u.kind=13/\u.home=hh/\u.tgt=0):=fun e=>hk e.1;simp only [if_neg e1,if_neg e2]
theorem TP.gated (h:TP M) {hh r n:Int} {u:Th} (hv:∃ v,M.at r=some v) (hu:M.at n=some u) (hk:u.kind=13) (huh:u.home=hh) (h0:u.tgt=0) (a:AddOk M (gateT hh r n)):TP ((M.add (gateT hh r n)).set n { u with tgt:=M.last+1 }):=by
 have hok1:=WM.add_ok h.ok a;have hu1:(M.add (gateT hh r n)).at n=some u:=WM.add_at_old h.ok _ hu;have hnl:M.last+1≠n:=by have:=(h.ok.at_range hu);omega
 have hnew:((M.add (gateT hh r n)).set n { u with tgt:=M.last+1 }).at (M.last+1)=some (gateT hh r n):=by rw [WM.set_at_ne _ _ hnl];exact WM.add_at_new h.ok _
 have hself:((M.add (gateT hh r n)).set n { u with tgt:=M.last+1 }).at n=some { u with tgt:=M.last+1 }:=WM.set_at_self _ hu1
 have up:∀ x v,M.at x=some v->∃ v',((M.add (gateT hh r n)).set n { u with tgt:=M.last+1 }).at x=some v'/\v'.kind=v.kind/\v'.home=v.home/\v'.bi=v.bi/\v'.set=v.set/\(x≠n->v'.tgt=v.tgt):=fun x v hx=>by
  by_cases e:x=n
  ·subst e;rw [hu]at hx
   cases hx
   exact⟨_,hself,rfl,rfl,rfl,rfl,fun e=>absurd rfl e⟩
  ·exact⟨v,by rw [WM.set_at_ne _ _ e];exact WM.add_at_old h.ok _ hx,rfl,rfl,rfl,rfl,fun _=>rfl⟩
 have hwid:Wider M ((M.add (gateT hh r n)).set n { u with tgt:=M.last+1 }):=fun x v hx=>by
  obtain⟨v',e1,e2,-,-,e3,e4⟩:=up x v hx;refine⟨v',e1,e2,fun hw=>⟨e4 fun e=>?_,e3⟩⟩;subst e;rw [hu]at hx
  cases hx
  rw [hk]at hw
  cases hw
 refine { ok:=WM.set_ok hok1 ⟨hu1,rfl,rfl,fun hne=>absurd hk hne,hok1.at_wf (WM.add_at_new h.ok _),rfl,rfl⟩,things:=fun x hx=>?_,made:=by show (M.add (gateT hh r n)).made.length=3;rw [hok1.made,← h.made,h.ok.made];rfl,cuts:=h.cuts };obtain⟨y,hy,e⟩:=List.mem_map.1 (show x ∈ (M.things ++ [(M.last+1,gateT hh r n)]).map _ from hx);rw [<- e];split
 ·rename_i e1
  show TThing _ y.1 _;rw [e1];obtain⟨h',g,rfl,-⟩:=h.switch hu hk;exact .inr (.inr (.inr (.inl ⟨h',M.last+1,rfl,.inr ⟨_,hnew,rfl,rfl⟩⟩)))
 ·rcases List.mem_append.1 hy with hy | hy
  ·have hyt:=h.ok.at_of_mem hy;have hy0:=(h.ok.range y hy).1
   rcases h.things y hy with h1 | h1 | h1 | ⟨h',g,e,hg⟩ | ⟨z,d,e,⟨v,hv,hv14⟩,hd,h1,h2⟩ | ⟨h',z,s,e,⟨v,hv⟩,u',hu',h1,h2,h3⟩ | ⟨h',z,s,e,⟨v,hv⟩,u',hu',h1,h2⟩
   ·exact .inl h1
   ·exact .inr (.inl h1)
   ·exact .inr (.inr (.inl h1))
   ·refine .inr (.inr (.inr (.inl ⟨h',g,e,hg.imp id fun⟨v,hv,h1,h2⟩=>?_⟩)));obtain⟨v',e1,e2,-,e3,-⟩:=up g v hv;exact⟨v',e1,e2.trans h1,e3.trans h2⟩
   ·obtain⟨v',e1,e2,-⟩:=up z v hv;exact .inr (.inr (.inr (.inr (.inl ⟨z,d,e,⟨v',e1,fun e=>hv14 (e2.symm.trans e)⟩,hd.wider h.ok hwid hv,h1,h2⟩))))
   ·obtain⟨v',e1,-⟩:=up z v hv;obtain⟨w',a1,a2,a3,-,-,a4⟩:=up s u' hu'
    have hsn:s≠n:=fun e=>by
     subst e;rw [hu]at hu'
     cases hu'
     omega
    exact .inr (.inr (.inr (.inr (.inr (.inl ⟨h',z,s,e,⟨v',e1⟩,w',a1,a2.trans h1,a3.trans h2,(a4 hsn).trans h3⟩)))))
   ·obtain⟨v',e1,-⟩:=up z v hv;obtain⟨w',a1,a2,a3,-⟩:=up s u' hu';exact .inr (.inr (.inr (.inr (.inr (.inr ⟨h',z,s,e,⟨v',e1⟩,w',a1,a2.trans h1,a3.trans h2⟩)))))
  ·rw [List.mem_singleton.1 hy];obtain⟨v,hv⟩:=hv;obtain⟨v',e1,-⟩:=up r v hv;exact .inr (.inr (.inr (.inr (.inr (.inl ⟨hh,r,n,rfl,⟨v',e1⟩,_,hself,hk,huh,rfl⟩)))))
end
section
variable {w:World} {p q:Nat} {M:WM} {F G:Nat->Prop}
theorem gate2 (S:TS w p q M F G) (hl:M.last+2≤100000) {h r n:Int} (hr:(Lit.int .i64 r).wf=true) (hn:(Lit.int .i64 n).wf=true) :
 Tw2 w p q M F G 14 #[.pointer (some ⟨p,0,none⟩),.agg (thc (gateT h r n))] 15 #[.pointer (some ⟨q,0,none⟩),.agg (thc (gateT h r n))]:=by
 have hQ:=S.tp.q (by omega);have hEP:=S.tp.gateE h r n
 by_cases he:gateE M h r n=0
 rotate_left
 ·refine Tw2.below S (Gate_no S.W hr hn (by rw [<- hEP];exact he)) fun w' hb=>?_;rw [<- hEP];exact rGate_no (S.R.below hb) hQ he
 have he':gateP M h r n=0:=by rw [<- hEP];exact he
 have hs:sideB M h=true:=by
  by_cases e:sideB M h=true
  ·exact e
  ·unfold gateP at he';rw [if_neg e]at he';cases he'
 have hrs:(M.at r).isSome=true:=by
  by_cases e:(M.at r).isSome=true
  ·exact e
  ·unfold gateP at he';rw [if_pos hs,if_neg e]at he';cases he'
 have hns:(M.at n).isSome=true:=by
  by_cases e:(M.at n).isSome=true
  ·exact e
  ·unfold gateP at he';rw [if_pos hs,if_pos hrs,if_neg e]at he';cases he'
 have h3:(at7 M n).kind=13/\(at7 M n).home=h/\(at7 M n).tgt=0:=by
  by_cases e:(at7 M n).kind=13/\(at7 M n).home=h/\(at7 M n).tgt=0
  ·exact e
  ·unfold gateP at he';rw [if_pos hs,if_pos hrs,if_pos hns,if_neg e]at he';cases he'
 have home:=sideB_iff.1 hs;obtain⟨v,hv⟩:=Option.isSome_iff_exists.1 hrs;obtain⟨u,hu⟩:=Option.isSome_iff_exists.1 hns;have eu:at7 M n=u:=by unfold at7;rw [hu];rfl
 rw [eu]at h3;refine(show Calls Tryz.prog 14 #[.pointer (some ⟨p,0,none⟩),.agg (thc (gateT h r n))] w (MadeL w p M F h (gateT h r n))from Make_15 S.W (by omega) home hr hn hu h3.1 h3.2.1 h3.2.2 hv).mono ?_;rintro e w5 (⟨room,rfl,F',hW,hg⟩ | ⟨room,rfl,hb⟩)
 ·have hA:AddOk M (gateT h r n):={
   wf:=⟨by show (1:Int)≤15/\(15:Int)≤16;decide,hr,hn,by show (0:Int)≤0/\(0:Int)≤255;decide⟩
   last:=by omega
   home:=fun _=>home
   made:=fun _=>room
   wrap:=fun _=>⟨v,hv⟩
   gate:=fun _=>⟨u,hu,h3.1⟩
   purse:=fun e=>absurd (show (15:Int)=9 from e) (by decide)
   facet:=fun e=>absurd (show (15:Int)=14 from e) (by decide) }
  have e1:makeM M (gateT h r n)=(M.add (gateT h r n)).set n { u with tgt:=M.last+1 }:=by
   have:(M.add (gateT h r n)).at n=some u:=WM.add_at_old S.tp.ok _ hu;show gateM M (gateT h r n)=_;unfold gateM;show (match (M.add (gateT h r n)).at n with | some u=>(M.add (gateT h r n)).set n { u with tgt:=M.last+1 } | none=>M.add (gateT h r n))=_
   rw [this]
  rw [e1]at hW;have hP:=S.tp.gated ⟨v,hv⟩ hu h3.1 h3.2.1 h3.2.2 hA;refine⟨_,_,rfl,hg.1.mono fun _ _ h=>.inl h,fun w5' hb'=>(rGate_W (S.R5 (hg.on hb')) hQ he hu).mono ?_⟩;rintro e w6 (⟨-,rfl,G',hR,hg6⟩ | ⟨h1,-⟩)
  ·exact⟨rfl,S.two (hW.below hb') (hg.on hb') hR hg6 hP (by show M.last+1≤M.last+2;omega)⟩
  ·exact absurd room h1
 ·refine⟨_,_,rfl,Keeps.of_below hb,fun w5' hb'=>(rGate_W (S.R.below (hb.trans (hb'.mono hb.size))) hQ he hu).mono ?_⟩;rintro e w6 (⟨h1,-⟩ | ⟨-,rfl,hb6⟩)
  ·exact absurd h1 room
  ·exact⟨rfl,S.same ((hb.trans (hb'.mono hb.size)).trans (hb6.mono (Nat.le_trans hb.size hb'.size)))⟩
end
section
variable {w:World} {p q:Nat} {M:WM} {F G:Nat->Prop}
theorem kind_add (hl:M.last+1≤1099511627776) {k h:Int} (hk:(1≤k/\k≤13)/\k≠9) (home:0≤h/\h<M.made.length) (room:M.made.getD h.toNat 0<512):AddOk M (lt k h 0 0 0 0 0 0 0 false) where
 wf:=⟨by show 1≤k/\k≤16;omega,rfl,rfl,by show (0:Int)≤0/\(0:Int)≤255;decide⟩
 last:=hl
 home:=fun _=>home
 made:=fun _=>room
 wrap:=fun e=>by
  have:wrapsB k=true:=e;simp [wrapsB]at this;omega
 gate:=fun e=>by have:k=15:=e;omega
 purse:=fun e=>by have:k=9:=e;omega
 facet:=fun e=>by have:k=14:=e;omega
theorem makeT2 (S:TS w p q M F G) (hl:M.last+2≤100000) {k:Int} (h:Int) (hk:0≤k/\k≤255) :
 Tw2 w p q M F G 14 #[.pointer (some ⟨p,0,none⟩),.agg (wr k h 0 0 0 0 0 0 0 false)] 15 #[.pointer (some ⟨q,0,none⟩),.agg (thc (lt k h 0 0 0 0 0 0 0 false))]:=by
 have hQ:=S.tp.q (by omega)
 by_cases h14:k=14
 ·refine Tw2.below S (Make_14 S.W h14) fun w' hb=>?_;subst h14
  by_cases h0:h=0
  ·subst h0;exact make7_14 (S.R.below hb) _ rfl fun w2 hb2=>form7_14 w2 M.made.length 0 0
  ·exact make7_no (S.R.below hb) _ ⟨by show (0:Int)≤14;decide,by show (14:Int)≤255;decide⟩ fun w2 hb2=>form7_14_home w2 M.made.length h h0 0 0
 have k14:(k==14)=false:=by simpa using h14
 by_cases hbad:k<1\/k > 16
 ·refine Tw2.below S (Make_form S.W k14 (fun _=>rfl) fun w1 hb=>?_) fun w' hb=>make7_no (S.R.below hb) _ hk fun w2 hb2=>form7_kind w2 M.made.length k h hk hbad
  by_cases h0:k=0
  ·subst h0;exact formno_0 h
  ·exact formno_big k h (by omega)
 have hks:k=1\/k=2\/k=3\/k=4\/k=5\/k=6\/k=7\/k=8\/k=9\/k=10\/k=11\/k=12\/k=13\/k=15\/k=16:=by omega
 cases hs:sideB M h with
 | false =>
   have hh:h<0\/h ≥ M.made.length:=by have:=mt sideB_iff.2 (by rw [hs];decide);omega
   exact Tw2.below S (Make_form S.W k14 (fun _=>rfl) fun w1 hb=>form_nohome (S.W.below hb) k h hs hks) fun w' hb=>make7_no (S.R.below hb) _ hk fun w2 hb2=>form7_home w2 M.made.length k h (by omega) h14 hh
 | true =>
   have hh:=sideB_iff.1 hs;have hN0:M.at 0=none:=S.tp.ok.none_zero
   by_cases hrf:k=6\/k=7\/k=9\/k=11\/k=15\/k=16
   ·refine Tw2.below S (Make_refOf S.W k14 (fun _=>rfl) (fun w1 hb=>form_zero (S.W.below hb) k h hs hks) (fun w1 hb=>names_W w1 _ k h 0 0 0 0 0 0 0 false plain0) rfl ?_ hN0) fun w' hb=>?_
    ·rcases hrf with rfl | rfl | rfl | rfl | rfl | rfl <;> rfl
    ·refine make7_ref (S.R.below hb) _ hk ⟨by show k≠13;omega,h14⟩ (aE:=5) (by decide) (fun w2 hb2=>askedq_ref ((S.R.below hb).below hb2) hQ.good.ok (lt k h 0 0 0 0 0 0 0 false) 0 hrf hN0 [] (Nat.zero_le _) (fun w3 hb3=>refs7_lt w3 k h 0 0 0 0 0 false) fun x hx=>by cases hx) fun w2 hb2=>form7_zero w2 M.made.length k h hh hks
   ·have hadd:M.made.getD h.toNat 0<512->AddOk M (lt k h 0 0 0 0 0 0 0 false):=fun hr=>kind_add (by omega) (by omega) hh hr
    have hpt:TThing (M.add (lt k h 0 0 0 0 0 0 0 false)) (M.last+1) (lt k h 0 0 0 0 0 0 0 false):=by
     by_cases h3:k=3
     ·subst h3;exact .inr (.inl ⟨h,0,rfl,by decide,by decide⟩)
     by_cases h8:k=8
     ·subst h8;exact .inr (.inr (.inl ⟨h,0,rfl,by decide,by decide⟩))
     by_cases h13:k=13
     ·subst h13;exact .inr (.inr (.inr (.inl ⟨h,0,rfl,.inl rfl⟩)))
     exact .inl ⟨k,h,rfl,by omega⟩
    refine Tw2.made S (t:=lt k h 0 0 0 0 0 0 0 false) (by show k≠15;omega) ?_ (fun w' hR=>?_) fun hr=>S.tp.add (hadd hr) hpt
    ·exact Make_z S.W (by omega) hh (by omega) hadd
    ·by_cases h13:k=13
     ·subst h13;exact rMake_13 hR hQ.good hh
     ·exact rMake_lt hR hQ.good hk (by omega) hh fun w2 hb2=>form7_zero w2 M.made.length k h hh hks
end
section
variable {w:World} {p:Nat}
theorem form_14 (tg:Int):Calls Tryz.prog 74 #[.pointer (some ⟨p,0,none⟩),.agg (wr 14 0 0 0 0 0 tg 0 1 false)] w fun e w'=>e=.returned (.bool true)/\Below w.heap.size w w':=by
 have hV:∀ w:World,Calls Tryz.prog 161 #[.agg #[.int .u8 0,.int .i64 0,.string ⟨#[]⟩,.slice none 0 0,.int .i64 0]] w fun e w'=>e=.returned (.bool true)/\Below w.heap.size w w':=fun w=>vMay_W w 0 0 (.inl ⟨rfl,rfl⟩)
 go_enter Tryz.func74,Tryz.ntmps74
 go_wp2_with fail
 refine(bare_14 _ 0 0 0 0 0 tg 0 0 1 ⟨#[]⟩ false none none none none 0 0 0 0 0 0 0 0).mono ?_;rintro e w1 ⟨rfl,hb1⟩;have B1:=below_blk hb1 (blk_new _ _);have aa:=cells16 B1;have hz1:w.heap.size<w1.heap.size:=by have:=hb1.size;simp at this;omega
 have HB1:Hid (Below w.heap.size w w1):=((Below.refl _ _).alloc (Nat.le_refl _) _).trans (hb1.mono (by simp;try omega));clear hb1
 go_wp2_with fail
 refine(blank0_W _).mono ?_;rintro e w2 ⟨rfl,hb2⟩;have B2:=below_blk hb2 (blk_old _ _ B1);clear aa;have aa:=cells16 B2;have hz2:w.heap.size<w2.heap.size:=by have:=hb2.size;simp at this;omega
 have HB2:Hid (Below w.heap.size w w2):=(HB1.out.alloc (by first | omega | (simp;try omega)) _).trans (hb2.mono (by first | omega | (simp;try omega)));clear hb2 B1 HB1 hz1
 go_wp2_with fail
 refine(blank0_W _).mono ?_;rintro e w3 ⟨rfl,hb3⟩;have B3:=below_blk hb3 B2;clear aa;have aa:=cells16 B3;have hz3:w.heap.size<w3.heap.size:=by have:=hb3.size;omega
 have HB3:Hid (Below w.heap.size w w3):=HB2.out.trans (hb3.mono (by first | omega | (simp;try omega)));clear hb3 B2 HB2 hz2
 go_wp2_with fail
 refine(hV _).mono ?_;rintro e w4 ⟨rfl,hb4⟩;have B4:=below_blk hb4 B3;clear aa;have aa:=cells16 B4;have hz4:w.heap.size<w4.heap.size:=by have:=hb4.size;omega
 have HB4:Hid (Below w.heap.size w w4):=HB3.out.trans (hb4.mono (by first | omega | (simp;try omega)));clear hb4 B3 HB3 hz3
 go_wp2_with fail
 refine(vOf_W _).mono ?_;rintro e w5 ⟨rfl,hb5⟩;have B5:=below_blk hb5 B4;clear aa;have aa:=cells16 B5;have hz5:w.heap.size<w5.heap.size:=by have:=hb5.size;omega
 have HB5:Hid (Below w.heap.size w w5):=HB4.out.trans (hb5.mono (by first | omega | (simp;try omega)));clear hb5 B4 HB4 hz4
 go_wp2_with fail
 go_rounds 1
 have hB:=HB5.out;have hZ:w.heap.size≤w5.heap.size:=by omega
 go_ret
 exact⟨rfl,by go_grown⟩
end
section
theorem form7_14_ne (w:World) (sides:Int) (n:Int) (hn:0≤n/\n≤9007199254740992) (hn0:n≠0) (tg:Int) (se:Int) :
 Calls Tryz.prog 81 #[.agg (wr 14 0 0 0 n 0 tg 0 se false),.int .i64 sides] w fun e w'=>e=.returned (.bool false)/\Bl w w':=by
 have hn1:¬ n<0:=by omega
 have hn2:¬ n > 9007199254740992:=by omega
 have hnb:(n==0)=false:=by simpa using hn0
 clear hn0;clear hn;have H5:=(show Hid _ from two_what w (wr 14 0 0 0 n 0 tg 0 se false) (wr 14 0 0 0 0 0 tg 0 se false))
 go_enter Tryz.func81,Tryz.ntmps81
 go_upto_block 0 with fail
 go_cut [7,8,9] (fun a7 a8 a9 wx=>a7=.bool false/\a8=.bool false/\a9=.bool false/\Hid (Bl w wx/\wx.heap[w.heap.size]? = some (.cells (wr 14 0 0 0 n 0 tg 0 se false) 46 (0,0))/\wx.heap[w.heap.size+1]? = some (.cells (wr 14 0 0 0 0 0 tg 0 se false) 46 (0,0))))
 case first =>
  go_upto_region 47 with fail
  go_region
  all_goals
   go_wp2_with fail
   go_meet
   case rel=>first | exact⟨rfl,rfl,rfl,H5.out _ (.inr rfl)⟩ | exact⟨rfl,rfl,rfl,H5.out _ (.inl rfl)⟩
 clear H5;obtain⟨rfl,rfl,rfl,H5⟩:=hcut;generalize wc=w5 at *;have aa:=cells16 H5.out.2.1;have bb:=cells16 H5.out.2.2
 go_wp2_with fail
 refine(may4_nil w5).mono ?_;rintro e w6 ⟨rfl,hb6⟩;have H6:=(show Hid (Bl w w6/\_/\_)from⟨H5.out.1.trans (hb6.mono H5.out.1.size),below_blk hb6 H5.out.2.1,below_blk hb6 H5.out.2.2⟩);clear hb6 H5;clear aa bb;have aa:=cells16 H6.out.2.1;have bb:=cells16 H6.out.2.2
 go_wp2_with fail
 refine(same4_nil w6).mono ?_;rintro e w7 ⟨rfl,hb7⟩;have H7:=(show Hid (Bl w w7/\_/\_)from⟨H6.out.1.trans (hb7.mono H6.out.1.size),below_blk hb7 H6.out.2.1,below_blk hb7 H6.out.2.2⟩);clear hb7 H6;clear aa bb;have aa:=cells16 H7.out.2.1;have bb:=cells16 H7.out.2.2
 go_wp2_with fail
 all_goals
  go_ret
  exact⟨rfl,H7.out.1⟩
end
end Go.Proofs.YthaliljaglldjaaGreat
