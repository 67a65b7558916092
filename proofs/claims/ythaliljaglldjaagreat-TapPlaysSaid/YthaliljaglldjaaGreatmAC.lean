/- Part of the proof. -/
import Derived.Test.YthaliljaglldjaaGreatmAA
import Derived.Deep.QuietTactic
import Derived.BigQuiet
import Derived.Orders
namespace Go.Proofs.YthaliljaglldjaaGreat
set_option maxHeartbeats 16000000
set_option maxRecDepth 20000
open Go.RowKit Go.ChangeMaps Go.MapKept
section
section
variable {w:World} {p:Nat} {M:WM} {F:Nat->Prop}
theorem none_W (hW:IsW w p M F):Calls Tryz.prog 73 #[.pointer (some ⟨p,0,none⟩)] w fun e w'=>e=.returned (.bool false)/\w=w':=by
 obtain⟨pa,pc,cg,cc,mg,mc,tb,fb,fn,bl,h⟩:=hW;have c2:=h.c2
 go_enter Tryz.func73,Tryz.ntmps73
 go_wp2
 go_ret
 exact⟨rfl,rfl⟩
theorem Sides_W (hW:IsW w p M F):Calls Tryz.prog 41 #[.pointer (some ⟨p,0,none⟩)] w fun e w'=>e=.returned (.int .i64 M.made.length)/\w=w':=by
 have hn:=none_W hW;obtain⟨pa,pc,cg,cc,mg,mc,tb,fb,fn,bl,h⟩:=hW;have c5:=h.c5
 go_enter Tryz.func41,Tryz.ntmps41
 go_wp2_with (go_at_call 73;refine hn.mono ?_;rintro e w' ⟨rfl,rfl⟩)
 go_ret
 exact⟨rfl,rfl⟩
def sideB (M:WM) (s:Int):Bool:=decide (0≤s/\s<M.made.length)
theorem sideB_iff {M:WM} {s:Int}:sideB M s=true ↔ 0≤s/\s<M.made.length:=by simp [sideB]
theorem side_W (hW:IsW w p M F) (s:Int):Calls Tryz.prog 149 #[.pointer (some ⟨p,0,none⟩),.int .i64 s] w fun e w'=>e=.returned (.bool (sideB M s))/\w=w':=by
 have hn:=Sides_W hW
 by_cases h0:0≤s
 ·go_enter Tryz.func149,Tryz.ntmps149
  go_wp2_with (go_at_call 41;refine hn.mono ?_;rintro e w' ⟨rfl,rfl⟩)
  go_ret
  exact⟨by simp [sideB,h0],rfl⟩
 ·go_enter Tryz.func149,Tryz.ntmps149
  go_wp2_with (go_at_call 41;refine hn.mono ?_;rintro e w' ⟨rfl,rfl⟩)
  go_ret
  exact⟨by simp [sideB];omega,rfl⟩
theorem Is_W (hW:IsW w p M F) {r:Int} (hr:(Lit.int .i64 r).wf=true):Calls Tryz.prog 49 #[.pointer (some ⟨p,0,none⟩),.int .i64 r] w fun e w'=>e=.returned (.bool (M.at r).isSome)/\w=w':=by
 have hn:=none_W hW;obtain⟨pa,pc,cg,cc,mg,mc,tb,fb,fn,bl,h⟩:=hW;have c2:=h.c2;have hl:=h.look hr
 cases ha:M.at r with
 | none =>
   rw [ha]at hl;simp only [Option.map_none]at hl
   go_enter Tryz.func49,Tryz.ntmps49
   go_wp2_with (go_at_call 73;refine hn.mono ?_;rintro e w' ⟨rfl,rfl⟩)
   go_ret
   exact⟨rfl,rfl⟩
 | some t =>
   rw [ha]at hl;simp only [Option.map_some]at hl
   go_enter Tryz.func49,Tryz.ntmps49
   go_wp2_with (go_at_call 73;refine hn.mono ?_;rintro e w' ⟨rfl,rfl⟩)
   go_ret
   exact⟨rfl,rfl⟩
theorem thc_cell {w:World} {b:Nat} {t:Th} (h:w.heap[b]? = some (.cells (thc t) 46 (0,0))) :
 w.cell? ⟨b,0,none⟩=some (.int .u8 t.kind)/\w.cell? ⟨b,1,none⟩=some (.int .i64 t.home)/\w.cell? ⟨b,8,none⟩=some (.int .i64 t.n)/\w.cell? ⟨b,9,none⟩=some (.int .i64 t.lost) /\
 w.cell? ⟨b,10,none⟩=some (.int .i64 t.tgt)/\w.cell? ⟨b,11,none⟩=some (.int .i64 t.bi)/\w.cell? ⟨b,12,none⟩=some (.int .u8 t.set)/\w.cell? ⟨b,13,none⟩=some (.bool t.full) :=
 ⟨by rw [cell_blk h];rfl,by rw [cell_blk h];rfl,by rw [cell_blk h];rfl,by rw [cell_blk h];rfl,by rw [cell_blk h];rfl,by rw [cell_blk h];rfl,by rw [cell_blk h];rfl,by rw [cell_blk h];rfl⟩
def WM.kindOf (M:WM) (r:Int):Int:=((M.at r).map Th.kind).getD 0
theorem Kind_W (hW:IsW w p M F) {r:Int} (hr:(Lit.int .i64 r).wf=true):Calls Tryz.prog 50 #[.pointer (some ⟨p,0,none⟩),.int .i64 r] w fun e w'=>e=.returned (.int .u8 (M.kindOf r))/\w=w':=by
 have hn:=Is_W hW hr;obtain⟨pa,pc,cg,cc,mg,mc,tb,fb,fn,bl,h⟩:=hW;have c2:=h.c2;have hl:=h.look hr
 cases ha:M.at r with
 | none =>
   rw [ha]at hn
   go_enter Tryz.func50,Tryz.ntmps50
   go_wp2_with (go_at_call 49;refine hn.mono ?_;rintro e w' ⟨rfl,rfl⟩)
   go_ret
   exact⟨by simp [WM.kindOf,ha],rfl⟩
 | some t =>
   rw [ha]at hl hn;simp only [Option.map_some]at hl;obtain⟨k0,k1,-,-,k6,k7,k8,k9⟩:=thc_cell (h.blk r t ha).1
   go_enter Tryz.func50,Tryz.ntmps50
   go_wp2_with (go_at_call 49;refine hn.mono ?_;rintro e w' ⟨rfl,rfl⟩)
   go_ret
   exact⟨by simp [WM.kindOf,ha],rfl⟩
def WM.homeOf (M:WM) (r:Int):Int:=match M.at r with | some t=>if t.kind=14 then 0 else t.home | none=>0
def WM.hasHome (M:WM) (r:Int):Bool:=match M.at r with | some t=>!decide (t.kind=14) | none=>false
theorem Home_W (hW:IsW w p M F) {r:Int} (hr:(Lit.int .i64 r).wf=true):Calls Tryz.prog 48 #[.pointer (some ⟨p,0,none⟩),.int .i64 r] w fun e w' =>
 e=.returned (.tuple #[.int .i64 (M.homeOf r),.bool (M.hasHome r)])/\w=w':=by
 have hn:=Is_W hW hr;obtain⟨pa,pc,cg,cc,mg,mc,tb,fb,fn,bl,h⟩:=hW;have c2:=h.c2;have hl:=h.look hr
 cases ha:M.at r with
 | none =>
   rw [ha]at hn
   go_enter Tryz.func48,Tryz.ntmps48
   go_wp2_with (go_at_call 49;refine hn.mono ?_;rintro e w' ⟨rfl,rfl⟩)
   go_ret2
   exact⟨by simp [WM.homeOf,WM.hasHome,ha],rfl⟩
 | some t =>
   rw [ha]at hl hn;simp only [Option.map_some]at hl;obtain⟨k0,k1,-,-,-,-,-,-⟩:=thc_cell (h.blk r t ha).1
   by_cases hk:t.kind=14
   ·have H:Hid (t.kind=14):=hk;have hk':(t.kind==14)=true:=by simp [hk]
    clear hk
    go_enter Tryz.func48,Tryz.ntmps48
    go_wp2_with (go_at_call 49;refine hn.mono ?_;rintro e w' ⟨rfl,rfl⟩)
    go_ret2
    exact⟨by simp [WM.homeOf,WM.hasHome,ha,H.out],rfl⟩
   ·have H:Hid (¬ t.kind=14):=hk;have hk':(t.kind==14)=false:=by simp [hk]
    clear hk
    go_enter Tryz.func48,Tryz.ntmps48
    go_wp2_with (go_at_call 49;refine hn.mono ?_;rintro e w' ⟨rfl,rfl⟩)
    go_ret2
    exact⟨by simp [WM.homeOf,WM.hasHome,ha,H.out],rfl⟩
theorem Find_W (hW:IsW w p M F) {r s:Int} (hr:(Lit.int .i64 r).wf=true) (hs:(Lit.int .u8 s).wf=true):Calls Tryz.prog 58 #[.pointer (some ⟨p,0,none⟩),.int .i64 r,.int .u8 s] w fun e w' =>
 e=.returned (.tuple #[.int .i64 ((M.find r s).getD 0),.bool (M.find r s).isSome])/\w=w':=by
 have hn:=none_W hW;obtain⟨pa,pc,cg,cc,mg,mc,tb,fb,fn,bl,h⟩:=hW;have c3:=h.c3;have hl:=h.find_ok hr hs
 go_enter Tryz.func58,Tryz.ntmps58
 go_wp2_with (go_at_call 73;refine hn.mono ?_;rintro e w' ⟨rfl,rfl⟩)
 go_ret2
 exact⟨rfl,rfl⟩
end
theorem asksBy_W (k:Int) (w:World):Calls Tryz.prog 77 #[.int .u8 k] w fun e w'=>e=.returned (.bool (k==15 || k==16))/\w=w':=by
 by_cases h1:k=15
 ·subst h1
  go_enter Tryz.func77,Tryz.ntmps77
  go_wp2
  go_ret
  exact⟨rfl,rfl⟩
 ·have h1:(k==15)=false:=by simp [h1]
  go_enter Tryz.func77,Tryz.ntmps77
  go_wp2
  go_ret
  exact⟨by simp [h1],rfl⟩
theorem wraps_W (k:Int) (w:World):Calls Tryz.prog 154 #[.int .u8 k] w fun e w'=>e=.returned (.bool (wrapsB k))/\w=w':=by
 by_cases h1:k=14
 ·subst h1
  go_enter Tryz.func154,Tryz.ntmps154
  go_wp2
  go_ret
  exact⟨rfl,rfl⟩
 ·have h1:(k==14)=false:=by simp [h1]
  by_cases h2:k=15
  ·subst h2
   go_enter Tryz.func154,Tryz.ntmps154
   go_wp2
   go_ret
   exact⟨rfl,rfl⟩
  ·have h2:(k==15)=false:=by simp [h2]
   go_enter Tryz.func154,Tryz.ntmps154
   go_wp2
   go_ret
   exact⟨by simp [wrapsB,h1,h2],rfl⟩
def asksOfB (k:Int):Bool:=k==6 || k==7 || k==9 || k==11 || wrapsB k
end
section
def meet2 (a b:Int):Int:=bits BinOp.and IntKind.u8 (bits BinOp.and IntKind.u8 63 a) b
def canM (k:Int):Int :=
 if k=1 then 3 else if k=2 then 9 else if k=3 then 9 else if k=4 then 12 else if k=5 then 16 else if k=6 then 16 else if k=8 then 16 else if k=12 then 16 else if k=9 then 13 else if k=10 then 1 else if k=11 then 8 else if k=13 then 33 else 0
theorem Meet_new (w:World) (a b:Int) :
 Calls Tryz.prog 152 #[.slice (some ⟨w.heap.size,0,none⟩) 2 2] (w.alloc (.cells #[.int .u8 a,.int .u8 b] 42)) fun e w'=>e=.returned (.int .u8 (meet2 a b))/\w.alloc (.cells #[.int .u8 a,.int .u8 b] 42)=w':=by
 have h0:(w.alloc (.cells #[.int .u8 a,.int .u8 b] 42)).cell? ⟨w.heap.size,0,none⟩=some (.int .u8 a):=by rw [cell_blk (blk_new w _)];rfl
 have h1:(w.alloc (.cells #[.int .u8 a,.int .u8 b] 42)).cell? ⟨w.heap.size,1,none⟩=some (.int .u8 b):=by rw [cell_blk (blk_new w _)];rfl
 generalize w.alloc (.cells #[.int .u8 a,.int .u8 b] 42)=w1 at h0 h1 ⊢
 go_enter Tryz.func152,Tryz.ntmps152
 go_wp2
 go_rounds 3
 go_ret
 exact⟨rfl,rfl⟩
theorem can_W (k:Int) (w:World):Calls Tryz.prog 153 #[.int .u8 k] w fun e w'=>e=.returned (.int .u8 (canM k))/\Below w.heap.size w w':=by
 by_cases h1:k=1
 ·subst h1
  go_enter Tryz.func153,Tryz.ntmps153
  go_wp2
  go_rounds 3
  go_ret
  exact⟨rfl,by go_grown⟩
 by_cases h2:k=2
 ·subst h2;clear h1
  go_enter Tryz.func153,Tryz.ntmps153
  go_wp2
  go_rounds 3
  go_ret
  exact⟨rfl,by go_grown⟩
 by_cases h3:k=3
 ·subst h3;clear h1 h2
  go_enter Tryz.func153,Tryz.ntmps153
  go_wp2
  go_rounds 3
  go_ret
  exact⟨rfl,by go_grown⟩
 by_cases h4:k=4
 ·subst h4;clear h1 h2 h3
  go_enter Tryz.func153,Tryz.ntmps153
  go_wp2
  go_rounds 3
  go_ret
  exact⟨rfl,by go_grown⟩
 by_cases h9:k=9
 ·subst h9;clear h1 h2 h3 h4
  go_enter Tryz.func153,Tryz.ntmps153
  go_wp2
  go_rounds 4
  go_ret
  exact⟨rfl,by go_grown⟩
 by_cases h13:k=13
 ·subst h13;clear h1 h2 h3 h4 h9
  go_enter Tryz.func153,Tryz.ntmps153
  go_wp2
  go_rounds 3
  go_ret
  exact⟨rfl,by go_grown⟩
 have g1:(k==1)=false:=by simp [h1]
 have g2:(k==2)=false:=by simp [h2]
 have g3:(k==3)=false:=by simp [h3]
 have g4:(k==4)=false:=by simp [h4]
 have g9:(k==9)=false:=by simp [h9]
 have g13:(k==13)=false:=by simp [h13]
 have H:Hid (canM k=if k=5 then 16 else if k=6 then 16 else if k=8 then 16 else if k=12 then 16 else if k=10 then 1 else if k=11 then 8 else 0):=by
  show canM k=_;simp only [canM,if_neg h1,if_neg h2,if_neg h3,if_neg h4,if_neg h9,if_neg h13]
 clear h1 h2 h3 h4 h9 h13
 by_cases h5:k=5
 ·subst h5
  go_enter Tryz.func153,Tryz.ntmps153
  go_wp2
  go_ret
  exact⟨by rw [H.out];rfl,by go_grown⟩
 by_cases h6:k=6
 ·subst h6
  go_enter Tryz.func153,Tryz.ntmps153
  go_wp2
  go_ret
  exact⟨by rw [H.out];rfl,by go_grown⟩
 by_cases h8:k=8
 ·subst h8
  go_enter Tryz.func153,Tryz.ntmps153
  go_wp2
  go_ret
  exact⟨by rw [H.out];rfl,by go_grown⟩
 by_cases h12:k=12
 ·subst h12
  go_enter Tryz.func153,Tryz.ntmps153
  go_wp2
  go_ret
  exact⟨by rw [H.out];rfl,by go_grown⟩
 by_cases h10:k=10
 ·subst h10
  go_enter Tryz.func153,Tryz.ntmps153
  go_wp2
  go_ret
  exact⟨by rw [H.out];rfl,by go_grown⟩
 by_cases h11:k=11
 ·subst h11
  go_enter Tryz.func153,Tryz.ntmps153
  go_wp2
  go_ret
  exact⟨by rw [H.out];rfl,by go_grown⟩
 have H2:Hid (canM k=0):=by
  show canM k=0;rw [H.out,if_neg h5,if_neg h6,if_neg h8,if_neg h12,if_neg h10,if_neg h11]
 have g5:(k==5)=false:=by simp [h5]
 have g6:(k==6)=false:=by simp [h6]
 have g8:(k==8)=false:=by simp [h8]
 have g12:(k==12)=false:=by simp [h12]
 have g10:(k==10)=false:=by simp [h10]
 have g11:(k==11)=false:=by simp [h11]
 clear h5 h6 h8 h12 h10 h11 H
 go_enter Tryz.func153,Tryz.ntmps153
 go_wp2
 go_ret
 exact⟨by rw [H2.out];rfl,by go_grown⟩
def ableF (M:WM):Nat->Int->Int->Int
 | 0,_,_=>0
 | f+1,s,r=>match M.at r with
   | none=>0
   | some t=>if t.kind=14 then ableF M f (meet2 s t.set) t.tgt else if t.kind=15\/t.kind=16 then ableF M f s t.tgt else meet2 s (canM t.kind)
def AbleIs (M:WM) (s r v:Int):Prop:=∃ f0,∀ f,f0≤f->ableF M f s r=v
theorem AbleIs.none {M:WM} {s r v:Int} (h:AbleIs M s r v) (hr:M.at r=none):v=0:=by
 obtain⟨f,h⟩:=h;have:=h (f+1) (by omega)
 simpa [ableF,hr]using this.symm
theorem AbleIs.facet {M:WM} {s r v:Int} {t:Th} (h:AbleIs M s r v) (hr:M.at r=some t) (hk:t.kind=14):AbleIs M (meet2 s t.set) t.tgt v:=by
 obtain⟨f,h⟩:=h;refine⟨f,fun g hg=>?_⟩;have:=h (g+1) (by omega)
 simpa [ableF,hr,hk]using this
theorem AbleIs.wrap {M:WM} {s r v:Int} {t:Th} (h:AbleIs M s r v) (hr:M.at r=some t) (hk:t.kind=15\/t.kind=16):AbleIs M s t.tgt v:=by
 obtain⟨f,h⟩:=h;refine⟨f,fun g hg=>?_⟩;have:=h (g+1) (by omega);have h14:t.kind≠14:=by omega
 simpa [ableF,hr,hk,h14]using this
theorem AbleIs.base {M:WM} {s r v:Int} {t:Th} (h:AbleIs M s r v) (hr:M.at r=some t) (h14:¬ t.kind=14) (hk:¬ (t.kind=15\/t.kind=16)):v=meet2 s (canM t.kind):=by
 obtain⟨f,h⟩:=h;have:=h (f+1) (by omega)
 simpa [ableF,hr,hk,h14]using this.symm
theorem AbleIs.mk_none {M:WM} {s r:Int} (hr:M.at r=.none):AbleIs M s r 0:=⟨1,fun f hf=>by obtain⟨g,rfl⟩:∃ g,f=g+1:=⟨f - 1,by omega⟩;simp [ableF,hr]⟩
theorem AbleIs.mk_facet {M:WM} {s r v:Int} {t:Th} (hr:M.at r=some t) (hk:t.kind=14) (h:AbleIs M (meet2 s t.set) t.tgt v):AbleIs M s r v:=by
 obtain⟨f0,h⟩:=h;exact⟨f0+1,fun f hf=>by obtain⟨g,rfl⟩:∃ g,f=g+1:=⟨f - 1,by omega⟩;simp [ableF,hr,hk,h g (by omega)]⟩
theorem AbleIs.mk_wrap {M:WM} {s r v:Int} {t:Th} (hr:M.at r=some t) (hk:t.kind=15\/t.kind=16) (h:AbleIs M s t.tgt v):AbleIs M s r v:=by
 obtain⟨f0,h⟩:=h;have h14:t.kind≠14:=by omega
 exact⟨f0+1,fun f hf=>by obtain⟨g,rfl⟩:∃ g,f=g+1:=⟨f - 1,by omega⟩;simp [ableF,hr,hk,h14,h g (by omega)]⟩
theorem AbleIs.mk_base {M:WM} {s r:Int} {t:Th} (hr:M.at r=some t) (h14:¬ t.kind=14) (hk:¬ (t.kind=15\/t.kind=16)):AbleIs M s r (meet2 s (canM t.kind)) :=
 ⟨1,fun f hf=>by obtain⟨g,rfl⟩:∃ g,f=g+1:=⟨f - 1,by omega⟩;simp [ableF,hr,hk,h14]⟩
theorem Able_W {w:World} {p:Nat} {M:WM} {F:Nat->Prop} (hW:IsW w p M F) {r v:Int} (hr:(Lit.int .i64 r).wf=true) (hv:AbleIs M 63 r v) :
 Calls Tryz.prog 51 #[.pointer (some ⟨p,0,none⟩),.int .i64 r] w fun e w'=>e=.returned (.int .u8 v)/\Bl w w':=by
 obtain⟨rk,-,hrk⟩:=hW.ok.wrap;have HW:=(show Hid (IsW w p M F)from hW);clear hW;have Hv:=(show Hid (AbleIs M 63 r v)from hv);clear hv;have Hrk:=(show Hid (∀ (r:Int) (t:Th),M.at r=some t->wrapsB t.kind=true->(∃ u,M.at t.tgt=some u)/\rk t.tgt<rk r)from hrk);clear hrk
 go_enter Tryz.func51,Tryz.ntmps51
 go_wp2
 go_step3
 go_wp2
 go_step3
 go_wp2
 go_loopw [1,5] (fun vr vs wr=>∃ q s,vr=.int .i64 q/\vs=.int .u8 s/\(Lit.int .i64 q).wf=true/\AbleIs M s q v/\Bl w wr) (fun vr _ _=>rk (intOf vr))
 case atStart=>exact⟨r,63,rfl,rfl,hr,Hv.out,Below.refl _ _⟩
 case round =>
  obtain⟨q,s,rfl,rfl,hq,hv,hB⟩:=hrel;have Hv:=(show Hid (AbleIs M s q v)from hv);have HB:=(show Hid (Bl w wr)from hB);have hWr:=HW.out.below hB;have hn:=Is_W hWr hq;clear hv hB;obtain⟨pa,pc,cg,cc,mg,mc,tb,fb,fn,bl,h⟩:=id hWr;have c2:=h.c2;have hl:=h.look hq
  cases ha:M.at q with
  | none =>
    rw [ha]at hn;clear hl
    go_wp2_with (go_at_call 49;refine hn.mono ?_;rintro e w' ⟨rfl,rfl⟩)
    rw [Exit.noGoto_ret]
    go_ret
    exact⟨by rw [Hv.out.none ha];rfl,HB.out⟩
  | some t =>
    rw [ha]at hl hn;simp only [Option.map_some]at hl;obtain⟨k0,-,-,-,k6,-,k8,-⟩:=thc_cell (h.blk q t ha).1;have hwf:=h.ok.wf q t ha;have htgt:=hwf.tgt;have k6a:=fun o=>cell_al k6 o
    by_cases h14:t.kind=14
    ·have H14:Hid (t.kind=14):=h14;rw [h14]at k0;clear h14 hwf
     go_wp2_with (first | (go_at_call 49;refine hn.mono ?_;rintro e w' ⟨rfl,rfl⟩) | (go_at_call 152;refine(Meet_new _ _ _).mono ?_;rintro e w' ⟨rfl,rfl⟩))
     go_roundw
     case rel=>exact⟨t.tgt,_,rfl,rfl,htgt,Hv.out.facet ha H14.out,HB.out.alloc HB.out.size _⟩
     case measure=>exact(Hrk.out q t ha (by simp [wrapsB,H14.out])).2
    ·by_cases hk:t.kind=15\/t.kind=16
     ·have H14:Hid (t.kind=15\/t.kind=16):=hk;clear h14 hwf
      rcases hk with h15 | h16
      ·rw [h15]at k0;clear h15
       go_wp2_with (go_at_call 49;refine hn.mono ?_;rintro e w' ⟨rfl,rfl⟩)
       go_roundw
       case rel=>exact⟨t.tgt,_,rfl,rfl,htgt,Hv.out.wrap ha H14.out,HB.out⟩
       case measure=>exact(Hrk.out q t ha (by rcases H14.out with h | h <;> simp [wrapsB,h])).2
      ·rw [h16]at k0;clear h16
       go_wp2_with (go_at_call 49;refine hn.mono ?_;rintro e w' ⟨rfl,rfl⟩)
       go_roundw
       case rel=>exact⟨t.tgt,_,rfl,rfl,htgt,Hv.out.wrap ha H14.out,HB.out⟩
       case measure=>exact(Hrk.out q t ha (by rcases H14.out with h | h <;> simp [wrapsB,h])).2
     ·have g14:(t.kind==14)=false:=by simp [h14]
      have g15:(t.kind==15)=false:=by simp;omega
      have g16:(t.kind==16)=false:=by simp;omega
      have H:Hid (v=meet2 s (canM t.kind)):=Hv.out.base ha h14 hk;clear h14 hk hwf
      go_wp2_with (first | (go_at_call 49;refine hn.mono ?_;rintro e w' ⟨rfl,rfl⟩) | (go_at_call 152;refine(Meet_new _ _ _).mono ?_;rintro e w' ⟨rfl,rfl⟩) | (go_at_call 153;refine(can_W _ _).mono ?_;rintro e w1 ⟨rfl,hb1⟩))
      rw [Exit.noGoto_ret]
      go_ret
      exact⟨by rw [H.out];rfl,(HB.out.trans (hb1.mono HB.out.size)).alloc (Nat.le_trans HB.out.size hb1.size) _⟩
end
section
section
variable {w:World} {p:Nat} {M:WM} {F:Nat->Prop} {pa:Option Addr} {pc cg cc mg mc tb fb fn:Nat} {bl:Int->Nat}
end
section
variable {w:World} {p:Nat} {M:WM} {F:Nat->Prop}
end
end
section
def wayF (M:WM):Nat->Int->List Int
 | 0,_=>[]
 | f+1,r=>match M.at r with
   | none=>[]
   | some t=>r :: (if wrapsB t.kind=true then wayF M f t.tgt else [])
def WayIs (M:WM) (r:Int) (l:List Int):Prop:=∃ f0,∀ f,f0≤f->wayF M f r=l
theorem WayIs.uniq {M:WM} {r:Int} {l l':List Int} (h:WayIs M r l) (h':WayIs M r l'):l=l':=by
 obtain⟨f,h⟩:=h;obtain⟨f',h'⟩:=h';exact(h (f+f') (by omega)).symm.trans (h' (f+f') (by omega))
theorem WayIs.none {M:WM} {r:Int} {l:List Int} (h:WayIs M r l) (hr:M.at r=none):l = []:=by
 obtain⟨f,h⟩:=h;have:=h (f+1) (by omega)
 simpa [wayF,hr]using this.symm
theorem WayIs.wrap {M:WM} {r:Int} {l:List Int} {t:Th} (h:WayIs M r l) (hr:M.at r=some t) (hk:wrapsB t.kind=true):∃ l',l=r :: l'/\WayIs M t.tgt l':=by
 obtain⟨f,h⟩:=h;have h1:=h (f+1) (by omega);refine⟨wayF M f t.tgt,by simpa [wayF,hr,hk]using h1.symm,f,fun g hg=>?_⟩;have h2:=h (g+1) (by omega);rw [<- h1]at h2
 simpa [wayF,hr,hk]using h2
theorem WayIs.base {M:WM} {r:Int} {l:List Int} {t:Th} (h:WayIs M r l) (hr:M.at r=some t) (hk:wrapsB t.kind=false):l = [r]:=by
 obtain⟨f,h⟩:=h;have h1:=h (f+1) (by omega)
 simpa [wayF,hr,hk]using h1.symm
theorem WayIs.mk_none {M:WM} {r:Int} (hr:M.at r=.none):WayIs M r []:=⟨1,fun f hf=>by obtain⟨g,rfl⟩:∃ g,f=g+1:=⟨f - 1,by omega⟩;simp [wayF,hr]⟩
theorem WayIs.mk_wrap {M:WM} {r:Int} {l:List Int} {t:Th} (hr:M.at r=some t) (hk:wrapsB t.kind=true) (h:WayIs M t.tgt l):WayIs M r (r :: l):=by
 obtain⟨f0,h⟩:=h;exact⟨f0+1,fun f hf=>by obtain⟨g,rfl⟩:∃ g,f=g+1:=⟨f - 1,by omega⟩;simp [wayF,hr,hk,h g (by omega)]⟩
theorem WayIs.mk_base {M:WM} {r:Int} {t:Th} (hr:M.at r=some t) (hk:wrapsB t.kind=false):WayIs M r [r] :=
 ⟨1,fun f hf=>by obtain⟨g,rfl⟩:∃ g,f=g+1:=⟨f - 1,by omega⟩;simp [wayF,hr,hk]⟩
theorem way_ex {M:WM} (hok:M.ok) (r:Int):∃ l,WayIs M r l/\(l.length:Int)≤M.last+1:=by
 obtain⟨rk,hrk0,hrk⟩:=hok.wrap;have hl:=hok.last
 suffices h:∃ l,WayIs M r l/\l.length≤rk r+1 by
  obtain⟨l,h1,h2⟩:=h;have:=hrk0 r;exact⟨l,h1,by omega⟩
 generalize hm:rk r=m
 induction m using Nat.strongRecOn generalizing r with
 | ind m ih =>
   subst hm
   cases hr:M.at r with
   | none=>exact⟨[],WayIs.mk_none hr,by simp⟩
   | some t =>
     cases hk:wrapsB t.kind with
     | true =>
       obtain⟨l,h1,h2⟩:=ih _ (hrk r t hr hk).2 t.tgt rfl;have:=(hrk r t hr hk).2;exact⟨_,WayIs.mk_wrap hr hk h1,by simp;omega⟩
     | false=>exact⟨_,WayIs.mk_base hr hk,by simp⟩
theorem Way_W {w:World} {p:Nat} {M:WM} {F:Nat->Prop} (hW:IsW w p M F) {r:Int} {l:List Int} (hr:(Lit.int .i64 r).wf=true) (hl:WayIs M r l) :
 Calls Tryz.prog 56 #[.pointer (some ⟨p,0,none⟩),.int .i64 r] w fun e w'=>∃ v,e=.returned v/\w'.ownsRow w.heap.size 25 1 v l.length (l.map (Value.int .i64))/\Bl w w':=by
 have Hb:Hid ((l.length:Int)≤1099511627777):=by
  obtain⟨l',h1,h2⟩:=way_ex hW.ok r;obtain rfl:=hl.uniq h1;have:=hW.ok.last;show _≤_;omega
 obtain⟨rk,-,hrk⟩:=hW.ok.wrap;obtain⟨pa,pc,cg,cc,mg,mc,tb,fb,fn,bl,hW⟩:=hW;have HW:=(show Hid (WV w p M F pa pc cg cc mg mc tb fb fn bl)from hW);have Hl:=(show Hid (WayIs M r l)from hl);have Hrk:=(show Hid (∀ (r:Int) (t:Th),M.at r=some t->wrapsB t.kind=true->(∃ u,M.at t.tgt=some u)/\rk t.tgt<rk r)from hrk);clear hW hl hrk
 go_enter Tryz.func56,Tryz.ntmps56
 go_wp2
 go_loopw [1,5] (fun vr vs wr=>∃ q pre rest,vr=.int .i64 q/\(Lit.int .i64 q).wf=true/\Hid (WayIs M q rest)/\Hid (l=pre ++ rest)/\wr.ownsRow w.heap.size 25 1 vs pre.length (pre.map (Value.int .i64))/\Bl w wr) (fun vr _ _=>rk (intOf vr))
 case atStart=>exact⟨r,[],l,rfl,hr,Hl.out,rfl,World.ownsRow_nil _ _ _ _,Below.refl _ _⟩
 case round =>
  obtain⟨q,pre,rest,rfl,hq,Hv,He,hown,hB⟩:=hrel;have HB:=(show Hid (Bl w wr)from hB);have h:=HW.out.below hB;have hsz:=hB.size;have hn:=Is_W ⟨_,_,_,_,_,_,_,_,_,_,h⟩ hq;clear hB;have c2:=h.c2;have hl:=h.look hq
  cases ha:M.at q with
  | none =>
    rw [ha]at hn;clear hl
    go_wp2_with (go_at_call 49;refine hn.mono ?_;rintro e w' ⟨rfl,rfl⟩)
    go_ret
    have e1:l=pre:=by
     have:=He.out;rw [Hv.out.none ha]at this
     simpa using this
    exact⟨_,rfl,by rw [e1];exact hown,HB.out⟩
  | some t =>
    rw [ha]at hn;clear hl c2;have htgt:=(h.ok.wf q t ha).tgt
    have Hp:Hid ((pre.length:Int)≤1099511627777):=by
     show _≤_;have h1:=Hb.out;have h2:=He.out
     cases hk:wrapsB t.kind with
     | true =>
       obtain⟨l',e1,_⟩:=Hv.out.wrap ha hk;rw [h2,e1]at h1;simp at h1;omega
     | false =>
       rw [h2,Hv.out.base ha hk]at h1;simp at h1;omega
    clear h;have hwr:=fun W=>wraps_W t.kind W
    cases hk:wrapsB t.kind with
    | false =>
      have Hk:Hid (wrapsB t.kind=false):=hk;rw [hk]at hwr;clear hk
      go_wp2_with (first
       | (go_at_call 49;refine hn.mono ?_;rintro e w' ⟨rfl,rfl⟩)
       | (at_builtin;refine append_ref rfl _ _ rfl w.heap.size _ pre rfl hown q rfl Hp hsz ?_;intro v' w1 hown' _ hb1;have hB1:Bl w w1:=HB.out.trans hb1;have HB1:=(show Hid (Bl w w1)from hB1);have h1:=HW.out.below hB1;have c2:=h1.c2;have hl:=h1.look hq;rw [ha]at hl;simp only [Option.map_some]at hl;obtain⟨k0,-,-,-,k6,-,-,-⟩:=thc_cell (h1.blk q t ha).1;clear h1 hB1 hb1)
       | (go_at_call 154;refine(hwr _).mono ?_;rintro e w' ⟨rfl,rfl⟩))
      go_ret
      have e1:l=pre ++ [q]:=by rw [He.out,Hv.out.base ha Hk.out]
      exact⟨_,rfl,by rw [e1];exact hown',HB1.out⟩
    | true =>
      have Hk:Hid (wrapsB t.kind=true):=hk;rw [hk]at hwr;clear hk
      go_wp2_with (first
       | (go_at_call 49;refine hn.mono ?_;rintro e w' ⟨rfl,rfl⟩)
       | (at_builtin;refine append_ref rfl _ _ rfl w.heap.size _ pre rfl hown q rfl Hp hsz ?_;intro v' w1 hown' _ hb1;have hB1:Bl w w1:=HB.out.trans hb1;have HB1:=(show Hid (Bl w w1)from hB1);have h1:=HW.out.below hB1;have c2:=h1.c2;have hl:=h1.look hq;rw [ha]at hl;simp only [Option.map_some]at hl;obtain⟨k0,-,-,-,k6,-,-,-⟩:=thc_cell (h1.blk q t ha).1;clear h1 hB1 hb1)
       | (go_at_call 154;refine(hwr _).mono ?_;rintro e w' ⟨rfl,rfl⟩))
      go_roundw
      case rel =>
       obtain⟨l',e1,hl'⟩:=Hv.out.wrap ha Hk.out;refine⟨t.tgt,pre ++ [q],l',rfl,htgt,hl',?_,hown',HB1.out⟩;show _=_;rw [He.out,e1];simp
      case measure=>exact(Hrk.out q t ha Hk.out).2
end
section
theorem cloneSide_nil (w:World) (n c:Nat):Calls Tryz.prog 72 #[.slice none n c] w fun e w'=>e=.returned (.slice none 0 0)/\w=w':=by
 go_enter Tryz.func72,Tryz.ntmps72
 go_wp2
 go_ret
 exact⟨rfl,rfl⟩
theorem infoSide:(Tryz.prog.info? 35).map (fun i=>(i.zero,i.size,i.bytes))=some (some (.int .i64 0),1,8):=by kernel_rfl
theorem append_sides {w:World} {ops:Array Oper} {rest:List Oper} {o:Oper} {a:Act} {Q:Exit->Act->World->Prop} (hgd:o.guard=none) (s x:Operand)
 (ho:o.op=.call { callee:=.builtin .append,args:=#[s,x],argTypes:=#[39,39] }) (A:Addr) (c n:Nat) (xs:List Int) (hs:a.eval s=.slice (some ⟨w.heap.size,0,none⟩) 0 0) (hn:n=xs.length)
 (hx:a.eval x=.slice (some A) n c) (hc:Hid (∀ (j:Nat) (x:Int),xs[j]? = some x->w.cell? (A.add j)=some (.int .i64 x))) (hn:Hid (xs.length<16))
 (h:∀ v' w',w'.ownsRow w.heap.size 35 1 v' xs.length (xs.map (Value.int .i64))->Bl w w'->wpList Tryz.prog ops Q rest (a.put o.dst v') w'):wpList Tryz.prog ops Q (o :: rest) a (w.alloc (.cells #[] 35)):=by
 obtain⟨i,hi,hz,h1,h2⟩:=info_parts infoSide;have hn:=hn.out
 refine wpList_append_own _ hgd s x 39 ho w.heap.size 35 i (.int .i64 0) 1 8 Tryz.underlying39 hi hz h1 h2 rfl (by decide) (.slice (some ⟨w.heap.size,0,none⟩) 0 0) 0 [] hs
  ⟨by simp,.inr ⟨w.heap.size,0,#[],rfl,Nat.le_refl _,blk_new _ _,by omega,by unfold maxLen;omega,by simp,by simp⟩⟩ A n c (xs.map (Value.int .i64)) hx (by simp;omega)
  (fun j u hu=>?_) (fun u hu=>?_) (by unfold maxLen;omega) (by omega) (by simp) ?_
 ·rw [List.getElem?_map]at hu
  cases hj:xs[j]? with
  | none=>rw [hj]at hu;cases hu
  | some y =>
    rw [hj]at hu
    cases hu
    exact cell_al (hc.out j y hj) _
 ·obtain⟨y,-,rfl⟩:=List.mem_map.1 hu;rfl
 ·intro v' w' r1 r2 _;have hg:w.grownBy w' (Value.slice (some ⟨w.heap.size,0,none⟩) 0 0).ownBlock:=(World.grownBy_alloc w _ _).trans r2;refine h v' w' (by simpa [*]using r1) ⟨hg.os,hg.tape,hg.output,hg.size,fun k hk=>hg.block k (by omega) (fun e=>?_)⟩;simp [Value.ownBlock]at e;omega
theorem cloneSide_at (w:World) (A:Addr) (c:Nat) (xs:List Int) (hx:∀ (j:Nat) (x:Int),xs[j]? = some x->w.cell? (A.add j)=some (.int .i64 x)) (hn:xs.length<16) :
 Calls Tryz.prog 72 #[.slice (some A) xs.length c] w fun e w'=>∃ v,e=.returned v/\w'.ownsRow w.heap.size 35 1 v xs.length (xs.map (Value.int .i64))/\Bl w w':=by
 have Hx:=(show Hid _ from hx);have Hn:=(show Hid (xs.length<16)from hn);obtain⟨n,hnx⟩:∃ n,n=xs.length:=⟨_,rfl⟩;have Hnx:=(show Hid (n=xs.length)from hnx);rw [<- hnx];clear hx hn hnx
 go_enter Tryz.func72,Tryz.ntmps72
 go_wp2_with (at_builtin;refine append_sides rfl _ _ rfl A c n xs rfl Hnx.out rfl Hx Hn ?_;intro v w1 hv hb1;have HV:=(show Hid _ from hv);have HB1:=(show Hid (Bl w w1)from hb1);clear hv hb1)
 go_ret
 exact⟨v,rfl,Hnx.out ▸ HV.out,HB1.out⟩
theorem cloneSide_some (w:World) (b off c:Nat) (xs:List Int) (hx:∀ (j:Nat) (x:Int),xs[j]? = some x->w.cell? ⟨b,off+j,none⟩=some (.int .i64 x)) (hn:xs.length<16) :
 Calls Tryz.prog 72 #[.slice (some ⟨b,off,none⟩) xs.length c] w fun e w'=>∃ v,e=.returned v/\w'.ownsRow w.heap.size 35 1 v xs.length (xs.map (Value.int .i64))/\Bl w w' :=
 cloneSide_at w ⟨b,off,none⟩ c xs (fun j x h=>by
  have hadd:(⟨b,off,none⟩:Addr).add j=⟨b,off+j,none⟩:=by unfold Addr.add;split <;> simp_all
  rw [hadd]
  exact hx j x h) hn
end
end Go.Proofs.YthaliljaglldjaaGreat
namespace Go.Proofs.YthaliljaglldjaaGreat
set_option maxHeartbeats 16000000
set_option maxRecDepth 20000
open Go.RowKit
section
theorem count_set_true {l:List Bool} {i:Nat} (hi:i<l.length) (h:l[i]=false):(l.set i true).count false+1=l.count false:=by
 induction l generalizing i with
 | nil=>simp at hi
 | cons x l ih =>
   cases i with
   | zero =>
     simp only [List.getElem_cons_zero]at h;subst h;simp
   | succ i =>
     have:=ih (i:=i) (by simpa using hi) (by simpa using h)
     cases x <;> simp <;> omega
section
variable {P:Program} {ops:Array Oper} {Q:Exit->Act->World->Prop}
theorem ready_of_none (L:Array Bool) (hL:L.size=ops.size) (hord:∀ (i:Nat) (o:Oper),ops[i]? = some o->∀ e ∈ o.after,e.on<i)
 (hr:Region.ready .any ops L = []):∀ i,i<ops.size->L.getD i true=true:=by
 intro i
 induction i using Nat.strongRecOn with
 | ind i ih =>
   intro hi
   cases hLi:L.getD i true with
   | true=>rfl
   | false =>
     exfalso
     have:i ∈ Region.ready .any ops L:=by
      unfold Region.ready;rw [List.mem_filter];refine⟨List.mem_range.2 hi,?_⟩;rw [hLi,Array.getElem?_eq_getElem hi];simp only [Bool.not_false,Bool.true_and,Option.map_some,Option.getD_some];rw [Array.all_eq_true_iff_forall_mem];intro e he;have h1:=hord i _ (Array.getElem?_eq_getElem hi) e he;have h2:=ih e.on h1 (by omega)
      have h3:L.getD e.on false=true:=by
       have:e.on<L.size:=by omega
       simpa [Array.getD,this]using h2
      simp [h3]
     rw [hr]at this
     cases this
theorem wpAny_inv (Inv:Array Bool->Act->World->Prop) (hord:∀ (i:Nat) (o:Oper),ops[i]? = some o->∀ e ∈ o.after,e.on<i)
 (step:∀ L a w i o,Inv L a w->ops[i]? = some o->L.getD i true=false->(∀ e ∈ o.after,Region.binds .any e=true->L.getD e.on false=true) ->
  if Region.wanted o (yielded ops a.tmps)then o.wp P a w (Inv (L.setIfInBounds i true)) Q else Inv (L.setIfInBounds i true) (a.put o.dst undef) w)
 (done:∀ L a w,Inv L a w->(∀ i,i<ops.size->L.getD i true=true)->Q .normal a w) :
 ∀ (fuel:Nat) (L:Array Bool) (a:Act) (w:World),L.size=ops.size->L.toList.count false≤fuel->Inv L a w->wpAny P .any ops Q fuel L a w
 | 0,L,a,w,hL,hc,hI=>by
   have hall:∀ i,i<ops.size->L.getD i true=true:=by
    intro i hi;have h0:L.toList.count false=0:=by omega
    rw [List.count_eq_zero]at h0
    cases h:L.getD i true with
    | true=>rfl
    | false =>
      exfalso
      apply h0
      have hi':i<L.size:=by omega
      have:L[i]=false:=by simpa [Array.getD,hi']using h
      rw [<- this];simp
   refine⟨?_,done L a w hI hall⟩;unfold Region.ready;rw [List.filter_eq_nil_iff];intro i hi;rw [hall i (List.mem_range.1 hi)];simp
 | fuel+1,L,a,w,hL,hc,hI=>by
   refine⟨fun h=>done L a w hI (ready_of_none L hL hord h),fun i hi=>?_⟩;unfold Region.ready at hi;rw [List.mem_filter]at hi;obtain⟨h1,h2⟩:=hi;have h1:=List.mem_range.1 h1;rw [Bool.and_eq_true,Array.getElem?_eq_getElem h1,Option.map_some,Option.getD_some,Array.all_eq_true_iff_forall_mem]at h2;obtain⟨h3,h4⟩:=h2;have h3:L.getD i true=false:=by simpa using h3
   have hs:=step L a w i _ hI (Array.getElem?_eq_getElem h1) h3 (fun e he hb=>by
    have:=h4 e he
    simpa [hb]using this)
   have hi':i<L.size:=by omega
   have hLi:L.toList[i]'(by simpa using hi')=false:=by
    have:L[i]=false:=by simpa [Array.getD,hi']using h3
    simpa using this
   have hcnt:=count_set_true (l:=L.toList) (by simpa using hi') hLi
   have next:∀ a w,Inv (L.setIfInBounds i true) a w->wpAny P .any ops Q fuel (L.setIfInBounds i true) a w:=fun a w h =>
    wpAny_inv Inv hord step done fuel _ a w (by simpa using hL) (by rw [Array.toList_setIfInBounds];omega) h
   unfold wpOp;rw [Array.getElem?_eq_getElem h1];simp only;split at hs
   ·rename_i hw
    rw [if_pos hw];exact .inl (Oper.wp_mono next hs)
   ·rename_i hw
    rw [if_neg hw];exact next _ _ hs
theorem wp_region_inv {id:Nat} {a:Act} {w:World} (hm:P.follows .mixedOrders=true) (Inv:Array Bool->Act->World->Prop) (hord:∀ (i:Nat) (o:Oper),ops[i]? = some o->∀ e ∈ o.after,e.on<i)
 (h0:Inv (Array.replicate ops.size false) a w.drew)
 (step:∀ L a w i o,Inv L a w->ops[i]? = some o->L.getD i true=false->(∀ e ∈ o.after,Region.binds .any e=true->L.getD e.on false=true) ->
  if Region.wanted o (yielded ops a.tmps)then o.wp P a w (Inv (L.setIfInBounds i true)) Q else Inv (L.setIfInBounds i true) (a.put o.dst undef) w)
 (done:∀ L a w,Inv L a w->(∀ i,i<ops.size->L.getD i true=true)->Q .normal a w):(Code.region id ops true).wp P Q a w :=
 wp_region_any hm (wpAny_inv Inv hord step done ops.size _ a _ (by simp) (by simp) h0)
end
end
end Go.Proofs.YthaliljaglldjaaGreat
