/- Part of the proof. -/
import Derived.Test.YthaliljaglldjaaGreatmAA
import Derived.Deep.QuietTactic
import Derived.BigQuiet
import Derived.Orders
namespace Go.Proofs.YthaliljaglldjaaGreat
set_option maxHeartbeats 16000000
set_option maxRecDepth 20000
open Go.RowKit Go.ChangeMaps Go.MapKept
section
section
variable {w:World} {p:Nat} {M:WM} {F:Nat->Prop}
theorem eF (hW:IsW w p M F):Calls Tryz.prog 73 #[P_ p] w fun e w'=>e=.returned (.bool false)/\w=w':=by
 obtain⟨pa,pc,cg,cc,mg,mc,tb,fb,fn,bl,h⟩:=hW;have c2:=h.c2
 go_enter Tryz.func73,Tryz.ntmps73
 go_wp2
 go_ret
 exact⟨rfl,rfl⟩
theorem fZ (hW:IsW w p M F):Calls Tryz.prog 41 #[P_ p] w fun e w'=>e=.returned (J M.made.length)/\w=w':=by
 have hn:=eF hW;obtain⟨pa,pc,cg,cc,mg,mc,tb,fb,fn,bl,h⟩:=hW;have c5:=h.c5
 go_enter Tryz.func41,Tryz.ntmps41
 go_wp2_with (go_at_call 73;refine hn.mono ?_;rintro e w' ⟨rfl,rfl⟩)
 go_ret
 exact⟨rfl,rfl⟩
def be (M:WM) (s:Int):Bool:=decide (0≤s/\s<M.made.length)
theorem sideB_iff {M:WM} {s:Int}:be M s=true ↔ 0≤s/\s<M.made.length:=by simp [be]
theorem cJ (hW:IsW w p M F) (s:Int):Calls Tryz.prog 149 #[P_ p,J s] w fun e w'=>e=.returned (.bool (be M s))/\w=w':=by
 have hn:=fZ hW
 by_cases h0:0≤s
 ·go_enter Tryz.func149,Tryz.ntmps149
  go_wp2_with (go_at_call 41;refine hn.mono ?_;rintro e w' ⟨rfl,rfl⟩)
  go_ret
  exact⟨by simp [be,h0],rfl⟩
 ·go_enter Tryz.func149,Tryz.ntmps149
  go_wp2_with (go_at_call 41;refine hn.mono ?_;rintro e w' ⟨rfl,rfl⟩)
  go_ret
  exact⟨by simp [be];omega,rfl⟩
theorem gN (hW:IsW w p M F) {r:Int} (hr:(Lit.int .i64 r).wf=true):Calls Tryz.prog 49 #[P_ p,J r] w fun e w'=>e=.returned (.bool (M.at r).isSome)/\w=w':=by
 have hn:=eF hW;obtain⟨pa,pc,cg,cc,mg,mc,tb,fb,fn,bl,h⟩:=hW;have c2:=h.c2;have hl:=h.look hr
 cases ha:M.at r with
 | none =>
   rw [ha]at hl;simp only [Option.map_none]at hl
   go_enter Tryz.func49,Tryz.ntmps49
   go_wp2_with (go_at_call 73;refine hn.mono ?_;rintro e w' ⟨rfl,rfl⟩)
   go_ret
   exact⟨rfl,rfl⟩
 | some t =>
   rw [ha]at hl;simp only [Option.map_some]at hl
   go_enter Tryz.func49,Tryz.ntmps49
   go_wp2_with (go_at_call 73;refine hn.mono ?_;rintro e w' ⟨rfl,rfl⟩)
   go_ret
   exact⟨rfl,rfl⟩
theorem dO {w:World} {b:Nat} {t:Th} (h:w.heap[b]? = some (.cells (aF t) 46 (0,0))) :
 w.cell? ⟨b,0,none⟩=some (.int .u8 t.kind)/\w.cell? ⟨b,1,none⟩=some (.int .i64 t.home)/\w.cell? ⟨b,8,none⟩=some (.int .i64 t.n)/\w.cell? ⟨b,9,none⟩=some (.int .i64 t.lost) /\
 w.cell? ⟨b,10,none⟩=some (.int .i64 t.tgt)/\w.cell? ⟨b,11,none⟩=some (.int .i64 t.bi)/\w.cell? ⟨b,12,none⟩=some (.int .u8 t.set)/\w.cell? ⟨b,13,none⟩=some (.bool t.full) :=
 ⟨by rw [ag h];rfl,by rw [ag h];rfl,by rw [ag h];rfl,by rw [ag h];rfl,by rw [ag h];rfl,by rw [ag h];rfl,by rw [ag h];rfl,by rw [ag h];rfl⟩
def WM.kindOf (M:WM) (r:Int):Int:=((M.at r).map Th.kind).getD 0
theorem xu (hW:IsW w p M F) {r:Int} (hr:(Lit.int .i64 r).wf=true):Calls Tryz.prog 50 #[P_ p,J r] w fun e w'=>e=.returned (U (M.kindOf r))/\w=w':=by
 have hn:=gN hW hr;obtain⟨pa,pc,cg,cc,mg,mc,tb,fb,fn,bl,h⟩:=hW;have c2:=h.c2;have hl:=h.look hr
 cases ha:M.at r with
 | none =>
   rw [ha]at hn
   go_enter Tryz.func50,Tryz.ntmps50
   go_wp2_with (go_at_call 49;refine hn.mono ?_;rintro e w' ⟨rfl,rfl⟩)
   go_ret
   exact⟨by simp [WM.kindOf,ha],rfl⟩
 | some t =>
   rw [ha]at hl hn;simp only [Option.map_some]at hl;obtain⟨k0,k1,-,-,k6,k7,k8,k9⟩:=dO (h.blk r t ha).1
   go_enter Tryz.func50,Tryz.ntmps50
   go_wp2_with (go_at_call 49;refine hn.mono ?_;rintro e w' ⟨rfl,rfl⟩)
   go_ret
   exact⟨by simp [WM.kindOf,ha],rfl⟩
theorem ta (hW:IsW w p M F) (s:Int):Calls Tryz.prog 60 #[P_ p,J s] w fun e w' =>
 e=.returned (J (if be M s=true then M.made.getD s.toNat 0 else 0))/\w=w':=by
 have hn:=cJ hW s;obtain⟨pa,pc,cg,cc,mg,mc,tb,fb,fn,bl,h⟩:=hW;have c5:=h.c5
 cases hs:be M s with
 | false =>
   rw [hs]at hn
   go_enter Tryz.func60,Tryz.ntmps60
   go_wp2_with (go_at_call 149;refine hn.mono ?_;rintro e w' ⟨rfl,rfl⟩)
   go_ret
   exact⟨rfl,rfl⟩
 | true =>
   rw [hs]at hn;obtain⟨h1,h2⟩:=sideB_iff.1 hs;obtain⟨n,rfl⟩:=Int.eq_ofNat_of_zero_le h1;have hc:w.cell? ⟨mg,n,none⟩=some (.int .i64 (M.made.getD n 0)):=h.mad.cell (by rw [List.getElem?_map,List.getElem?_eq_getElem (by omega),List.getD_eq_getElem?_getD,List.getElem?_eq_getElem (by omega)];rfl);obtain⟨v,hv⟩:∃ v,v=M.made.getD n 0:=⟨_,rfl⟩;rw [<- hv]at hc;rw [Int.toNat_natCast,← hv];clear hv
   go_enter Tryz.func60,Tryz.ntmps60
   go_wp2_with (go_at_call 149;refine hn.mono ?_;rintro e w' ⟨rfl,rfl⟩)
   go_ret
   exact⟨rfl,rfl⟩
end
theorem nf (k:Int) (w:World):Calls Tryz.prog 77 #[U k] w fun e w'=>e=.returned (.bool (k==15 || k==16))/\w=w':=by
 by_cases h1:k=15
 ·subst h1
  go_enter Tryz.func77,Tryz.ntmps77
  go_wp2
  go_ret
  exact⟨rfl,rfl⟩
 ·have h1:(k==15)=false:=by simp [h1]
  go_enter Tryz.func77,Tryz.ntmps77
  go_wp2
  go_ret
  exact⟨by simp [h1],rfl⟩
theorem we (k:Int) (w:World):Calls Tryz.prog 154 #[U k] w fun e w'=>e=.returned (.bool (cC k))/\w=w':=by
 by_cases h1:k=14
 ·subst h1
  go_enter Tryz.func154,Tryz.ntmps154
  go_wp2
  go_ret
  exact⟨rfl,rfl⟩
 ·have h1:(k==14)=false:=by simp [h1]
  by_cases h2:k=15
  ·subst h2
   go_enter Tryz.func154,Tryz.ntmps154
   go_wp2
   go_ret
   exact⟨rfl,rfl⟩
  ·have h2:(k==15)=false:=by simp [h2]
   go_enter Tryz.func154,Tryz.ntmps154
   go_wp2
   go_ret
   exact⟨by simp [cC,h1,h2],rfl⟩
def ec (k:Int):Bool:=k==6 || k==7 || k==9 || k==11 || cC k
end
section
def oM (k:Int):Int :=
 if k=1 then 3 else if k=2 then 9 else if k=3 then 9 else if k=4 then 12 else if k=5 then 16 else if k=6 then 16 else if k=8 then 16 else if k=12 then 16 else if k=9 then 13 else if k=10 then 1 else if k=11 then 8 else if k=13 then 33 else 0
end
section
section
variable {w:World} {p:Nat} {M:WM} {F:Nat->Prop} {pa:Option Addr} {pc cg cc mg mc tb fb fn:Nat} {bl:Int->Nat}
end
section
variable {w:World} {p:Nat} {M:WM} {F:Nat->Prop}
end
end
section
theorem fh (w:World) (n c:Nat):Calls Tryz.prog 72 #[.slice none n c] w fun e w'=>e=.returned (S_)/\w=w':=by
 go_enter Tryz.func72,Tryz.ntmps72
 go_wp2
 go_ret
 exact⟨rfl,rfl⟩
theorem uC:(Tryz.prog.info? 35).map (fun i=>(i.zero,i.size,i.bytes))=some (some (.int .i64 0),1,8):=by kernel_rfl
theorem append_sides {w:World} {ops:Array Oper} {rest:List Oper} {o:Oper} {a:Act} {Q:Exit->Act->World->Prop} (hgd:o.guard=none) (s x:Operand)
 (ho:o.op=.call { callee:=.builtin .append,args:=#[s,x],argTypes:=#[39,39] }) (A:Addr) (c n:Nat) (xs:List Int) (hs:a.eval s=.slice (some ⟨w.heap.size,0,none⟩) 0 0) (hn:n=xs.length)
 (hx:a.eval x=.slice (some A) n c) (hc:Hid (∀ (j:Nat) (x:Int),xs[j]? = some x->w.cell? (A.add j)=some (.int .i64 x))) (hn:Hid (xs.length<16))
 (h:∀ v' w',w'.ownsRow w.heap.size 35 1 v' xs.length (xs.map (Value.int .i64))->Bl w w'->wpList Tryz.prog ops Q rest (a.put o.dst v') w'):wpList Tryz.prog ops Q (o :: rest) a (w.alloc (.cells #[] 35)):=by
 obtain⟨i,hi,hz,h1,h2⟩:=info_parts uC;have hn:=hn.out
 refine wpList_append_own _ hgd s x 39 ho w.heap.size 35 i (J 0) 1 8 Tryz.underlying39 hi hz h1 h2 rfl (by decide) (.slice (some ⟨w.heap.size,0,none⟩) 0 0) 0 [] hs
  ⟨by simp,.inr ⟨w.heap.size,0,#[],rfl,aH,ai _ _,by omega,by unfold maxLen;omega,by simp,by simp⟩⟩ A n c (xs.map (Value.int .i64)) hx (by simp;omega)
  (fun j u hu=>?_) (fun u hu=>?_) (by unfold maxLen;omega) (by omega) (by simp) ?_
 ·rw [List.getElem?_map]at hu
  cases hj:xs[j]? with
  | none=>rw [hj]at hu;cases hu
  | some y =>
    rw [hj]at hu
    cases hu
    exact gk (hc.out j y hj) _
 ·obtain⟨y,-,rfl⟩:=List.mem_map.1 hu;rfl
 ·intro v' w' r1 r2 _;have hg:w.grownBy w' (Value.slice (some ⟨w.heap.size,0,none⟩) 0 0).ownBlock:=(World.grownBy_alloc w _ _).trans r2;refine h v' w' (by simpa [*]using r1) ⟨hg.os,hg.tape,hg.output,hg.size,fun k hk=>hg.block k (by omega) (fun e=>?_)⟩;simp [Value.ownBlock]at e;omega
theorem dY (w:World) (A:Addr) (c:Nat) (xs:List Int) (hx:∀ (j:Nat) (x:Int),xs[j]? = some x->w.cell? (A.add j)=some (.int .i64 x)) (hn:xs.length<16) :
 Calls Tryz.prog 72 #[.slice (some A) xs.length c] w fun e w'=>∃ v,e=.returned v/\w'.ownsRow w.heap.size 35 1 v xs.length (xs.map (Value.int .i64))/\Bl w w':=by
 have Hx:Hid _:=hx;have Hn:Hid (xs.length<16):=hn;obtain⟨n,hnx⟩:∃ n,n=xs.length:=⟨_,rfl⟩;have Hnx:Hid (n=xs.length):=hnx;rw [<- hnx];clear hx hn hnx
 go_enter Tryz.func72,Tryz.ntmps72
 go_wp2_with (at_builtin;refine append_sides rfl _ _ rfl A c n xs rfl Hnx.out rfl Hx Hn ?_;intro v w1 hv hb1;have HV:Hid _:=hv;have HB1:Hid (Bl w w1):=hb1;clear hv hb1)
 go_ret
 exact⟨v,rfl,Hnx.out ▸ HV.out,HB1.out⟩
theorem jm (w:World) (b off c:Nat) (xs:List Int) (hx:∀ (j:Nat) (x:Int),xs[j]? = some x->w.cell? ⟨b,off+j,none⟩=some (.int .i64 x)) (hn:xs.length<16) :
 Calls Tryz.prog 72 #[.slice (some ⟨b,off,none⟩) xs.length c] w fun e w'=>∃ v,e=.returned v/\w'.ownsRow w.heap.size 35 1 v xs.length (xs.map (Value.int .i64))/\Bl w w' :=
 dY w ⟨b,off,none⟩ c xs (fun j x h=>by
  have hadd:(⟨b,off,none⟩:Addr).add j=⟨b,off+j,none⟩:=by unfold Addr.add;split <;> simp_all
  rw [hadd]
  exact hx j x h) hn
end
end Go.Proofs.YthaliljaglldjaaGreat
namespace Go.Proofs.YthaliljaglldjaaGreat
set_option maxHeartbeats 16000000
set_option maxRecDepth 20000
open Go.RowKit
section
theorem dv {l:List Bool} {i:Nat} (hi:i<l.length) (h:l[i]=false):(l.set i true).count false+1=l.count false:=by
 induction l generalizing i with
 | nil=>simp at hi
 | cons x l ih =>
   cases i with
   | zero =>
     simp only [List.getElem_cons_zero]at h;subst h;simp
   | succ i =>
     have:=ih (i:=i) (by simpa using hi) (by simpa using h)
     cases x <;> simp <;> omega
section
variable {P:Program} {ops:Array Oper} {Q:Exit->Act->World->Prop}
theorem dG (L:Array Bool) (hL:L.size=ops.size) (hord:∀ (i:Nat) (o:Oper),ops[i]? = some o->∀ e ∈ o.after,e.on<i)
 (hr:Region.ready .any ops L = []):∀ i,i<ops.size->L.getD i true=true:=by
 intro i
 induction i using Nat.strongRecOn with
 | ind i ih =>
   intro hi
   cases hLi:L.getD i true with
   | true=>rfl
   | false =>
     exfalso
     have:i ∈ Region.ready .any ops L:=by
      unfold Region.ready;rw [List.mem_filter];refine⟨List.mem_range.2 hi,?_⟩;rw [hLi,Array.getElem?_eq_getElem hi];simp only [Bool.not_false,Bool.true_and,Option.map_some,Option.getD_some];rw [Array.all_eq_true_iff_forall_mem];intro e he;have h1:=hord i _ (Array.getElem?_eq_getElem hi) e he;have h2:=ih e.on h1 (by omega)
      have h3:L.getD e.on false=true:=by
       have:e.on<L.size:=by omega
       simpa [Array.getD,this]using h2
      simp [h3]
     rw [hr]at this
     cases this
theorem lm (Inv:Array Bool->Act->World->Prop) (hord:∀ (i:Nat) (o:Oper),ops[i]? = some o->∀ e ∈ o.after,e.on<i)
 (step:∀ L a w i o,Inv L a w->ops[i]? = some o->L.getD i true=false->(∀ e ∈ o.after,Region.binds .any e=true->L.getD e.on false=true) ->
  if Region.wanted o (yielded ops a.tmps)then o.wp P a w (Inv (L.setIfInBounds i true)) Q else Inv (L.setIfInBounds i true) (a.put o.dst undef) w)
 (done:∀ L a w,Inv L a w->(∀ i,i<ops.size->L.getD i true=true)->Q .normal a w) :
 ∀ (fuel:Nat) (L:Array Bool) (a:Act) (w:World),L.size=ops.size->L.toList.count false≤fuel->Inv L a w->wpAny P .any ops Q fuel L a w
 | 0,L,a,w,hL,hc,hI=>by
   have hall:∀ i,i<ops.size->L.getD i true=true:=by
    intro i hi;have h0:L.toList.count false=0:=by omega
    rw [List.count_eq_zero]at h0
    cases h:L.getD i true with
    | true=>rfl
    | false =>
      exfalso
      apply h0
      have hi':i<L.size:=by omega
      have:L[i]=false:=by simpa [Array.getD,hi']using h
      rw [<- this];simp
   refine⟨?_,done L a w hI hall⟩;unfold Region.ready;rw [List.filter_eq_nil_iff];intro i hi;rw [hall i (List.mem_range.1 hi)];simp
 | fuel+1,L,a,w,hL,hc,hI=>by
   refine⟨fun h=>done L a w hI (dG L hL hord h),fun i hi=>?_⟩;unfold Region.ready at hi;rw [List.mem_filter]at hi;obtain⟨h1,h2⟩:=hi;have h1:=List.mem_range.1 h1;rw [Bool.and_eq_true,Array.getElem?_eq_getElem h1,Option.map_some,Option.getD_some,Array.all_eq_true_iff_forall_mem]at h2;obtain⟨h3,h4⟩:=h2;have h3:L.getD i true=false:=by simpa using h3
   have hs:=step L a w i _ hI (Array.getElem?_eq_getElem h1) h3 (fun e he hb=>by
    have:=h4 e he
    simpa [hb]using this)
   have hi':i<L.size:=by omega
   have hLi:L.toList[i]'(by simpa using hi')=false:=by
    have:L[i]=false:=by simpa [Array.getD,hi']using h3
    simpa using this
   have hcnt:=dv (l:=L.toList) (by simpa using hi') hLi
   have next:∀ a w,Inv (L.setIfInBounds i true) a w->wpAny P .any ops Q fuel (L.setIfInBounds i true) a w:=fun a w h =>
    lm Inv hord step done fuel _ a w (by simpa using hL) (by rw [Array.toList_setIfInBounds];omega) h
   unfold wpOp;rw [Array.getElem?_eq_getElem h1];simp only;split at hs
   ·rename_i hw
    rw [if_pos hw];exact .inl (Oper.wp_mono next hs)
   ·rename_i hw
    rw [if_neg hw];exact next _ _ hs
theorem ck {id:Nat} {a:Act} {w:World} (hm:P.follows .mixedOrders=true) (Inv:Array Bool->Act->World->Prop) (hord:∀ (i:Nat) (o:Oper),ops[i]? = some o->∀ e ∈ o.after,e.on<i)
 (h0:Inv (Array.replicate ops.size false) a w.drew)
 (step:∀ L a w i o,Inv L a w->ops[i]? = some o->L.getD i true=false->(∀ e ∈ o.after,Region.binds .any e=true->L.getD e.on false=true) ->
  if Region.wanted o (yielded ops a.tmps)then o.wp P a w (Inv (L.setIfInBounds i true)) Q else Inv (L.setIfInBounds i true) (a.put o.dst undef) w)
 (done:∀ L a w,Inv L a w->(∀ i,i<ops.size->L.getD i true=true)->Q .normal a w):(Code.region id ops true).wp P Q a w :=
 wp_region_any hm (lm Inv hord step done ops.size _ a _ (by simp) (by simp) h0)
end
end
end Go.Proofs.YthaliljaglldjaaGreat
