/- Part of the proof. -/
import Derived.Test.YthaliljaglldjaaGreatmBQ
import Derived.Deep.CutRange
namespace Go.Proofs.YthaliljaglldjaaGreat
set_option maxHeartbeats 16000000
set_option maxRecDepth 20000
open Go.RowKit Go.ChangeMaps Go.MapKept
section
variable {w:World} {q:Nat} {M:WM} {G:Nat->Prop}
def LtW (M:WM):Prop:=∀ x ∈ M.things,∃ k h n l tg bi s fu,x.2=lt k h 0 0 n l tg bi s fu
def facOf (l:List Int) (x:Int × Th):Bool:=x.2.kind==14 && l.contains x.2.tgt
def goneTo (M:WM) (l:List Int) (i:Nat):List Int:=l ++ ((M.things.take i).filter (facOf l)).map (·.1)
def goneQ (M:WM) (l:List Int):List Int:=l ++ (M.things.filter (facOf l)).map (·.1)
def heldX (l:List Int) (x:Int × Th):Prop:=x.2.kind=14/\l.contains x.2.tgt=false/\l.contains x.1=true
def leanX (gs:List Int) (x:Int × Th):Prop:=gs.contains x.1=false/\((x.2.kind≠13/\gs.contains x.2.tgt=true)\/gs.contains x.2.bi=true)
def Drop7Post (w:World) (q:Nat) (M:WM) (G:Nat->Prop) (l:List Int) (e:Ending) (w':World):Prop :=
 (e=.returned (.int .i64 5)/\Bl w w'/\∃ r ∈ l,M.at r=none) \/
 ((∀ r ∈ l,M.at r≠none)/\e=.returned (.int .i64 72)/\Bl w w'/\∃ x ∈ M.things,heldX l x\/leanX (goneQ M l) x) \/
 ((∀ r ∈ l,M.at r≠none)/\e=.returned (.int .i64 0)/\(∀ x ∈ M.things,¬ heldX l x/\¬ leanX (goneQ M l) x)/\∃ G',IsR w' q (dropM M (goneQ M l)) G'/\Grew G w G' w')
theorem goneTo_zero (M:WM) (l:List Int):goneTo M l 0=l:=by simp [goneTo]
theorem goneTo_all (M:WM) (l:List Int):goneTo M l M.things.length=goneQ M l:=by simp [goneTo,goneQ]
theorem goneTo_succ {l:List Int} {i:Nat} {x:Int × Th} (hx:M.things[i]? = some x):goneTo M l (i+1)=if facOf l x then goneTo M l i ++ [x.1]else goneTo M l i:=by
 unfold goneTo;rw [List.take_add_one,hx];show l ++ ((M.things.take i ++ [x]).filter _).map _=_;rw [List.filter_append]
 by_cases h:facOf l x <;> simp [h]
theorem goneTo_len (M:WM) (l:List Int) (i:Nat):(goneTo M l i).length≤l.length+M.things.length:=by
 unfold goneTo;rw [List.length_append,List.length_map];have h1:=List.length_filter_le (facOf l) (M.things.take i);have h2:=List.length_take_le i M.things;have h3:(M.things.take i).length≤M.things.length:=by rw [List.length_take];exact Nat.min_le_right ..
 omega
def nextTo (M:WM) (gs:List Int) (i:Nat):List (Int × Th):=((M.things.take i).filter fun x=>!(gs.contains x.1)).map fun x=>(x.1,stayT M gs x)
theorem nextTo_all (M:WM) (gs:List Int):nextTo M gs M.things.length=(dropM M gs).things:=by simp [nextTo,dropM]
theorem nextTo_succ {gs:List Int} {i:Nat} {x:Int × Th} (hx:M.things[i]? = some x):nextTo M gs (i+1)=if gs.contains x.1 then nextTo M gs i else nextTo M gs i ++ [(x.1,stayT M gs x)]:=by
 unfold nextTo;rw [List.take_add_one,hx];show ((M.things.take i ++ [x]).filter _).map _=_;rw [List.filter_append,List.map_append]
 cases h:gs.contains x.1 with
 | true =>
   have e:[x].filter (fun x=>!(gs.contains x.1)) = []:=by simp only [List.filter_cons,List.filter_nil,h];rfl
   rw [e,if_pos rfl,List.map_nil,List.append_nil]
 | false =>
   have e:[x].filter (fun x=>!(gs.contains x.1)) = [x]:=by simp only [List.filter_cons,List.filter_nil,h];rfl
   rw [e,if_neg (by decide)];rfl
theorem nextTo_len (M:WM) (gs:List Int) (i:Nat):(nextTo M gs i).length≤M.things.length:=by
 unfold nextTo;rw [List.length_map];have h1:=List.length_filter_le (fun x:Int × Th=>!(gs.contains x.1)) (M.things.take i);have h3:(M.things.take i).length≤M.things.length:=by rw [List.length_take];exact Nat.min_le_right ..
 omega
theorem lostOf_succ {L:List (Int × Th)} {gs:List Int} {r n lo:Int} {i:Nat} {x:Int × Th} (hx:L[i]? = some x):lostOf (L.take (i+1)) gs r n lo=if gs.contains x.1 && x.2.kind==9 && x.2.tgt==r then min (lostOf (L.take i) gs r n lo+x.2.n) n else lostOf (L.take i) gs r n lo:=by
 unfold lostOf;rw [List.take_add_one,hx];show (L.take i ++ [x]).foldl _ _=_;rw [List.foldl_append];rfl
theorem row_intArg {w:World} {base:Nat} {u:Value} {xs:List Int} (h:w.ownsRow base 25 1 u xs.length (xs.map (Value.int .i64))):∃ p c,u=.slice p xs.length c/\IntArg .i64 w p xs:=by
 obtain⟨a,c,rfl,hc⟩:=row_slice h;refine⟨a,c,rfl,?_⟩
 cases xs with
 | nil=>exact .inl rfl
 | cons y ys =>
   obtain⟨g,rfl,h0⟩:=hc 0 (by simp);refine .inr ⟨g,0,rfl,World.block_lt_of_cell? _ _ (h0.trans rfl),fun j x hx=>?_⟩;have hj:=(List.getElem?_eq_some_iff.1 hx).1;obtain⟨g',e,hj'⟩:=hc j hj
   cases e
   rw [Nat.zero_add,hj',List.getElem?_map,hx];rfl
theorem append_lrefs {w:World} {ops:Array Oper} {rest:List Oper} {o:Oper} {a:Act} {Q:Exit->Act->World->Prop} (hgd:o.guard=none) (s x:Operand)
 (ho:o.op=.call { callee:=.builtin .append,args:=#[s,x],argTypes:=#[77,77] }) (base:Nat) (hs:a.eval s=.slice none 0 0) {b ob c:Nat} (l:List Int) (hx:a.eval x=.slice (some ⟨b,ob,none⟩) l.length c)
 (hc:∀ j y,l[j]? = some y->w.cell? ⟨b,ob+j,none⟩=some (.int .i64 y)) (hl:l.length≤1000000) (hbase:base≤w.heap.size)
 (h:∀ v' w',w'.ownsRow base 25 1 v' l.length (l.map (Value.int .i64))->Bl w w'->wpList Tryz.prog ops Q rest (a.put o.dst v') w'):wpList Tryz.prog ops Q (o :: rest) a w:=by
 obtain⟨i,hi,hz,h1,h2⟩:=info_parts infoRef;refine wpList_plain hgd fun _ hK=>wp_append_at s x 77 ho base 25 i (.int .i64 0) 1 8 Tryz.underlying77 hi hz h1 h2 rfl (by decide) _ 0 [] hs (World.ownsRow_nil _ _ _ _) ⟨b,ob,none⟩ l.length c (l.map (Value.int .i64)) hx (by simp) (fun j u hj=>?_) (fun u hu=>?_) (by unfold maxLen;omega) (by omega) hbase fun v' w' r1 r2 r3=>hK _ _ (h v' w' (by simpa using r1) ⟨r2.os,r2.tape,r2.output,r2.size,fun k hk=>r2.block k hk (by intro e;cases e)⟩)
 ·rw [List.getElem?_map]at hj
  cases e:l[j]? with
  | none=>rw [e]at hj;cases hj
  | some y=>rw [e]at hj;cases hj;rw [Addr.add_lit];exact hc j y e
 ·obtain⟨y,-,rfl⟩:=List.mem_map.1 hu;rfl
theorem RowE.keeps_ {w w':World} {base:Nat} {u:Value} {l:List (Int × Th)} {S:Nat->Prop} (h:RowE w base (fun _=>False) u l) (hk:Keeps S w w') (hS:∀ b,u.ownBlock=some b->¬ S b):RowE w' base (fun _=>False) u l :=
 ⟨ownsRow_keeps h.row hk hS,fun x hx=>((h.deep x hx).keeps hk fun _ hb _=>hb.1.elim).mono fun _ hb=>hb.1⟩
theorem ownsRow_base {w:World} {base base' k n:Nat} {e:TypeId} {u:Value} {xs:List Value} (h:w.ownsRow base e k u n xs) (hb:base'≤base):w.ownsRow base' e k u n xs :=
 ⟨h.1,h.2.imp id fun⟨g,cap,cur,e1,e2,e3⟩=>⟨g,cap,cur,e1,Nat.le_trans hb e2,e3⟩⟩
theorem stay_lt (gs:List Int) (xr k h n l tg bi s:Int) (fu:Bool):stayT M gs (xr,lt k h 0 0 n l tg bi s fu)=lt k h 0 0 n (if k==8 then lostOf M.things gs xr n l else l) (if k==13 && gs.contains tg then 0 else tg) bi s fu:=rfl
theorem dropM_ltW (h:LtW M) (gs:List Int):LtW (dropM M gs):=fun x hx=>by
 obtain⟨y,hy,rfl⟩:=List.mem_map.1 (show x ∈ (M.things.filter _).map _ from hx);obtain⟨k,hh,n,l,tg,bi,s,fu,e⟩:=h y (List.mem_filter.1 hy).1;obtain⟨y1,y2⟩:=y;obtain rfl:y2=_:=e;exact⟨_,_,_,_,_,_,_,_,stay_lt gs y1 k hh n l tg bi s fu⟩
attribute [local go_sem ↓] execOp_ldE execOp_stE in
theorem drop7_W (hR:IsR w q M G) (hN:ROk M) (hL:LtW M) (hbd:∀ x ∈ M.things,(0≤x.2.n/\x.2.n≤9007199254740992)/\0≤x.2.lost/\x.2.lost≤9007199254740992) {bL oL c:Nat} {ls:List Int} (hl:ls.length≤1000) (hb:bL<w.heap.size)
 (hc:∀ j x,ls[j]? = some x->w.cell? ⟨bL,oL+j,none⟩=some (.int .i64 x)) :
 Calls Tryz.prog 106 #[.pointer (some ⟨q,0,none⟩),.slice (some ⟨bL,oL,none⟩) ls.length c] w (Drop7Post w q M G ls):=by
 have HK:Hid (∀ w',Bl w w'->∀ r,Calls Tryz.prog 147 #[.pointer (some ⟨q,0,none⟩),.int .i64 r] w' fun e w''=>e=.returned (.int .i64 (at7 M r).kind)/\Bl w' w''):=fun w' hb r=>kind7_W (hR.below hb) hN.len r hN.kd
 have HKn:Hid (∀ r,(M.at r=none->(at7 M r).kind=0)/\(M.at r≠none->(at7 M r).kind≠0)):=fun r=>by
  unfold at7
  cases e:M.at r with
  | none=>exact⟨fun _=>rfl,fun h=>absurd rfl h⟩
  | some t=>exact⟨fun h=>(by cases h),fun _=>by have:=(hN.cell _ (at_mem e)).2.1;show t.kind≠0;have:1≤t.kind:=this;omega⟩
 have HT:Hid (∀ x ∈ M.things,(∃ k h n l tg bi s fu,x.2=lt k h 0 0 n l tg bi s fu)/\IntKind.i64.wrap x.2.kind=x.2.kind/\1≤x.2.kind/\(0≤x.2.n/\x.2.n≤9007199254740992)/\0≤x.2.lost/\x.2.lost≤9007199254740992):=fun x hx=>⟨hL x hx,by have:=(hN.cell x hx).2;simp [IntKind.wrap,IntKind.signed,IntKind.bits];omega,(hN.cell x hx).2.1,hbd x hx⟩;have HLW:Hid (LtW (dropM M (goneQ M ls))):=dropM_ltW hL _;have HR0:Hid (∀ b,G b->b<w.heap.size):=hR.lt;obtain⟨sP,sC,sT,sM,hV⟩:=hR;obtain⟨m,hm⟩:∃ m,m=M.things.length:=⟨_,rfl⟩;obtain⟨ml,hml⟩:∃ m,m=ls.length:=⟨_,rfl⟩
 obtain⟨p0,c0,hsT⟩:∃ p c,sT=.slice p m c:=by
  obtain⟨h1,⟨rfl,h0⟩ | ⟨g,cap,cur,rfl,-⟩⟩:=hV.rt
  ·exact⟨none,0,by rw [hm,h0]⟩
  ·exact⟨_,_,by rw [hm]⟩
 subst hsT;have HV:=(show Hid (RVw w q M G sP sC (.slice p0 m c0) sM)from hV);have HN:Hid (m=M.things.length/\m≤100000/\ml=ls.length/\ml≤1000):=⟨hm,by have:=hN.len;omega,hml,by omega⟩
 have HA:Hid (∀ w',Bl w w'->(∀ j x,ls[j]? = some x->w'.cell? ⟨bL,oL+j,none⟩=some (.int .i64 x))/\∀ r,Calls Tryz.prog 196 #[.slice (some ⟨bL,oL,none⟩) ml c,.int .i64 r] w' fun e w''=>e=.returned (.bool (inB ls r))/\Bl w' w''):=fun w' hb'=>by
  have h1:∀ j x,ls[j]? = some x->w'.cell? ⟨bL,oL+j,none⟩=some (.int .i64 x):=fun j x hx=>(hb'.cell (p:=⟨bL,oL+j,none⟩) hb).trans (hc j x hx);refine⟨h1,fun r=>?_⟩;rw [hml];exact in7_W (.inr ⟨bL,oL,rfl,Nat.lt_of_lt_of_le hb hb'.size,h1⟩) (by omega) r
 rw [<- hml];clear hV hm hml hN hL hbd hl hb hc
 go_enter Tryz.func106,Tryz.ntmps106
 go_wp2_with fail
 go_loopw [5] (fun vi wr=>∃ i:Nat,vi=.int .i64 i/\i≤ml/\Hid (Bl w wr/\∀ r ∈ ls.take i,M.at r≠none)) (fun vi _=>ml - (intOf vi).toNat)
 case atStart=>exact⟨0,rfl,Nat.zero_le _,Below.refl _ _,fun r h=>by simp at h⟩
 case round =>
  obtain⟨i,rfl,hi,HB⟩:=hrel
  by_cases hin:i<ml
  ·have hiz:(i:Int)<(ml:Int):=by omega
   have hi0:(0:Int)≤(i:Int):=by omega
   obtain⟨x,hx⟩:∃ x,ls[i]? = some x:=⟨_,List.getElem?_eq_getElem (by have:=HN.out.2.2.1;omega)⟩;have k0:wr.cell? ⟨bL,oL+i,none⟩=some (.int .i64 x):=(HA.out wr HB.out.1).1 i x hx;have hwi:wrap64 ((i:Int)+1)=(i:Int)+1:=by have:=HN.out.2.2.2;unfold wrap64;omega
   have HC:=(show Hid (Calls Tryz.prog 147 #[.pointer (some ⟨q,0,none⟩),.int .i64 x] wr fun e w''=>e=.returned (.int .i64 (at7 M x).kind)/\Bl wr w'')from HK.out wr HB.out.1 x);have HX:Hid (x ∈ ls/\ls.take (i+1)=ls.take i ++ [x]):=⟨List.mem_of_getElem? hx,by rw [List.take_add_one,hx];rfl⟩;obtain⟨kd,hkd⟩:∃ kd,kd=(at7 M x).kind:=⟨_,rfl⟩;rw [<- hkd]at HC;have HKD:=(show Hid (kd=(at7 M x).kind)from hkd);clear hx hkd
   by_cases h0:M.at x=none
   ·have hkz:kd=0:=by rw [HKD.out];exact(HKn.out x).1 h0
    subst hkz;have HX0:Hid (∃ r ∈ ls,M.at r=none):=⟨x,HX.out.1,h0⟩;clear h0 HKD
    go_wp2_with fail
    refine Calls.mono HC.out ?_;rintro e w2 ⟨rfl,hb2⟩;have H2:Hid (Bl w w2):=HB.out.1.trans (hb2.mono HB.out.1.size);clear hb2 HC k0
    go_wp2_with fail
    go_ret
    exact .inl ⟨rfl,H2.out,HX0.out⟩
   ·have hkz:(kd==0)=false:=by
     have:=(HKn.out x).2 h0;rw [<- HKD.out]at this
     simpa using this
    have H0:Hid (M.at x≠none):=h0;clear h0 HKD
    go_wp2_with fail
    refine Calls.mono HC.out ?_;rintro e w2 ⟨rfl,hb2⟩
    have H2:Hid (Bl w w2/\∀ r ∈ ls.take (i+1),M.at r≠none):=⟨HB.out.1.trans (hb2.mono HB.out.1.size),fun r hr=>by
     rw [HX.out.2]at hr
     rcases List.mem_append.1 hr with h | h
     ·exact HB.out.2 r h
     ·rw [List.mem_singleton.1 h];exact H0.out⟩
    clear hb2 HC k0
    go_wp2_with fail
    go_roundw
    case rel=>exact⟨i+1,by go_num,by omega,H2.out⟩
    case measure=>rw [hwi];clear hwi;simp [intOf];omega
  have hiz:¬ (i:Int)<(ml:Int):=by omega
  obtain rfl:i=ml:=by omega
  have hkk:¬ (i:Int)<(i:Int):=by omega
  have HALL:Hid (∀ r ∈ ls,M.at r≠none):=fun r hr=>HB.out.2 r (by rw [HN.out.2.2.1,List.take_length];exact hr);have HS:Hid (w.heap.size≤wr.heap.size):=HB.out.1.size;have HCl:=(show Hid (∀ j x,ls[j]? = some x->wr.cell? ⟨bL,oL+j,none⟩=some (.int .i64 x))from(HA.out wr HB.out.1).1);have Hle:Hid (i=ls.length/\ls.length≤1000000):=⟨HN.out.2.2.1,by have:=HN.out;omega⟩
  go_wp2_with (first
   | (at_builtin;refine append_lrefs rfl _ _ rfl w.heap.size rfl (b:=bL) (ob:=oL) (c:=c) ls (by rw [<- Hle.out.1];rfl) HCl.out Hle.out.2 HS.out ?_;intro v' w5 hown' hb5))
  have H5:Hid (Bl w w5/\w5.ownsRow w.heap.size 25 1 v' (goneTo M ls 0).length ((goneTo M ls 0).map (Value.int .i64))):=⟨HB.out.1.trans (hb5.mono HB.out.1.size),by rw [goneTo_zero];exact hown'⟩;clear hown' hb5 HB HS HCl Hle hiz hkk hi hin
  go_wp2_with fail
  go_loopw [6,7] (fun vg vi wr=>∃ (j:Nat) (u:Value),u=vg/\vi=.int .i64 j/\j≤m/\Hid (Bl w wr/\wr.ownsRow w.heap.size 25 1 u (goneTo M ls j).length ((goneTo M ls j).map (Value.int .i64))/\∀ y ∈ M.things.take j,¬ heldX ls y)) (fun _ vi _=>m - (intOf vi).toNat)
  case atStart=>exact⟨0,_,rfl,rfl,Nat.zero_le _,H5.out.1,H5.out.2,fun y h=>by simp at h⟩
  case round =>
   clear H5;obtain⟨j,u,rfl,rfl,hj,HB⟩:=hrel;have HV1:=(show Hid _ from HV.out.below HB.out.1);have d2:wr.cell? ⟨q,2,none⟩=some (.slice p0 m c0):=by rw [cell_blk HV1.out.blk];rfl
   by_cases hjn:j<m
   ·have hiz:(j:Int)<(m:Int):=by omega
    have hi0:(0:Int)≤(j:Int):=by omega
    have hwi:wrap64 ((j:Int)+1)=(j:Int)+1:=by have:=HN.out;unfold wrap64;omega
    obtain⟨⟨xr,xt⟩,hx⟩:∃ x,M.things[j]? = some x:=⟨_,List.getElem?_eq_getElem (by have:=HN.out.1;omega)⟩;obtain⟨⟨k,h,n,l,tg,bi,s,fu,hxe⟩,hk1,hk2,hbd⟩:=HT.out _ (List.mem_of_getElem? hx);obtain rfl:xt=lt k h 0 0 n l tg bi s fu:=hxe;obtain⟨g,c',hs,hg,hc⟩:=HV1.out.ent hx;have hp0:p0=some ⟨g,0,none⟩:=by injection hs
    subst hp0;have hlde:=ldE_mid (w:=wr) (b:=g) (o:=j * 17) (cs:=#[.int .i64 xr,.int .u8 k,.int .i64 h,.int .u8 0,.int .i64 0,.string ⟨#[]⟩,.slice none 0 0,.int .i64 0,.slice none 0 0,.int .i64 n,.int .i64 l,.int .i64 tg,.int .i64 bi,.int .u8 s,.bool fu,.slice none 0 0,.slice none 0 0]) rfl (fun y v hv=>hc y v (by rw [<- hv];exact List.getElem?_toArray.symm));obtain⟨w6,hst,hb6,hg6,-⟩:=boxed_ent wr #[.int .i64 xr,.int .u8 k,.int .i64 h,.int .u8 0,.int .i64 0,.string ⟨#[]⟩,.slice none 0 0,.int .i64 0,.slice none 0 0,.int .i64 n,.int .i64 l,.int .i64 tg,.int .i64 bi,.int .u8 s,.bool fu,.slice none 0 0,.slice none 0 0] rfl (by simp [go_sem]);have HSx:=(show Hid _ from goneTo_succ (l:=ls) hx);have HX:Hid (M.things.take (j+1)=M.things.take j ++ [(xr,lt k h 0 0 n l tg bi s fu)]/\(xr,lt k h 0 0 n l tg bi s fu) ∈ M.things):=⟨by rw [List.take_add_one,hx];rfl,List.mem_of_getElem? hx⟩;have k0:w6.cell? ⟨wr.heap.size,0,none⟩=some (.int .i64 xr):=by rw [cell_blk hg6];rfl
    have k1:w6.cell? ⟨wr.heap.size,1,none⟩=some (.int .u8 k):=by rw [cell_blk hg6];rfl
    have k11:w6.cell? ⟨wr.heap.size,11,none⟩=some (.int .i64 tg):=by rw [cell_blk hg6];rfl
    have hwk:IntKind.i64.wrap k=k:=hk1;have H6:Hid (Bl w w6/\w6.ownsRow w.heap.size 25 1 u (goneTo M ls j).length ((goneTo M ls j).map (Value.int .i64))/\w6.heap[wr.heap.size]? = some (.cells #[.int .i64 xr,.int .u8 k,.int .i64 h,.int .u8 0,.int .i64 0,.string ⟨#[]⟩,.slice none 0 0,.int .i64 0,.slice none 0 0,.int .i64 n,.int .i64 l,.int .i64 tg,.int .i64 bi,.int .u8 s,.bool fu,.slice none 0 0,.slice none 0 0] 117 (0,0))/\∀ y ∈ M.things.take j,¬ heldX ls y):=⟨HB.out.1.trans (hb6.mono HB.out.1.size),ownsRow_on HB.out.2.1 hb6,hg6,HB.out.2.2⟩;clear hx hs hg hc hb6 hg6 hk1 hk2 hbd HB HV1
    by_cases h14:k=14
    rotate_left
    ·have hkb:(k != 14)=true:=by simpa using h14
     have H7:Hid (Bl w w6/\w6.ownsRow w.heap.size 25 1 u (goneTo M ls (j+1)).length ((goneTo M ls (j+1)).map (Value.int .i64))/\∀ y ∈ M.things.take (j+1),¬ heldX ls y):=⟨H6.out.1,by rw [HSx.out,if_neg (by simp [facOf,h14])];exact H6.out.2.1,fun y hy=>by
      rw [HX.out.1]at hy
      rcases List.mem_append.1 hy with hy | hy
      ·exact H6.out.2.2.2 y hy
      ·rw [List.mem_singleton.1 hy];exact fun hh=>h14 hh.1⟩
     clear h14 HSx HX H6
     go_wp2_with fail
     go_roundw
     case rel=>exact⟨j+1,_,rfl,by go_num,by omega,H7.out⟩
     case measure=>rw [hwi];clear hwi;simp [intOf];omega
    subst h14;have HC:=(show Hid (∀ r,Calls Tryz.prog 196 #[.slice (some ⟨bL,oL,none⟩) i c,.int .i64 r] w6 fun e w''=>e=.returned (.bool (inB ls r))/\Bl w6 w'')from(HA.out w6 H6.out.1).2);obtain⟨b1,hb1⟩:∃ b,b=inB ls tg:=⟨_,rfl⟩;have HB1:Hid (b1=ls.contains tg):=hb1;clear hb1
    go_wp2_with fail
    refine(HC.out tg).mono ?_;rw [show inB ls tg=b1 from HB1.out.symm];rintro e w7 ⟨rfl,hb7⟩;have k0:w7.cell? ⟨wr.heap.size,0,none⟩=some (.int .i64 xr):=by rw [cell_blk (below_blk hb7 H6.out.2.2.1)];rfl
    have H7:Hid (Bl w w7/\w7.ownsRow w.heap.size 25 1 u (goneTo M ls j).length ((goneTo M ls j).map (Value.int .i64))/\∀ y ∈ M.things.take j,¬ heldX ls y):=⟨H6.out.1.trans (hb7.mono H6.out.1.size),ownsRow_on H6.out.2.1 hb7,H6.out.2.2.2⟩;clear hb7 HC H6
    cases b1 with
    | true =>
      have HP:Hid (goneTo M ls (j+1)=goneTo M ls j ++ [xr]):=HSx.out.trans (if_pos (by show ((14:Int)==14 && ls.contains tg)=true;rw [<- HB1.out];rfl));have HLn:Hid (((goneTo M ls j).length:Int)≤1099511627777):=by have:=goneTo_len M ls j;have:=HN.out;show _≤_;omega
      have HZ:Hid (w.heap.size≤w7.heap.size):=H7.out.1.size
      go_wp2_with (first
       | (at_builtin;refine append_ref rfl _ _ rfl w.heap.size _ (goneTo M ls j) rfl H7.out.2.1 xr rfl HLn HZ.out ?_;intro v' w8 hown' hg8 hb8))
      have H8:Hid (Bl w w8/\w8.ownsRow w.heap.size 25 1 v' (goneTo M ls (j+1)).length ((goneTo M ls (j+1)).map (Value.int .i64))/\∀ y ∈ M.things.take (j+1),¬ heldX ls y):=⟨H7.out.1.trans hb8,by rw [HP.out];exact hown',fun y hy=>by
       rw [HX.out.1]at hy
       rcases List.mem_append.1 hy with hy | hy
       ·exact H7.out.2.2 y hy
       ·rw [List.mem_singleton.1 hy];intro hh;have:=hh.2.1.symm.trans HB1.out.symm
        cases this⟩
      clear hown' hg8 hb8 H7 HP HLn HZ HSx HX HB1
      go_wp2_with fail
      go_roundw
      case rel=>exact⟨j+1,_,rfl,by go_num,by omega,H8.out⟩
      case measure=>rw [hwi];clear hwi;simp [intOf];omega
    | false =>
      have HC:=(show Hid (∀ r,Calls Tryz.prog 196 #[.slice (some ⟨bL,oL,none⟩) i c,.int .i64 r] w7 fun e w''=>e=.returned (.bool (inB ls r))/\Bl w7 w'')from(HA.out w7 H7.out.1).2);obtain⟨b2,hb2⟩:∃ b,b=inB ls xr:=⟨_,rfl⟩;have HB2:Hid (b2=ls.contains xr):=hb2;clear hb2
      go_wp2_with fail
      refine(HC.out xr).mono ?_;rw [show inB ls xr=b2 from HB2.out.symm];rintro e w8 ⟨rfl,hb8⟩;have H8:Hid (Bl w w8/\w8.ownsRow w.heap.size 25 1 u (goneTo M ls j).length ((goneTo M ls j).map (Value.int .i64))/\∀ y ∈ M.things.take j,¬ heldX ls y):=⟨H7.out.1.trans (hb8.mono H7.out.1.size),ownsRow_on H7.out.2.1 hb8,H7.out.2.2⟩;clear hb8 HC H7
      cases b2 with
      | true =>
        have HF:Hid (Drop7Post w q M G ls (.returned (.int .i64 72)) w8):=.inr (.inl ⟨HALL.out,rfl,H8.out.1,_,HX.out.2,.inl ⟨rfl,HB1.out.symm,HB2.out.symm⟩⟩);clear H8 HX HSx HB1 HB2
        go_wp2_with fail
        go_ret
        exact HF.out
      | false =>
        have H9:Hid (Bl w w8/\w8.ownsRow w.heap.size 25 1 u (goneTo M ls (j+1)).length ((goneTo M ls (j+1)).map (Value.int .i64))/\∀ y ∈ M.things.take (j+1),¬ heldX ls y):=⟨H8.out.1,by rw [HSx.out,if_neg (by show ¬ ((14:Int)==14 && ls.contains tg)=true;rw [<- HB1.out];decide)];exact H8.out.2.1,fun y hy=>by
         rw [HX.out.1]at hy
         rcases List.mem_append.1 hy with hy | hy
         ·exact H8.out.2.2 y hy
         ·rw [List.mem_singleton.1 hy];intro hh;have:=hh.2.2.symm.trans HB2.out.symm
          cases this⟩
        clear H8 HX HSx HB1 HB2
        go_wp2_with fail
        go_roundw
        case rel=>exact⟨j+1,_,rfl,by go_num,by omega,H9.out⟩
        case measure=>rw [hwi];clear hwi;simp [intOf];omega
   have hiz:¬ (j:Int)<(m:Int):=by omega
   obtain rfl:j=m:=by omega
   have hkk:¬ (j:Int)<(j:Int):=by omega
   obtain⟨gs,hgs⟩:∃ gs,gs=goneQ M ls:=⟨_,rfl⟩;have hg0:goneTo M ls j=gs:=by rw [HN.out.1,goneTo_all,hgs]
   rw [<- hgs]at HLW;have HG:Hid (gs=goneQ M ls):=hgs;have hrow:=HB.out.2.1;rw [hg0]at hrow;obtain⟨pg,cg,rfl,hIA⟩:=row_intArg hrow;obtain⟨mg,hmg⟩:∃ m,m=gs.length:=⟨_,rfl⟩;have HNH:Hid (∀ y ∈ M.things,¬ heldX ls y):=fun y hy=>HB.out.2.2 y (by rw [HN.out.1,List.take_length];exact hy);have hgl:gs.length≤1000000:=by have:=goneTo_len M ls j;rw [hg0]at this;have:=HN.out;omega
   have HI:Hid (∀ w',Bl wr w'->∀ r,Calls Tryz.prog 196 #[.slice pg mg cg,.int .i64 r] w' fun e w''=>e=.returned (.bool (inB gs r))/\Bl w' w''):=fun w' hb' r=>by
    rw [hmg];refine in7_W ?_ hgl r
    rcases hIA with h | ⟨b,o,h1,h2,h3⟩
    ·exact .inl h
    ·exact .inr ⟨b,o,h1,Nat.lt_of_lt_of_le h2 hb'.size,fun y x hx=>(hb'.cell (p:=⟨b,o+y,none⟩) h2).trans (h3 y x hx)⟩
   have H3:Hid (Bl w wr):=HB.out.1;rw [<- hmg];clear hgs hg0 hrow hIA hmg hgl HB HV1 HA HK HKn;obtain⟨w3,hw3⟩:∃ w3,w3=wr:=⟨_,rfl⟩;rw [<- hw3]at HI H3;have d2':=d2;rw [<- hw3]at d2' ⊢;clear d2 hw3 wr;have d2:=d2';clear d2'
   go_wp2_with fail
   go_loopw [9] (fun vi wr=>∃ j2:Nat,vi=.int .i64 j2/\j2≤j/\Hid (Bl w3 wr/\∀ y ∈ M.things.take j2,¬ leanX gs y)) (fun vi _=>j - (intOf vi).toNat)
   case atStart=>exact⟨0,rfl,Nat.zero_le _,Below.refl _ _,fun y h=>by simp at h⟩
   case round =>
    clear d2;obtain⟨j2,rfl,hj2,HB⟩:=hrel;have HBw:Hid (Bl w wr):=H3.out.trans (HB.out.1.mono H3.out.size);have HV1:=(show Hid _ from HV.out.below HBw.out);have d2:wr.cell? ⟨q,2,none⟩=some (.slice p0 j c0):=by rw [cell_blk HV1.out.blk];rfl
    by_cases hjn:j2<j
    ·have hiz:(j2:Int)<(j:Int):=by omega
     have hi0:(0:Int)≤(j2:Int):=by omega
     have hwi:wrap64 ((j2:Int)+1)=(j2:Int)+1:=by have:=HN.out;unfold wrap64;omega
     obtain⟨⟨xr,xt⟩,hx⟩:∃ x,M.things[j2]? = some x:=⟨_,List.getElem?_eq_getElem (by have:=HN.out.1;omega)⟩;obtain⟨⟨k,h,n,l,tg,bi,s,fu,hxe⟩,hk1,hk2,hbd⟩:=HT.out _ (List.mem_of_getElem? hx);obtain rfl:xt=lt k h 0 0 n l tg bi s fu:=hxe;obtain⟨g,c',hs,hg,hc⟩:=HV1.out.ent hx;have hp0:p0=some ⟨g,0,none⟩:=by injection hs
     subst hp0;have hlde:=ldE_mid (w:=wr) (b:=g) (o:=j2 * 17) (cs:=#[.int .i64 xr,.int .u8 k,.int .i64 h,.int .u8 0,.int .i64 0,.string ⟨#[]⟩,.slice none 0 0,.int .i64 0,.slice none 0 0,.int .i64 n,.int .i64 l,.int .i64 tg,.int .i64 bi,.int .u8 s,.bool fu,.slice none 0 0,.slice none 0 0]) rfl (fun y v hv=>hc y v (by rw [<- hv];exact List.getElem?_toArray.symm));obtain⟨w6,hst,hb6,hg6,-⟩:=boxed_ent wr #[.int .i64 xr,.int .u8 k,.int .i64 h,.int .u8 0,.int .i64 0,.string ⟨#[]⟩,.slice none 0 0,.int .i64 0,.slice none 0 0,.int .i64 n,.int .i64 l,.int .i64 tg,.int .i64 bi,.int .u8 s,.bool fu,.slice none 0 0,.slice none 0 0] rfl (by simp [go_sem]);have HX:Hid (M.things.take (j2+1)=M.things.take j2 ++ [(xr,lt k h 0 0 n l tg bi s fu)]/\(xr,lt k h 0 0 n l tg bi s fu) ∈ M.things):=⟨by rw [List.take_add_one,hx];rfl,List.mem_of_getElem? hx⟩;have k0:w6.cell? ⟨wr.heap.size,0,none⟩=some (.int .i64 xr):=by rw [cell_blk hg6];rfl
     have hwk:IntKind.i64.wrap k=k:=hk1;have H6:Hid (Bl w3 w6/\w6.heap[wr.heap.size]? = some (.cells #[.int .i64 xr,.int .u8 k,.int .i64 h,.int .u8 0,.int .i64 0,.string ⟨#[]⟩,.slice none 0 0,.int .i64 0,.slice none 0 0,.int .i64 n,.int .i64 l,.int .i64 tg,.int .i64 bi,.int .u8 s,.bool fu,.slice none 0 0,.slice none 0 0] 117 (0,0))/\∀ y ∈ M.things.take j2,¬ leanX gs y):=⟨HB.out.1.trans (hb6.mono HB.out.1.size),hg6,HB.out.2⟩;have HC:=(show Hid (∀ r,Calls Tryz.prog 196 #[.slice pg mg cg,.int .i64 r] w6 fun e w''=>e=.returned (.bool (inB gs r))/\Bl w6 w'')from HI.out w6 H6.out.1);obtain⟨b1,hb1⟩:∃ b,b=inB gs xr:=⟨_,rfl⟩;have HB1:Hid (b1=gs.contains xr):=hb1;have H00:Hid (w3.heap.size≤wr.heap.size):=HB.out.1.size;clear hx hs hg hc hb6 hg6 hk1 hk2 hbd HB HV1 HBw hb1
     go_wp2_with fail
     refine(HC.out xr).mono ?_;rw [show inB gs xr=b1 from HB1.out.symm];rintro e w7 ⟨rfl,hb7⟩;obtain⟨B5,hB5⟩:∃ B,B=wr.heap.size:=⟨_,rfl⟩;clear k0 hst;rw [<- hB5]at H6 H00 ⊢;clear hB5;have hg7:=below_blk hb7 H6.out.2.1;have H7:Hid (Bl w3 w7/\w7.heap[B5]? = some (.cells #[.int .i64 xr,.int .u8 k,.int .i64 h,.int .u8 0,.int .i64 0,.string ⟨#[]⟩,.slice none 0 0,.int .i64 0,.slice none 0 0,.int .i64 n,.int .i64 l,.int .i64 tg,.int .i64 bi,.int .u8 s,.bool fu,.slice none 0 0,.slice none 0 0] 117 (0,0))/\∀ y ∈ M.things.take j2,¬ leanX gs y):=⟨H6.out.1.trans (hb7.mono H6.out.1.size),hg7,H6.out.2.2⟩
     have hlw:=loadWhat_mid (w:=w7) (b:=B5) (o:=1) (t:=lt k h 0 0 n l tg bi s fu) (fun y v hv=>by
      rw [cell_blk hg7,Nat.add_comm,← hv,List.getElem?_toArray,thc_lt,List.getElem?_toArray]
      rfl)
     clear hb7 HC H6 hg7
     cases b1 with
     | true =>
       have H8:Hid (Bl w3 w7/\∀ y ∈ M.things.take (j2+1),¬ leanX gs y):=⟨H7.out.1,fun y hy=>by
        rw [HX.out.1]at hy
        rcases List.mem_append.1 hy with hy | hy
        ·exact H7.out.2.2 y hy
        ·rw [List.mem_singleton.1 hy];intro hh;have:=hh.1.symm.trans HB1.out.symm
         cases this⟩
       clear H7 HX HB1 hlw
       go_wp2_with fail
       go_roundw
       case rel=>exact⟨j2+1,by go_num,by omega,H8.out⟩
       case measure=>rw [hwi];clear hwi;simp [intOf];omega
     | false =>
       have HRf:=(show Hid _ from refs7_lt w7 k h n l tg bi s fu)
       go_wp2_with fail
       refine Calls.mono HRf.out ?_;rintro e w8 ⟨u8,rfl,hu8,hb8⟩;have hg8:=below_blk hb8 H7.out.2.1;have k1:w8.cell? ⟨B5,1,none⟩=some (.int .u8 k):=by rw [cell_blk hg8];rfl
       have k11:w8.cell? ⟨B5,11,none⟩=some (.int .i64 tg):=by rw [cell_blk hg8];rfl
       obtain⟨B6,hB6⟩:∃ B,B=B5+1:=⟨_,rfl⟩;have HB6:Hid (B6=B5+1/\w3.heap.size≤B6):=⟨hB6,by have:=H00.out;omega⟩;have H8:Hid (Bl w3 w8/\w8.heap[B5]? = some (.cells #[.int .i64 xr,.int .u8 k,.int .i64 h,.int .u8 0,.int .i64 0,.string ⟨#[]⟩,.slice none 0 0,.int .i64 0,.slice none 0 0,.int .i64 n,.int .i64 l,.int .i64 tg,.int .i64 bi,.int .u8 s,.bool fu,.slice none 0 0,.slice none 0 0] 117 (0,0))/\(∀ y ∈ M.things.take j2,¬ leanX gs y)/\RefRow w8 B6 u8 []):=⟨H7.out.1.trans (hb8.mono H7.out.1.size),hg8,H7.out.2.2,⟨hu8.1,hu8.2.imp id fun⟨g',cap,cur,e1,e2,e3⟩=>⟨g',cap,cur,e1,by have:=blk_lt H7.out.2.1;omega,e3⟩⟩⟩;clear hu8 hb8 hg8 H7 HRf hlw hB6
       go_upto_if 96 with fail
       go_cut [11]from 69 to 120 (fun v wx=>∃ u,u=v/\Hid (Bl w3 wx/\wx.heap[B5]? = some (.cells #[.int .i64 xr,.int .u8 k,.int .i64 h,.int .u8 0,.int .i64 0,.string ⟨#[]⟩,.slice none 0 0,.int .i64 0,.slice none 0 0,.int .i64 n,.int .i64 l,.int .i64 tg,.int .i64 bi,.int .u8 s,.bool fu,.slice none 0 0,.slice none 0 0] 117 (0,0))/\RefRow wx B6 u (if k=13 then []else [tg])))
       case first =>
        by_cases h13:k=13
        ·have hkb:(k != 13)=false:=by simpa using h13
         have H9:Hid (Bl w3 w8/\w8.heap[B5]? = some (.cells #[.int .i64 xr,.int .u8 k,.int .i64 h,.int .u8 0,.int .i64 0,.string ⟨#[]⟩,.slice none 0 0,.int .i64 0,.slice none 0 0,.int .i64 n,.int .i64 l,.int .i64 tg,.int .i64 bi,.int .u8 s,.bool fu,.slice none 0 0,.slice none 0 0] 117 (0,0))/\RefRow w8 B6 u8 (if k=13 then []else [tg])):=⟨H8.out.1,H8.out.2.1,by rw [if_pos h13];exact H8.out.2.2.2⟩
         clear h13
         go_wp2_with fail
         go_meet
         case rel=>exact⟨_,rfl,H9.out⟩
        ·have hkb:(k != 13)=true:=by simpa using h13
         have HZ:Hid (B6≤w8.heap.size):=by have:=blk_lt H8.out.2.1;have:=HB6.out.1;show _≤_;omega
         have H13:Hid (¬ k=13):=h13;have HD0:Hid ((([]:List Int).length:Int)≤1099511627777):=by show _≤_;decide
         clear h13
         go_wp2_with (first
          | (at_builtin;refine append_ref rfl _ _ rfl B6 u8 [] rfl H8.out.2.2.2 tg rfl HD0 HZ.out ?_;intro v' w9 hown' hg9 hb9))
         have H9:Hid (Bl w3 w9/\w9.heap[B5]? = some (.cells #[.int .i64 xr,.int .u8 k,.int .i64 h,.int .u8 0,.int .i64 0,.string ⟨#[]⟩,.slice none 0 0,.int .i64 0,.slice none 0 0,.int .i64 n,.int .i64 l,.int .i64 tg,.int .i64 bi,.int .u8 s,.bool fu,.slice none 0 0,.slice none 0 0] 117 (0,0))/\RefRow w9 B6 v' (if k=13 then []else [tg])):=⟨H8.out.1.trans (hb9.mono HB6.out.2),(hb9.block _ (by have:=HB6.out.1;omega)).trans H8.out.2.1,by rw [if_neg H13.out];exact hown'⟩
         clear hown' hg9 hb9 HZ HD0 H13
         go_wp2_with fail
         go_meet
         case rel=>exact⟨_,rfl,H9.out⟩
       obtain⟨u9,rfl,H9⟩:=hcut;have HNL:Hid (∀ y ∈ M.things.take j2,¬ leanX gs y):=H8.out.2.2.1;generalize wc=w9 at *;have k12:w9.cell? ⟨B5,12,none⟩=some (.int .i64 bi):=by rw [cell_blk H9.out.2.1];rfl
       have HZ:Hid (B6≤w9.heap.size):=by have:=blk_lt H9.out.2.1;have:=HB6.out.1;show _≤_;omega
       have HD0:Hid (((if k=13 then []else [tg]:List Int).length:Int)≤1099511627777):=by show _≤_;split <;> simp
       clear H8 k1 k11;refine ‹∀ (a:Act) (w:World),Code.wp Tryz.prog _ _ a w->_› _ _ ?_
       go_wp2_with (first
        | (at_builtin;refine append_ref rfl _ _ rfl B6 u9 (if k=13 then []else [tg]) rfl H9.out.2.2 bi rfl HD0 HZ.out ?_;intro v' wA hown' hgA hbA))
       obtain⟨hs',hhs⟩:∃ x,x=(if k=13 then []else [tg]:List Int) ++ [bi]:=⟨_,rfl⟩
       rw [<- hhs]at hown';obtain⟨ph,ch,rfl,hIH⟩:=row_intArg hown';obtain⟨nh,hnh⟩:∃ n,n=hs'.length:=⟨_,rfl⟩;have HH:Hid (hs'=(if k=13 then []else [tg]:List Int) ++ [bi]/\nh=hs'.length/\nh≤2):=⟨hhs,hnh,by rw [hnh,hhs];split <;> simp⟩
       have HIH:Hid (IntArg .i64 wA ph hs'):=hIH;have H10:Hid (Bl w3 wA):=H9.out.1.trans (hbA.mono HB6.out.2);rw [<- hnh];clear hown' hgA hbA hIH hhs hnh HZ HD0 H9 k12
       go_wp2_with fail
       go_loopw [12] (fun vi wr=>∃ i4:Nat,vi=.int .i64 i4/\i4≤nh/\Hid (Bl wA wr/\∀ y ∈ hs'.take i4,gs.contains y=false)) (fun vi _=>nh - (intOf vi).toNat)
       case atStart=>exact⟨0,rfl,Nat.zero_le _,Below.refl _ _,fun y h=>by simp at h⟩
       case round =>
        obtain⟨i4,rfl,hi4,HQ⟩:=hrel
        by_cases h4:i4<nh
        ·have h4z:(i4:Int)<(nh:Int):=by omega
         have h40:(0:Int)≤(i4:Int):=by omega
         obtain⟨x,hx⟩:∃ x,hs'[i4]? = some x:=⟨_,List.getElem?_eq_getElem (by have:=HH.out.2.1;omega)⟩
         obtain⟨b,o,rfl,hcx⟩:∃ b o,ph=some ⟨b,o,none⟩/\wr.cell? ⟨b,o+i4,none⟩=some (.int .i64 x):=by
          rcases HIH.out with h | ⟨b,o,h1,h2,h3⟩
          ·rw [h]at hx;simp at hx
          ·exact⟨b,o,h1,(HQ.out.1.cell (p:=⟨b,o+i4,none⟩) h2).trans (h3 i4 x hx)⟩
         have hw4:wrap64 ((i4:Int)+1)=(i4:Int)+1:=by have:=HH.out.2.2;unfold wrap64;omega
         have HC:=(show Hid (∀ r,Calls Tryz.prog 196 #[.slice pg mg cg,.int .i64 r] wr fun e w''=>e=.returned (.bool (inB gs r))/\Bl wr w'')from HI.out wr (H10.out.trans (HQ.out.1.mono H10.out.size)));obtain⟨b4,hb4⟩:∃ b,b=inB gs x:=⟨_,rfl⟩;have HB4:Hid (b4=gs.contains x):=hb4;have HX4:Hid (hs'.take (i4+1)=hs'.take i4 ++ [x]/\x ∈ hs'):=⟨by rw [List.take_add_one,hx];rfl,List.mem_of_getElem? hx⟩;clear hb4 hx
         go_wp2_with fail
         refine(HC.out x).mono ?_;rw [show inB gs x=b4 from HB4.out.symm];rintro e wz ⟨rfl,hbz⟩;have HZ4:Hid (Bl wA wz):=HQ.out.1.trans (hbz.mono HQ.out.1.size);clear hbz HC hcx
         cases b4 with
         | true =>
           have HF:Hid (Drop7Post w q M G ls (.returned (.int .i64 72)) wz):=.inr (.inl ⟨HALL.out,rfl,H3.out.trans ((H10.out.trans (HZ4.out.mono H10.out.size)).mono H3.out.size),_,HX.out.2,.inr (by
            rw [<- HG.out];refine⟨HB1.out.symm,?_⟩;have hm:=HX4.out.2;rw [HH.out.1]at hm
            rcases List.mem_append.1 hm with hm | hm
            ·split at hm
             ·cases hm
             ·rename_i h13
              rw [List.mem_singleton.1 hm]at HB4;exact .inl ⟨h13,HB4.out.symm⟩
            ·rw [List.mem_singleton.1 hm]at HB4
             exact .inr HB4.out.symm)⟩)
           clear HQ HZ4 HX4 HB4
           go_wp2_with fail
           go_ret
           exact HF.out
         | false =>
           have HQ2:Hid (Bl wA wz/\∀ y ∈ hs'.take (i4+1),gs.contains y=false):=⟨HZ4.out,fun y hy=>by
            rw [HX4.out.1]at hy
            rcases List.mem_append.1 hy with hy | hy
            ·exact HQ.out.2 y hy
            ·rw [List.mem_singleton.1 hy];exact HB4.out.symm⟩
           clear HQ HZ4 HX4 HB4
           go_wp2_with fail
           go_roundw
           case rel=>exact⟨i4+1,by go_num,by omega,HQ2.out⟩
           case measure=>rw [hw4];clear hw4;simp [intOf];omega
        ·have h4z:¬ (i4:Int)<(nh:Int):=by omega
         obtain rfl:i4=nh:=by omega
         have hkk:¬ (i4:Int)<(i4:Int):=by omega
         have H8:Hid (Bl w3 wr/\∀ y ∈ M.things.take (j2+1),¬ leanX gs y):=⟨H10.out.trans (HQ.out.1.mono H10.out.size),fun y hy=>by
          rw [HX.out.1]at hy
          rcases List.mem_append.1 hy with hy | hy
          ·exact HNL.out y hy
          ·rw [List.mem_singleton.1 hy];intro hh;have hall:∀ z ∈ hs',gs.contains z=false:=fun z hz=>HQ.out.2 z (by rw [HH.out.2.1,List.take_length];exact hz);rw [HH.out.1]at hall
           rcases hh.2 with ⟨h13,ht⟩ | ht
           ·have:=hall tg (by rw [if_neg h13];simp);have ht:gs.contains tg=true:=ht;rw [this]at ht
            cases ht
           ·have:=hall bi (by simp);have ht:gs.contains bi=true:=ht;rw [this]at ht
            cases ht⟩
         clear HQ HH HIH H10 HX HNL HB1
         go_wp2_with fail
         go_roundw
         case rel=>exact⟨j2+1,by go_num,by omega,H8.out⟩
         case measure=>rw [hwi];clear hwi;simp [intOf];omega
    have hiz:¬ (j2:Int)<(j:Int):=by omega
    obtain rfl:j2=j:=by omega
    have hkk:¬ (j2:Int)<(j2:Int):=by omega
    have HNX:Hid (∀ y ∈ M.things,¬ leanX gs y):=fun y hy=>HB.out.2 y (by rw [HN.out.1,List.take_length];exact hy);have HBx:Hid (Bl w3 wr):=HB.out.1;clear HB HV1 HBw
    go_wp2_with fail
    go_loopw [13,14] (fun vg vi wr=>∃ (i5:Nat) (u:Value),u=vg/\vi=.int .i64 i5/\i5≤j2/\Hid (Bl w3 wr/\RowE wr w3.heap.size (fun _=>False) u (nextTo M gs i5))) (fun _ vi _=>j2 - (intOf vi).toNat)
    case atStart=>exact⟨0,_,rfl,rfl,Nat.zero_le _,HBx.out,by have:=RowE.nil wr w3.heap.size (fun _=>False);simpa [nextTo]using this⟩
    case round =>
     clear d2;obtain⟨i5,u,rfl,rfl,hi5,HB⟩:=hrel;have HBw:Hid (Bl w wr):=H3.out.trans (HB.out.1.mono H3.out.size);have HV1:=(show Hid _ from HV.out.below HBw.out);have d2:wr.cell? ⟨q,2,none⟩=some (.slice p0 j2 c0):=by rw [cell_blk HV1.out.blk];rfl
     by_cases hjn:i5<j2
     ·have hiz:(i5:Int)<(j2:Int):=by omega
      have hi0:(0:Int)≤(i5:Int):=by omega
      have hwi:wrap64 ((i5:Int)+1)=(i5:Int)+1:=by have:=HN.out;unfold wrap64;omega
      obtain⟨⟨xr,xt⟩,hx⟩:∃ x,M.things[i5]? = some x:=⟨_,List.getElem?_eq_getElem (by have:=HN.out.1;omega)⟩;obtain⟨⟨k,h,n,l,tg,bi,s,fu,hxe⟩,hk1,hk2,hbd⟩:=HT.out _ (List.mem_of_getElem? hx);obtain rfl:xt=lt k h 0 0 n l tg bi s fu:=hxe;obtain⟨g,c',hs,hg,hc⟩:=HV1.out.ent hx;have hp0:p0=some ⟨g,0,none⟩:=by injection hs
      subst hp0;have hlde:=ldE_mid (w:=wr) (b:=g) (o:=i5 * 17) (cs:=#[.int .i64 xr,.int .u8 k,.int .i64 h,.int .u8 0,.int .i64 0,.string ⟨#[]⟩,.slice none 0 0,.int .i64 0,.slice none 0 0,.int .i64 n,.int .i64 l,.int .i64 tg,.int .i64 bi,.int .u8 s,.bool fu,.slice none 0 0,.slice none 0 0]) rfl (fun y v hv=>hc y v (by rw [<- hv];exact List.getElem?_toArray.symm));obtain⟨w6,hst,hb6,hg6,-⟩:=boxed_ent wr #[.int .i64 xr,.int .u8 k,.int .i64 h,.int .u8 0,.int .i64 0,.string ⟨#[]⟩,.slice none 0 0,.int .i64 0,.slice none 0 0,.int .i64 n,.int .i64 l,.int .i64 tg,.int .i64 bi,.int .u8 s,.bool fu,.slice none 0 0,.slice none 0 0] rfl (by simp [go_sem]);have HX:Hid (nextTo M gs (i5+1)=if gs.contains xr then nextTo M gs i5 else nextTo M gs i5 ++ [(xr,stayT M gs (xr,lt k h 0 0 n l tg bi s fu))]):=nextTo_succ hx
      have HBD:Hid ((0≤n/\n≤9007199254740992)/\0≤l/\l≤9007199254740992):=hbd;have k0:w6.cell? ⟨wr.heap.size,0,none⟩=some (.int .i64 xr):=by rw [cell_blk hg6];rfl
      have hwk:IntKind.i64.wrap k=k:=hk1;have H6:Hid (Bl w3 w6/\w6.heap[wr.heap.size]? = some (.cells #[.int .i64 xr,.int .u8 k,.int .i64 h,.int .u8 0,.int .i64 0,.string ⟨#[]⟩,.slice none 0 0,.int .i64 0,.slice none 0 0,.int .i64 n,.int .i64 l,.int .i64 tg,.int .i64 bi,.int .u8 s,.bool fu,.slice none 0 0,.slice none 0 0] 117 (0,0))/\RowE w6 w3.heap.size (fun _=>False) u (nextTo M gs i5)/\(∀ b,u.ownBlock=some b->b<wr.heap.size)/\w3.heap.size≤wr.heap.size):=⟨HB.out.1.trans (hb6.mono HB.out.1.size),hg6,HB.out.2.below hb6,fun b hb=>(HB.out.2.own b hb).2,HB.out.1.size⟩;have HC:=(show Hid (∀ r,Calls Tryz.prog 196 #[.slice pg mg cg,.int .i64 r] w6 fun e w''=>e=.returned (.bool (inB gs r))/\Bl w6 w'')from HI.out w6 H6.out.1);obtain⟨b1,hb1⟩:∃ b,b=inB gs xr:=⟨_,rfl⟩;have HB1:Hid (b1=gs.contains xr):=hb1;clear hx hs hg hc hb6 hg6 hk1 hk2 hbd HB HV1 HBw hb1
      go_wp2_with fail
      refine(HC.out xr).mono ?_;rw [show inB gs xr=b1 from HB1.out.symm];rintro e w7 ⟨rfl,hb7⟩;obtain⟨B6,hB6⟩:∃ B,B=wr.heap.size:=⟨_,rfl⟩;clear k0 hst;rw [<- hB6]at H6 ⊢;clear hB6;have hg7:=below_blk hb7 H6.out.2.1;have H7:Hid (Bl w3 w7/\w7.heap[B6]? = some (.cells #[.int .i64 xr,.int .u8 k,.int .i64 h,.int .u8 0,.int .i64 0,.string ⟨#[]⟩,.slice none 0 0,.int .i64 0,.slice none 0 0,.int .i64 n,.int .i64 l,.int .i64 tg,.int .i64 bi,.int .u8 s,.bool fu,.slice none 0 0,.slice none 0 0] 117 (0,0))/\RowE w7 w3.heap.size (fun _=>False) u (nextTo M gs i5)/\(∀ b,u.ownBlock=some b->b<B6)/\w3.heap.size≤B6):=⟨H6.out.1.trans (hb7.mono H6.out.1.size),hg7,H6.out.2.2.1.below hb7,H6.out.2.2.2⟩;clear hb7 HC H6 hg7
      cases b1 with
      | true =>
        have H8:Hid (Bl w3 w7/\RowE w7 w3.heap.size (fun _=>False) u (nextTo M gs (i5+1))):=⟨H7.out.1,by rw [HX.out,if_pos HB1.out.symm];exact H7.out.2.2.1⟩;clear H7 HX HB1 HBD
        go_wp2_with fail
        go_roundw
        case rel=>exact⟨i5+1,_,rfl,by go_num,by omega,H8.out⟩
        case measure=>rw [hwi];clear hwi;simp [intOf];omega
      | false =>
        have HX2:Hid (nextTo M gs (i5+1)=nextTo M gs i5 ++ [(xr,stayT M gs (xr,lt k h 0 0 n l tg bi s fu))]):=by
         show _=_;rw [HX.out,if_neg (by rw [<- HB1.out];decide)]
        clear HX HB1;obtain⟨tg',htg⟩:∃ t,t=(if k==13 && gs.contains tg then 0 else tg):=⟨_,rfl⟩
        have HTG:=(show Hid (tg'=(if k==13 && gs.contains tg then 0 else tg))from htg)
        have HTG2:=(show Hid (tg'=(if k==13 && gs.contains tg then 0 else tg))from htg)
        clear htg
        go_upto_region 37 with fail
        go_cut [152]from 121 to 213 (fun v wx=>v=.bool (k==13 && gs.contains tg)/\Hid (Bl w3 wx/\wx.heap[B6]? = some (.cells #[.int .i64 xr,.int .u8 k,.int .i64 h,.int .u8 0,.int .i64 0,.string ⟨#[]⟩,.slice none 0 0,.int .i64 0,.slice none 0 0,.int .i64 n,.int .i64 l,.int .i64 tg,.int .i64 bi,.int .u8 s,.bool fu,.slice none 0 0,.slice none 0 0] 117 (0,0))/\RowE wx w3.heap.size (fun _=>False) u (nextTo M gs i5)))
        case first =>
         have k1:w7.cell? ⟨B6,1,none⟩=some (.int .u8 k):=by rw [cell_blk H7.out.2.1];rfl
         have k11:w7.cell? ⟨B6,11,none⟩=some (.int .i64 tg):=by rw [cell_blk H7.out.2.1];rfl
         by_cases h13:k=13
         ·have hkb:(k==13)=true:=by simpa using h13
          have HC:=(show Hid (∀ r,Calls Tryz.prog 196 #[.slice pg mg cg,.int .i64 r] w7 fun e w''=>e=.returned (.bool (inB gs r))/\Bl w7 w'')from HI.out w7 H7.out.1);clear h13
          go_wp2_with fail
          refine(HC.out tg).mono ?_;rintro e w8 ⟨rfl,hb8⟩;have H8:Hid (Bl w3 w8/\w8.heap[B6]? = some (.cells #[.int .i64 xr,.int .u8 k,.int .i64 h,.int .u8 0,.int .i64 0,.string ⟨#[]⟩,.slice none 0 0,.int .i64 0,.slice none 0 0,.int .i64 n,.int .i64 l,.int .i64 tg,.int .i64 bi,.int .u8 s,.bool fu,.slice none 0 0,.slice none 0 0] 117 (0,0))/\RowE w8 w3.heap.size (fun _=>False) u (nextTo M gs i5)):=⟨H7.out.1.trans (hb8.mono H7.out.1.size),below_blk hb8 H7.out.2.1,H7.out.2.2.1.below hb8⟩;have HE:Hid (Value.bool (inB gs tg)=.bool (k==13 && gs.contains tg)):=by show _=_;rw [hkb];rfl
          clear hb8 HC k1 k11
          go_wp2_with fail
          go_meet
          case rel=>exact⟨HE.out,H8⟩
         ·have hkb:(k==13)=false:=by simpa using h13
          have H8:Hid (Bl w3 w7/\w7.heap[B6]? = some (.cells #[.int .i64 xr,.int .u8 k,.int .i64 h,.int .u8 0,.int .i64 0,.string ⟨#[]⟩,.slice none 0 0,.int .i64 0,.slice none 0 0,.int .i64 n,.int .i64 l,.int .i64 tg,.int .i64 bi,.int .u8 s,.bool fu,.slice none 0 0,.slice none 0 0] 117 (0,0))/\RowE w7 w3.heap.size (fun _=>False) u (nextTo M gs i5)):=⟨H7.out.1,H7.out.2.1,H7.out.2.2.1⟩;have HE:Hid (Value.bool false=.bool (k==13 && gs.contains tg)):=by show _=_;rw [hkb];rfl
          clear h13
          go_wp2_with fail
          go_meet
          case rel=>exact⟨HE.out,H8⟩
        obtain⟨rfl,H8⟩:=hcut;have HO6:Hid ((∀ b,u.ownBlock=some b->b<B6)/\w3.heap.size≤B6):=H7.out.2.2.2;clear H7;generalize wc=w8 at *;obtain⟨b3,hb3⟩:∃ b,b=(k==13 && gs.contains tg):=⟨_,rfl⟩;rw [<- hb3]at HTG ⊢;clear hb3;refine ‹∀ (a:Act) (w:World),Code.wp Tryz.prog _ _ a w->_› _ _ ?_
        go_upto_if 152 with fail
        go_cut []from 121 to 213 (fun wx=>Hid (Bl w3 wx/\wx.heap[B6]? = some (.cells #[.int .i64 xr,.int .u8 k,.int .i64 h,.int .u8 0,.int .i64 0,.string ⟨#[]⟩,.slice none 0 0,.int .i64 0,.slice none 0 0,.int .i64 n,.int .i64 l,.int .i64 tg',.int .i64 bi,.int .u8 s,.bool fu,.slice none 0 0,.slice none 0 0] 117 (0,0))/\RowE wx w3.heap.size (fun _=>False) u (nextTo M gs i5)))
        case first =>
         cases b3 with
         | true =>
           have f11:=frozen_blk H8.out.2.1 11;have k11:w8.cell? ⟨B6,11,none⟩=some (.int .i64 tg):=by rw [cell_blk H8.out.2.1];rfl
           have H9:Hid (Bl w3 (w8.setCell ⟨B6,11,none⟩ (.int .i64 0))/\(w8.setCell ⟨B6,11,none⟩ (.int .i64 0)).heap[B6]? = some (.cells #[.int .i64 xr,.int .u8 k,.int .i64 h,.int .u8 0,.int .i64 0,.string ⟨#[]⟩,.slice none 0 0,.int .i64 0,.slice none 0 0,.int .i64 n,.int .i64 l,.int .i64 tg',.int .i64 bi,.int .u8 s,.bool fu,.slice none 0 0,.slice none 0 0] 117 (0,0))/\RowE (w8.setCell ⟨B6,11,none⟩ (.int .i64 0)) w3.heap.size (fun _=>False) u (nextTo M gs i5)):=by
            have e:tg'=0:=HTG.out;rw [e];have hk:=Keeps.setCell (S:=fun b=>b=B6) w8 ⟨B6,11,none⟩ (.int .i64 0) rfl;exact⟨H8.out.1.trans (hk.below (B:=B6) (by have:=blk_lt H8.out.2.1;omega) (fun x e=>by rw [e];exact Nat.le_refl _) |>.mono HO6.out.2),blk_setCell H8.out.2.1 11 (.int .i64 0),H8.out.2.2.keeps_ hk fun b hb e=>by have:=HO6.out.1 b hb;omega⟩
           clear HTG
           go_wp2_with fail
           go_meet
           case rel=>exact H9
         | false =>
           have H9:Hid (Bl w3 w8/\w8.heap[B6]? = some (.cells #[.int .i64 xr,.int .u8 k,.int .i64 h,.int .u8 0,.int .i64 0,.string ⟨#[]⟩,.slice none 0 0,.int .i64 0,.slice none 0 0,.int .i64 n,.int .i64 l,.int .i64 tg',.int .i64 bi,.int .u8 s,.bool fu,.slice none 0 0,.slice none 0 0] 117 (0,0))/\RowE w8 w3.heap.size (fun _=>False) u (nextTo M gs i5)):=by
            have e:tg'=tg:=HTG.out;rw [e];exact H8.out
           clear HTG
           go_wp2_with fail
           go_meet
           case rel=>exact H9
        have H9:=(show Hid (Bl w3 wc/\wc.heap[B6]? = some (.cells #[.int .i64 xr,.int .u8 k,.int .i64 h,.int .u8 0,.int .i64 0,.string ⟨#[]⟩,.slice none 0 0,.int .i64 0,.slice none 0 0,.int .i64 n,.int .i64 l,.int .i64 tg',.int .i64 bi,.int .u8 s,.bool fu,.slice none 0 0,.slice none 0 0] 117 (0,0))/\RowE wc w3.heap.size (fun _=>False) u (nextTo M gs i5))from hcut.out);clear hcut H8;generalize wc=w9 at *;refine ‹∀ (a:Act) (w:World),Code.wp Tryz.prog _ _ a w->_› _ _ ?_;obtain⟨lo',hlo'⟩:∃ t,t=(if k==8 then lostOf M.things gs xr n l else l):=⟨_,rfl⟩
        have HLO:=(show Hid (lo'=(if k==8 then lostOf M.things gs xr n l else l))from hlo')
        clear hlo'
        go_upto_block 10 with fail
        go_cut []from 155 to 209 (fun wx=>Hid (Bl w3 wx/\wx.heap[B6]? = some (.cells #[.int .i64 xr,.int .u8 k,.int .i64 h,.int .u8 0,.int .i64 0,.string ⟨#[]⟩,.slice none 0 0,.int .i64 0,.slice none 0 0,.int .i64 n,.int .i64 lo',.int .i64 tg',.int .i64 bi,.int .u8 s,.bool fu,.slice none 0 0,.slice none 0 0] 117 (0,0))/\RowE wx w3.heap.size (fun _=>False) u (nextTo M gs i5)))
        case first =>
         by_cases h8:k=8
         rotate_left
         ·have hkb:(k==8)=false:=by simpa using h8
          have HE:Hid (l=lo'):=by have:=HLO.out;rw [hkb]at this;exact this.symm
          clear h8
          go_wp2_with fail
          go_loopw [16] (fun vi wr=>vi=.int .i64 0/\Hid (Bl w3 wr/\wr.heap[B6]? = some (.cells #[.int .i64 xr,.int .u8 k,.int .i64 h,.int .u8 0,.int .i64 0,.string ⟨#[]⟩,.slice none 0 0,.int .i64 0,.slice none 0 0,.int .i64 n,.int .i64 l,.int .i64 tg',.int .i64 bi,.int .u8 s,.bool fu,.slice none 0 0,.slice none 0 0] 117 (0,0))/\RowE wr w3.heap.size (fun _=>False) u (nextTo M gs i5))) (fun _ _=>0)
          case atStart=>exact⟨rfl,H9.out⟩
          case round =>
           obtain⟨rfl,HQ⟩:=hrel;have HVq:=(show Hid _ from HV.out.below (H3.out.trans (HQ.out.1.mono H3.out.size)));have d2:wr.cell? ⟨q,2,none⟩=some (.slice (some ⟨g,0,none⟩) j2 c0):=by rw [cell_blk HVq.out.blk];rfl
           have k1:wr.cell? ⟨B6,1,none⟩=some (.int .u8 k):=by rw [cell_blk HQ.out.2.1];rfl
           have hjz:(0:Int)<(j2:Int):=by omega
           have HF:Hid (Bl w3 wr/\wr.heap[B6]? = some (.cells #[.int .i64 xr,.int .u8 k,.int .i64 h,.int .u8 0,.int .i64 0,.string ⟨#[]⟩,.slice none 0 0,.int .i64 0,.slice none 0 0,.int .i64 n,.int .i64 lo',.int .i64 tg',.int .i64 bi,.int .u8 s,.bool fu,.slice none 0 0,.slice none 0 0] 117 (0,0))/\RowE wr w3.heap.size (fun _=>False) u (nextTo M gs i5)):=by rw [<- HE.out];exact HQ.out
           clear HQ HE
           go_wp2_with fail
           go_meet
           case rel=>exact HF
         ·subst h8;have HE:Hid (lostOf M.things gs xr n l=lo'):=HLO.out.symm
          go_wp2_with fail
          go_loopw [16] (fun vi wr=>∃ (i6:Nat) (lo:Int),vi=.int .i64 i6/\i6≤j2/\Hid (Bl w3 wr/\wr.heap[B6]? = some (.cells #[.int .i64 xr,.int .u8 8,.int .i64 h,.int .u8 0,.int .i64 0,.string ⟨#[]⟩,.slice none 0 0,.int .i64 0,.slice none 0 0,.int .i64 n,.int .i64 lo,.int .i64 tg',.int .i64 bi,.int .u8 s,.bool fu,.slice none 0 0,.slice none 0 0] 117 (0,0))/\RowE wr w3.heap.size (fun _=>False) u (nextTo M gs i5)/\lo=lostOf (M.things.take i6) gs xr n l/\0≤lo/\lo≤9007199254740992)) (fun vi _=>j2 - (intOf vi).toNat)
          case atStart=>exact⟨0,l,rfl,Nat.zero_le _,H9.out.1,H9.out.2.1,H9.out.2.2,by simp [lostOf],HBD.out.2⟩
          case round =>
           clear H9;obtain⟨i6,lo,rfl,hi6,HQ⟩:=hrel;have HVq:=(show Hid _ from HV.out.below (H3.out.trans (HQ.out.1.mono H3.out.size)));have d2:wr.cell? ⟨q,2,none⟩=some (.slice (some ⟨g,0,none⟩) j2 c0):=by rw [cell_blk HVq.out.blk];rfl
           have k1:wr.cell? ⟨B6,1,none⟩=some (.int .u8 8):=by rw [cell_blk HQ.out.2.1];rfl
           by_cases h6:i6<j2
           ·have h6z:(i6:Int)<(j2:Int):=by omega
            have h60:(0:Int)≤(i6:Int):=by omega
            have hw6:wrap64 ((i6:Int)+1)=(i6:Int)+1:=by have:=HN.out;unfold wrap64;omega
            obtain⟨⟨pr,pt⟩,hx⟩:∃ x,M.things[i6]? = some x:=⟨_,List.getElem?_eq_getElem (by have:=HN.out.1;omega)⟩;obtain⟨⟨pk,ph,pn,pl,ptg,pbi,ps,pfu,hxe⟩,hk1,hk2,hbd⟩:=HT.out _ (List.mem_of_getElem? hx);obtain rfl:pt=lt pk ph 0 0 pn pl ptg pbi ps pfu:=hxe;obtain⟨g2,c2,hs,hg,hc⟩:=HVq.out.ent hx;have hp0:(some ⟨g,0,none⟩:Option Addr)=some ⟨g2,0,none⟩:=by injection hs
            obtain rfl:g=g2:=by cases hp0;rfl
            clear hp0;have hlde:=ldE_mid (w:=wr) (b:=g) (o:=i6 * 17) (cs:=#[.int .i64 pr,.int .u8 pk,.int .i64 ph,.int .u8 0,.int .i64 0,.string ⟨#[]⟩,.slice none 0 0,.int .i64 0,.slice none 0 0,.int .i64 pn,.int .i64 pl,.int .i64 ptg,.int .i64 pbi,.int .u8 ps,.bool pfu,.slice none 0 0,.slice none 0 0]) rfl (fun y v hv=>hc y v (by rw [<- hv];exact List.getElem?_toArray.symm));obtain⟨wA,hst,hbA,hgA,-⟩:=boxed_ent wr #[.int .i64 pr,.int .u8 pk,.int .i64 ph,.int .u8 0,.int .i64 0,.string ⟨#[]⟩,.slice none 0 0,.int .i64 0,.slice none 0 0,.int .i64 pn,.int .i64 pl,.int .i64 ptg,.int .i64 pbi,.int .u8 ps,.bool pfu,.slice none 0 0,.slice none 0 0] rfl (by simp [go_sem]);have hls:=(show Hid _ from lostOf_succ (gs:=gs) (r:=xr) (n:=n) (lo:=l) hx);have HPN:Hid (0≤pn/\pn≤9007199254740992):=hbd.1;have hwk:IntKind.i64.wrap pk=pk:=hk1;have HA1:Hid (Bl w3 wA/\wA.heap[B6]? = some (.cells #[.int .i64 xr,.int .u8 8,.int .i64 h,.int .u8 0,.int .i64 0,.string ⟨#[]⟩,.slice none 0 0,.int .i64 0,.slice none 0 0,.int .i64 n,.int .i64 lo,.int .i64 tg',.int .i64 bi,.int .u8 s,.bool fu,.slice none 0 0,.slice none 0 0] 117 (0,0))/\RowE wA w3.heap.size (fun _=>False) u (nextTo M gs i5)/\wA.heap[wr.heap.size]? = some (.cells #[.int .i64 pr,.int .u8 pk,.int .i64 ph,.int .u8 0,.int .i64 0,.string ⟨#[]⟩,.slice none 0 0,.int .i64 0,.slice none 0 0,.int .i64 pn,.int .i64 pl,.int .i64 ptg,.int .i64 pbi,.int .u8 ps,.bool pfu,.slice none 0 0,.slice none 0 0] 117 (0,0))):=⟨HQ.out.1.trans (hbA.mono HQ.out.1.size),below_blk hbA HQ.out.2.1,HQ.out.2.2.1.below hbA,hgA⟩;have HLo:Hid (lo=lostOf (M.things.take i6) gs xr n l/\0≤lo/\lo≤9007199254740992):=HQ.out.2.2.2;have HC:=(show Hid (∀ r,Calls Tryz.prog 196 #[.slice pg mg cg,.int .i64 r] wA fun e w''=>e=.returned (.bool (inB gs r))/\Bl wA w'')from HI.out wA HA1.out.1);have kA0:wA.cell? ⟨wr.heap.size,0,none⟩=some (.int .i64 pr):=by rw [cell_blk HA1.out.2.2.2];rfl
            obtain⟨c1,hc1⟩:∃ b,b=gs.contains pr:=⟨_,rfl⟩;have HC1:Hid (c1=gs.contains pr):=hc1;clear hx hs hg hc hbA hgA hk1 hk2 hbd HQ HVq hc1
            have SAME:Hid ((c1 && (pk==9) && (ptg==xr))=false->lo=lostOf (M.things.take (i6+1)) gs xr n l):=fun h=>by
             rw [hls.out,if_neg]
             ·exact HLo.out.1
             ·show ¬ (gs.contains pr && pk==9 && ptg==xr)=true;rw [<- HC1.out,h]
              decide
            go_wp2_with fail
            refine(HC.out pr).mono ?_;rw [show inB gs pr=c1 from HC1.out.symm];rintro e wB ⟨rfl,hbB⟩;obtain⟨BA,hBA⟩:∃ B,B=wr.heap.size:=⟨_,rfl⟩;clear kA0 hst;rw [<- hBA]at HA1 ⊢;clear hBA;have HB1':Hid (Bl w3 wB/\wB.heap[B6]? = some (.cells #[.int .i64 xr,.int .u8 8,.int .i64 h,.int .u8 0,.int .i64 0,.string ⟨#[]⟩,.slice none 0 0,.int .i64 0,.slice none 0 0,.int .i64 n,.int .i64 lo,.int .i64 tg',.int .i64 bi,.int .u8 s,.bool fu,.slice none 0 0,.slice none 0 0] 117 (0,0))/\RowE wB w3.heap.size (fun _=>False) u (nextTo M gs i5)/\wB.heap[BA]? = some (.cells #[.int .i64 pr,.int .u8 pk,.int .i64 ph,.int .u8 0,.int .i64 0,.string ⟨#[]⟩,.slice none 0 0,.int .i64 0,.slice none 0 0,.int .i64 pn,.int .i64 pl,.int .i64 ptg,.int .i64 pbi,.int .u8 ps,.bool pfu,.slice none 0 0,.slice none 0 0] 117 (0,0))):=⟨HA1.out.1.trans (hbB.mono HA1.out.1.size),below_blk hbB HA1.out.2.1,HA1.out.2.2.1.below hbB,below_blk hbB HA1.out.2.2.2⟩;have q1:wB.cell? ⟨BA,1,none⟩=some (.int .u8 pk):=by rw [cell_blk HB1'.out.2.2.2];rfl
            have q9:wB.cell? ⟨BA,9,none⟩=some (.int .i64 pn):=by rw [cell_blk HB1'.out.2.2.2];rfl
            have q11:wB.cell? ⟨BA,11,none⟩=some (.int .i64 ptg):=by rw [cell_blk HB1'.out.2.2.2];rfl
            have e0:wB.cell? ⟨B6,0,none⟩=some (.int .i64 xr):=by rw [cell_blk HB1'.out.2.1];rfl
            have e9:wB.cell? ⟨B6,9,none⟩=some (.int .i64 n):=by rw [cell_blk HB1'.out.2.1];rfl
            have e10:wB.cell? ⟨B6,10,none⟩=some (.int .i64 lo):=by rw [cell_blk HB1'.out.2.1];rfl
            clear hbB HC HA1 d2 k1
            cases c1 with
            | false =>
              have HR2:Hid (Bl w3 wB/\wB.heap[B6]? = some (.cells #[.int .i64 xr,.int .u8 8,.int .i64 h,.int .u8 0,.int .i64 0,.string ⟨#[]⟩,.slice none 0 0,.int .i64 0,.slice none 0 0,.int .i64 n,.int .i64 lo,.int .i64 tg',.int .i64 bi,.int .u8 s,.bool fu,.slice none 0 0,.slice none 0 0] 117 (0,0))/\RowE wB w3.heap.size (fun _=>False) u (nextTo M gs i5)/\lo=lostOf (M.things.take (i6+1)) gs xr n l/\0≤lo/\lo≤9007199254740992):=⟨HB1'.out.1,HB1'.out.2.1,HB1'.out.2.2.1,SAME.out rfl,HLo.out.2⟩;clear HB1' SAME HLo HPN hls HC1
              go_wp2_with fail
              go_roundw
              case rel=>exact⟨i6+1,lo,by go_num,by omega,HR2.out⟩
              case measure=>rw [hw6];clear hw6;simp [intOf];omega
            | true =>
              by_cases h9:pk=9
              rotate_left
              ·have hkb:(pk==9)=false:=by simpa using h9
               have HR2:Hid (Bl w3 wB/\wB.heap[B6]? = some (.cells #[.int .i64 xr,.int .u8 8,.int .i64 h,.int .u8 0,.int .i64 0,.string ⟨#[]⟩,.slice none 0 0,.int .i64 0,.slice none 0 0,.int .i64 n,.int .i64 lo,.int .i64 tg',.int .i64 bi,.int .u8 s,.bool fu,.slice none 0 0,.slice none 0 0] 117 (0,0))/\RowE wB w3.heap.size (fun _=>False) u (nextTo M gs i5)/\lo=lostOf (M.things.take (i6+1)) gs xr n l/\0≤lo/\lo≤9007199254740992):=⟨HB1'.out.1,HB1'.out.2.1,HB1'.out.2.2.1,SAME.out (by rw [hkb];rfl),HLo.out.2⟩;clear HB1' SAME HLo HPN hls HC1 h9
               go_wp2_with fail
               go_roundw
               case rel=>exact⟨i6+1,lo,by go_num,by omega,HR2.out⟩
               case measure=>rw [hw6];clear hw6;simp [intOf];omega
              subst h9
              by_cases ht:ptg=xr
              rotate_left
              ·have htb:(ptg==xr)=false:=by simpa using ht
               have HR2:Hid (Bl w3 wB/\wB.heap[B6]? = some (.cells #[.int .i64 xr,.int .u8 8,.int .i64 h,.int .u8 0,.int .i64 0,.string ⟨#[]⟩,.slice none 0 0,.int .i64 0,.slice none 0 0,.int .i64 n,.int .i64 lo,.int .i64 tg',.int .i64 bi,.int .u8 s,.bool fu,.slice none 0 0,.slice none 0 0] 117 (0,0))/\RowE wB w3.heap.size (fun _=>False) u (nextTo M gs i5)/\lo=lostOf (M.things.take (i6+1)) gs xr n l/\0≤lo/\lo≤9007199254740992):=⟨HB1'.out.1,HB1'.out.2.1,HB1'.out.2.2.1,SAME.out (by rw [htb];rfl),HLo.out.2⟩;clear HB1' SAME HLo HPN hls HC1 ht
               go_wp2_with fail
               go_roundw
               case rel=>exact⟨i6+1,lo,by go_num,by omega,HR2.out⟩
               case measure=>rw [hw6];clear hw6;simp [intOf];omega
              subst ht;have hwa:wrap64 (lo+pn)=lo+pn:=by have:=HLo.out;have:=HPN.out;unfold wrap64;omega
              have f10:=frozen_blk HB1'.out.2.1 10;obtain⟨mn,hmn⟩:∃ mn,mn=min (lo+pn) n:=⟨_,rfl⟩;have HMN:Hid (mn=min (lo+pn) n):=hmn;have hk:=Keeps.setCell (S:=fun b=>b=B6) wB ⟨B6,10,none⟩ (.int .i64 mn) rfl
              have HR2:Hid (Bl w3 (wB.setCell ⟨B6,10,none⟩ (.int .i64 mn))/\(wB.setCell ⟨B6,10,none⟩ (.int .i64 mn)).heap[B6]? = some (.cells #[.int .i64 ptg,.int .u8 8,.int .i64 h,.int .u8 0,.int .i64 0,.string ⟨#[]⟩,.slice none 0 0,.int .i64 0,.slice none 0 0,.int .i64 n,.int .i64 mn,.int .i64 tg',.int .i64 bi,.int .u8 s,.bool fu,.slice none 0 0,.slice none 0 0] 117 (0,0))/\RowE (wB.setCell ⟨B6,10,none⟩ (.int .i64 mn)) w3.heap.size (fun _=>False) u (nextTo M gs i5)/\mn=lostOf (M.things.take (i6+1)) gs ptg n l/\0≤mn/\mn≤9007199254740992) :=
               ⟨HB1'.out.1.trans (hk.below (B:=B6) (by have:=blk_lt HB1'.out.2.1;omega) (fun x e=>by rw [e];exact Nat.le_refl _) |>.mono HO6.out.2),blk_setCell HB1'.out.2.1 10 (.int .i64 mn),HB1'.out.2.2.1.keeps_ hk (fun b hb e=>by have:=HO6.out.1 b hb;omega),by
                rw [hls.out,if_pos]
                ·show mn=min (_+pn) n;rw [<- HLo.out.1];exact hmn
                ·show (gs.contains pr && (9:Int)==9 && ptg==ptg)=true;rw [<- HC1.out]
                 simp,by have:=HLo.out;have:=HPN.out;have:=HBD.out;omega,by have:=HBD.out;omega⟩
              have hmn':min (lo+pn) n=mn:=HMN.out.symm;clear hk HB1' SAME HLo hls HC1 HPN hmn
              go_wp2_with fail
              go_roundw
              case rel=>exact⟨i6+1,mn,by go_num,by omega,HR2.out⟩
              case measure=>rw [hw6];clear hw6;simp [intOf];omega
           ·have h6z:¬ (i6:Int)<(j2:Int):=by omega
            obtain rfl:i6=j2:=by omega
            have hkk6:¬ (i6:Int)<(i6:Int):=by omega
            have HF:Hid (Bl w3 wr/\wr.heap[B6]? = some (.cells #[.int .i64 xr,.int .u8 8,.int .i64 h,.int .u8 0,.int .i64 0,.string ⟨#[]⟩,.slice none 0 0,.int .i64 0,.slice none 0 0,.int .i64 n,.int .i64 lo',.int .i64 tg',.int .i64 bi,.int .u8 s,.bool fu,.slice none 0 0,.slice none 0 0] 117 (0,0))/\RowE wr w3.heap.size (fun _=>False) u (nextTo M gs i5)):=by
             have e:lo=lo':=by rw [HQ.out.2.2.2.1,HN.out.1,List.take_length];exact HE.out
             rw [<- e];exact⟨HQ.out.1,HQ.out.2.1,HQ.out.2.2.1⟩
            clear HQ HVq HE
            go_wp2_with fail
            go_meet
            case rel=>exact HF
        have HD:=(show Hid (Bl w3 wc/\wc.heap[B6]? = some (.cells #[.int .i64 xr,.int .u8 k,.int .i64 h,.int .u8 0,.int .i64 0,.string ⟨#[]⟩,.slice none 0 0,.int .i64 0,.slice none 0 0,.int .i64 n,.int .i64 lo',.int .i64 tg',.int .i64 bi,.int .u8 s,.bool fu,.slice none 0 0,.slice none 0 0] 117 (0,0))/\RowE wc w3.heap.size (fun _=>False) u (nextTo M gs i5))from hcut.out);clear hcut H9;generalize wc=wD at *
        have HY:Hid (nextTo M gs (i5+1)=nextTo M gs i5 ++ [(xr,lt k h 0 0 n lo' tg' bi s fu)]):=by
         show _=_;rw [HX2.out,stay_lt,← HLO.out,← HTG2.out]
        have hlde:=ldE_blk HD.out.2.1 rfl;obtain⟨wE,hwE⟩:∃ wE,wE=wD.alloc (.cells #[.int .i64 xr,.int .u8 k,.int .i64 h,.int .u8 0,.int .i64 0,.string ⟨#[]⟩,.slice none 0 0,.int .i64 0,.slice none 0 0,.int .i64 n,.int .i64 lo',.int .i64 tg',.int .i64 bi,.int .u8 s,.bool fu,.slice none 0 0,.slice none 0 0] 117):=⟨_,rfl⟩;have hbE:Bl wD wE:=by rw [hwE];exact(Below.refl _ _).alloc (Nat.le_refl _) _
        have HE1:Hid (RowE wE w3.heap.size (fun _=>False) u (nextTo M gs i5)/\wE.heap[wD.heap.size]? = some (.cells (entc (xr,lt k h 0 0 n lo' tg' bi s fu)).toArray 117 (0,0))/\w3.heap.size≤wE.heap.size/\(nextTo M gs i5).length≤1000000):=⟨HD.out.2.2.below hbE,by rw [hwE];exact blk_new _ _,Nat.le_trans HD.out.1.size hbE.size,by have:=nextTo_len M gs i5;have:=HN.out;omega⟩;have HE2:Hid (Bl w3 wE):=HD.out.1.trans (hbE.mono HD.out.1.size);clear HTG HLO HX2 hbE;refine ‹∀ (a:Act) (w:World),Code.wp Tryz.prog _ _ a w->_› _ _ ?_
        go_wp2_with (first
         | (at_builtin;rw [<- hwE];refine append_ent rfl _ _ rfl w3.heap.size (G:=fun _=>False) (G':=fun _=>False) u (nextTo M gs i5) rfl HE1.out.1 (xr,lt k h 0 0 n lo' tg' bi s fu) (g:=wD.heap.size) rfl HE1.out.2.1 ⟨SlAt.nil _ _ _ _,SlAt.nil _ _ _ _,rfl,rfl⟩ (by rw [thc_lt];simp [go_sem]) (fun b h=>h) HE1.out.2.2.2 HE1.out.2.2.1 ?_;intro v' wF hrow hkF hoF))
        have HF:Hid (Bl w3 wF/\RowE wF w3.heap.size (fun _=>False) v' (nextTo M gs (i5+1))):=⟨HE2.out.trans (hkF.below (B:=w3.heap.size) HE1.out.2.2.1 (fun x hx=>(HE1.out.1.own x hx).1)),by rw [HY.out];exact hrow⟩;clear hrow hkF hoF HE1 HE2 HY HD hlde hwE
        go_wp2_with fail
        go_roundw
        case rel=>exact⟨i5+1,_,rfl,by go_num,by omega,HF.out⟩
        case measure=>rw [hwi];clear hwi;simp [intOf];omega
     have hiz:¬ (i5:Int)<(j2:Int):=by omega
     obtain rfl:i5=j2:=by omega
     have hkk:¬ (i5:Int)<(i5:Int):=by omega
     have hrow:=HB.out.2;obtain⟨pu,cu,hu⟩:=hrow.form;have hnx:nextTo M gs i5=(dropM M gs).things:=by rw [HN.out.1,nextTo_all]
     rw [hnx]at hrow hu
     have HFin:Hid (∀ wx,wx=wr.setCell ⟨q,2,none⟩ u->Drop7Post w q M G ls (.returned (.int .i64 0)) wx):=fun wx e=>by
      have hq:q<w.heap.size:=HV.out.lt q (HV.out.own q (.inl rfl));have hv:=HV1.out;have hk:Keeps (fun b=>b=q) wr wx:=by rw [e];exact Keeps.setCell wr ⟨q,2,none⟩ u rfl
      have hwr:w.heap.size≤wr.heap.size:=HBw.out.size;have hB3:w.heap.size≤w3.heap.size:=H3.out.size;have hGl:∀ b,G b->b<w.heap.size:=HV.out.lt;have ho:=hrow.own;have hsz:wx.heap.size=wr.heap.size:=by rw [e];simp
      refine .inr (.inr ⟨HALL.out,rfl,fun x hx=>⟨HNH.out x hx,by rw [<- HG.out];exact HNX.out x hx⟩,fun b=>G b\/(w.heap.size≤b/\b<wr.heap.size),⟨sP,sC,u,sM,?_⟩,⟨?_,fun b hb=>hb.imp id fun h=>h.1⟩⟩)
      ·rw [<- HG.out]
       exact {
        blk:=by rw [e];exact blk_setCell hv.blk 2 u
        rp:=ownsRow_keeps hv.rp hk fun b hb e=>hv.apq.1 (by rw [hb,e])
        rc:=ownsRow_keeps hv.rc hk fun b hb e=>hv.apq.2.1 (by rw [hb,e])
        rt:=by
         have:=hrow.row;exact ownsRow_base (ownsRow_keeps this hk fun b hb e=>by have:=(ho b hb).1;omega) (Nat.zero_le _)
        rm:=ownsRow_keeps hv.rm hk fun b hb e=>hv.apq.2.2.2 (by rw [hb,e])
        own:=fun b hb=>by
         rcases hb with rfl | hb | hb | hb | hb
         ·exact .inl (hv.own b (.inl rfl))
         ·exact .inl (hv.own b (.inr (.inl hb)))
         ·exact .inl (hv.own b (.inr (.inr (.inl hb))))
         ·exact .inr ⟨by have:=(ho b hb).1;omega,(ho b hb).2⟩
         ·exact .inl (hv.own b (.inr (.inr (.inr (.inr hb)))))
        lt:=fun b hb=>by rw [hsz];rcases hb with hb | hb;· have:=hGl b hb;omega
                         ·exact hb.2
        deep:=fun r t ht=>by
         obtain⟨k,h,n,l,tg,bi,s,fu,rfl⟩:=HLW.out (r,t) ht;exact⟨SlAt.nil _ _ _ _,SlAt.nil _ _ _ _,rfl,rfl⟩
        apq:=⟨hv.apq.1,hv.apq.2.1,fun e=>by have:=(ho _ e).1;omega,hv.apq.2.2.2⟩
        app:=fun b hb=>⟨(hv.app b hb).1,fun e=>by have:=(ho _ e).1;have:=hGl b (hv.own b (.inr (.inl hb)));omega,(hv.app b hb).2.2⟩
        apc:=fun b hb=>⟨fun e=>by have:=(ho _ e).1;have:=hGl b (hv.own b (.inr (.inr (.inl hb))));omega,(hv.apc b hb).2⟩
        apt:=fun b hb e=>by have:=(ho _ hb).1;have:=hGl b (hv.own b (.inr (.inr (.inr (.inr e)))));omega }
      ·exact(Keeps.of_below (S:=G) HBw.out).trans hk (fun _ _ h=>h) (fun x _ h=>by rw [h];exact HV.out.own q (.inl rfl))
     have f2:=frozen_blk HV1.out.blk 2;subst hu;clear hrow hnx HB
     go_wp2_with fail
     go_ret
     exact HFin.out _ rfl
end
end Go.Proofs.YthaliljaglldjaaGreat
