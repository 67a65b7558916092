/- Part of the proof. -/
import Derived.Test.YthaliljaglldjaaGreatmAK
namespace Go.Proofs.YthaliljaglldjaaGreat
set_option maxHeartbeats 16000000
set_option maxRecDepth 20000
open Go.RowKit Go.ChangeMaps Go.MapKept
section
variable {w:World} {p:Nat} {M:WM} {F:Nat->Prop}
abbrev lt (k h vk vn n l tg bi s:Int) (fu:Bool):Th:=⟨k,h,⟨vk,vn,⟨#[]⟩,[],0⟩,.slice none 0 0,[],.slice none 0 0,n,l,tg,bi,s,fu,.slice none 0 0,.slice none 0 0⟩
theorem deep_lt (w:World) (F:Nat->Prop) (k h vk vn n l tg bi s:Int) (fu:Bool):Deep w F (lt k h vk vn n l tg bi s fu):=⟨SlT.nil _ _ _ _,SlT.nil _ _ _ _,rfl,rfl⟩
def NoB:Nat->Prop:=fun _=>False
def Grew (F:Nat->Prop) (w:World) (F':Nat->Prop) (w':World):Prop:=Keeps F w w'/\∀ b,F' b->F b\/w.heap.size≤b
end
section
variable {w:World} {p:Nat} {M:WM} {F:Nat->Prop}
theorem results_What2 {fn:Func} {q x:Tmp} (h:fn.results=#[.cell q 46,.tmp x]) (tmps:Array Value) (W:World) (g:Nat) (cs:Array Value) (fr:Nat × Nat) (hp:tmps.getD q undef=.pointer (some ⟨g,0,none⟩))
 (hg:W.heap[g]? = some (.cells cs 46 fr)) (hs:cs.size=16):(results fn tmps).run Tryz.prog W=.ok (.tuple #[.agg cs,tmps.getD x undef]) W:=by
 have h1:=run_loadVar_row W g 46 46 cs fr _ hg Tryz.underlying46 rfl (by rw [hs];exact sizeWhat);unfold results;rw [h];rw [Array.getD_eq_getD_getElem?]at hp;simp [hp,asAddr,h1,Result.andThen]
theorem thc_lt (k h vk vn n l tg bi s:Int) (fu:Bool):thc (lt k h vk vn n l tg bi s fu)=(wr k h vk vn n l tg bi s fu):=rfl
theorem What_lt (hW:IsW w p M F) {r k h vk vn n l tg bi s:Int} {fu:Bool} (hr:(Lit.int .i64 r).wf=true) (ht:M.at r=some (lt k h vk vn n l tg bi s fu)) (hp:Plain vk vn) :
 Calls Tryz.prog 137 #[.pointer (some ⟨p,0,none⟩),.int .i64 r] w fun e w'=>e=.returned (.tuple #[.agg (wr k h vk vn n l tg bi s fu),.int .i64 0])/\Bl w w':=by
 have HW:Hid (IsW w p M F):=hW;have Ht:Hid (M.at r=some (lt k h vk vn n l tg bi s fu)):=ht;have hIs:(M.at r).isSome=true:=by rw [ht];rfl
 have HIs:=(show Hid _ from hIs);clear hW ht hIs
 go_enter Tryz.func137,Tryz.ntmps137
 go_wp2_with fail
 refine(none_W (HW.out.below ((Below.refl _ _).alloc (Nat.le_refl _) _))).mono ?_;rintro e _ ⟨rfl,rfl⟩
 go_wp2_with fail
 refine(Is_W (HW.out.below ((Below.refl _ _).alloc (Nat.le_refl _) _)) hr).mono ?_;rw [HIs.out];rintro e _ ⟨rfl,rfl⟩;have hWA:=HW.out.below (w':=w.alloc (.cells (wr 0 0 0 0 0 0 0 0 0 false) 46)) ((Below.refl _ _).alloc (Nat.le_refl _) _);obtain⟨pa,pc,cg,cc,mg,mc,tb,fb,fn,bl,hV⟩:=hWA;have c2:=hV.c2;have hlk:=hV.look hr;rw [Ht.out]at hlk;simp only [Option.map_some]at hlk;have hld:=loadWhat_blk (hV.blk r _ Ht.out).1 rfl;rw [thc_lt]at hld;clear hV
 go_wp2_with fail
 refine(ownWhat_W _ k h vk vn n l tg bi s fu hp).mono ?_;rintro e w1 ⟨rfl,hb1⟩;have B1:=below_blk hb1 (blk_new w _);have HB1:Hid (Bl w w1):=((Below.refl _ _).alloc (Nat.le_refl _) _).trans (hb1.mono (by simp));have hst:=storeWhat_blk (c':=(wr k h vk vn n l tg bi s fu)) B1 rfl rfl (by simp [go_sem]);have G1:=(show Hid _ from heap_setRow_at (c':=(wr k h vk vn n l tg bi s fu)) B1);clear hb1 B1 c2 hlk hld
 go_wp2_with fail
 exact bodyPost_ret (results_What2 rfl _ _ _ _ _ rfl G1.out rfl) rfl ⟨rfl,Below.setRow HB1.out (Nat.le_refl _) _⟩
end
section
def entc (x:Int × Th):List Value:=.int .i64 x.1 :: (thc x.2).toList
def eflat (l:List (Int × Th)):List Value:=l.flatMap entc
theorem entc_len (x:Int × Th):(entc x).length=17:=rfl
theorem eflat_at {l:List (Int × Th)} {i k:Nat} {x:Int × Th} {v:Value} (hx:l[i]? = some x) (hk:(entc x)[k]? = some v):(eflat l)[i * 17+k]? = some v:=by
 induction l generalizing i with
 | nil=>simp at hx
 | cons y l ih =>
   unfold eflat;rw [List.flatMap_cons]
   cases i with
   | zero =>
     simp at hx;subst hx;rw [Nat.zero_mul,Nat.zero_add,List.getElem?_append_left (List.getElem?_eq_some_iff.1 hk).1];exact hk
   | succ i =>
     simp at hx;rw [List.getElem?_append_right (by rw [entc_len];omega),entc_len,show (i+1) * 17+k - 17=i * 17+k by omega];exact ih hx
structure DeepR (w:World) (G:Nat->Prop) (t:Th):Prop where
 v:SlAt w G t.vl t.v.l
 vs:SlAt w G t.vals t.vs
 code:t.code=.slice none 0 0
 names:t.names=.slice none 0 0
theorem DeepR.on {w w':World} {G:Nat->Prop} {t:Th} (h:DeepR w G t) (hb:Bl w w'):DeepR w' G t:=⟨h.v.on hb,h.vs.on hb,h.code,h.names⟩
structure RVw (w:World) (q:Nat) (M:WM) (G:Nat->Prop) (sP sC sT sM:Value):Prop where
 blk:w.heap[q]? = some (.cells #[sP,sC,sT,.int .i64 M.last,sM] 94 (0,0))
 rp:w.ownsRow 0 3 1 sP M.parents.length (M.parents.map (Value.int .i64))
 rc:w.ownsRow 0 4 1 sC M.parents.length ((M.cuts.drop 1).map Value.bool)
 rt:w.ownsRow 0 117 17 sT M.things.length (eflat M.things)
 rm:w.ownsRow 0 3 1 sM M.made.length (M.made.map (Value.int .i64))
 own:∀ b,(b=q\/sP.ownBlock=some b\/sC.ownBlock=some b\/sT.ownBlock=some b\/sM.ownBlock=some b)->G b
 lt:∀ b,G b->b<w.heap.size
 deep:∀ r t,(r,t) ∈ M.things->DeepR w (fun b=>G b/\b≠q/\sP.ownBlock≠some b/\sC.ownBlock≠some b/\sT.ownBlock≠some b/\sM.ownBlock≠some b) t
 apq:sP.ownBlock≠some q/\sC.ownBlock≠some q/\sT.ownBlock≠some q/\sM.ownBlock≠some q
 app:∀ b,sP.ownBlock=some b->sC.ownBlock≠some b/\sT.ownBlock≠some b/\sM.ownBlock≠some b
 apc:∀ b,sC.ownBlock=some b->sT.ownBlock≠some b/\sM.ownBlock≠some b
 apt:∀ b,sT.ownBlock=some b->sM.ownBlock≠some b
def IsR (w:World) (q:Nat) (M:WM) (G:Nat->Prop):Prop:=∃ sP sC sT sM,RVw w q M G sP sC sT sM
theorem ownsRow_on {w w':World} {base k n:Nat} {e:TypeId} {u:Value} {xs:List Value} (h:w.ownsRow base e k u n xs) (hb:Bl w w'):w'.ownsRow base e k u n xs:=by
 obtain⟨h1,h2⟩:=h;exact⟨h1,h2.imp id fun⟨g,cap,cur,e1,e2,e3,e4⟩=>⟨g,cap,cur,e1,e2,below_blk hb e3,e4⟩⟩
theorem RVw.below {w w':World} {q:Nat} {M:WM} {G:Nat->Prop} {sP sC sT sM:Value} (h:RVw w q M G sP sC sT sM) (hb:Bl w w'):RVw w' q M G sP sC sT sM :=
 ⟨below_blk hb h.blk,ownsRow_on h.rp hb,ownsRow_on h.rc hb,ownsRow_on h.rt hb,ownsRow_on h.rm hb,h.own,fun b hG=>Nat.lt_of_lt_of_le (h.lt b hG) hb.size,fun r t ht=>(h.deep r t ht).on hb,h.apq,h.app,h.apc,h.apt⟩
theorem IsR.below {w w':World} {q:Nat} {M:WM} {G:Nat->Prop} (h:IsR w q M G) (hb:Bl w w'):IsR w' q M G:=by
 obtain⟨sP,sC,sT,sM,h⟩:=h;exact⟨sP,sC,sT,sM,h.below hb⟩
theorem RVw.ent {w:World} {q:Nat} {M:WM} {G:Nat->Prop} {sP sC sT sM:Value} (h:RVw w q M G sP sC sT sM) {i:Nat} {x:Int × Th} (hx:M.things[i]? = some x) :
 ∃ g c,sT=.slice (some ⟨g,0,none⟩) M.things.length c/\g<w.heap.size/\∀ k v,(entc x)[k]? = some v->w.cell? ⟨g,i * 17+k,none⟩=some v:=by
 obtain⟨h1,⟨rfl,h0⟩ | ⟨g,cap,cur,rfl,hg,hb,hc,hm,hcs,ht⟩⟩:=h.rt
 ·rw [List.length_eq_zero_iff.1 h0]at hx;simp at hx
 ·refine⟨g,cap,rfl,blk_lt hb,fun k v hv=>?_⟩;have h2:=eflat_at hx hv;rw [<- ht,List.getElem?_take]at h2;split at h2
  ·rw [cell_blk hb,← Array.getElem?_toList];exact h2
  ·cases h2
theorem loadWhat_mid {w:World} {b o:Nat} {t:Th} (h:∀ k v,(thc t)[k]? = some v->w.cell? ⟨b,o+k,none⟩=some v):(ldW (.pointer (some ⟨b,o,none⟩))).run Tryz.prog w=.ok (.value (.agg (thc t))) w:=by
 have:=run_loadAt_mid w b o 46 (thc t).toList _ (fun k v hv=>h k v (by simpa using hv)) Tryz.underlying46 rfl (by simpa [thc]using sizeWhat);simp only [ldW,Sem.run_bind,this,Result.andThen,Sem.run_pure,Array.toArray_toList]
def at7 (M:WM) (r:Int):Th:=(M.at r).getD (lt 0 0 0 0 0 0 0 0 0 false)
theorem lookup_first:∀ {l:List (Int × Th)} {i:Nat} {r:Int} {t:Th},l[i]? = some (r,t)->(∀ j y,j<i->l[j]? = some y->y.1≠r)->l.lookup r=some t
 | [],_,_,_,h,_=>by simp at h
 | y :: l,0,r,t,h,_=>by
   simp at h;subst h;simp
 | y :: l,i+1,r,t,h,hn=>by
   have h0:=hn 0 y (Nat.succ_pos _) rfl;have e:(r==y.1)=false:=by simpa using fun e=>h0 e.symm
   rw [List.lookup_cons,e];exact lookup_first (by simpa using h) (fun j z hj hz=>hn (j+1) z (by omega) (by simpa using hz))
theorem lookup_no:∀ {l:List (Int × Th)} {r:Int},(∀ y ∈ l,y.1≠r)->l.lookup r=none
 | [],_,_=>rfl
 | y :: l,r,h=>by
   have e:(r==y.1)=false:=by simpa using fun e=>h y (List.mem_cons_self ..) e.symm
   rw [List.lookup_cons,e];exact lookup_no (fun z hz=>h z (List.mem_cons_of_mem _ hz))
theorem at7_W {w:World} {q:Nat} {M:WM} {G:Nat->Prop} (hR:IsR w q M G) (hl:M.things.length≤100000) (r:Int) (hlst:∀ x ∈ M.things,(thc x.2).all (·.oneCell')=true) :
 Calls Tryz.prog 47 #[.pointer (some ⟨q,0,none⟩),.int .i64 r] w fun e w'=>e=.returned (.tuple #[.agg (thc (at7 M r)),.bool (M.at r).isSome])/\Bl w w':=by
 obtain⟨sP,sC,sT,sM,hV⟩:=hR;obtain⟨n,hn⟩:∃ n,n=M.things.length:=⟨_,rfl⟩
 obtain⟨p0,c0,hsT⟩:∃ p c,sT=.slice p n c:=by
  obtain⟨h1,⟨rfl,h0⟩ | ⟨g,cap,cur,rfl,-⟩⟩:=hV.rt
  ·exact⟨none,0,by rw [hn,h0]⟩
  ·exact⟨_,_,by rw [hn]⟩
 subst hsT;have HV:=(show Hid (RVw w q M G sP sC (.slice p0 n c0) sM)from hV);have HN:Hid (n=M.things.length/\n≤100000):=⟨hn,by omega⟩;have HO:=(show Hid _ from hlst);have H0:Hid (Bl w (w.alloc (.cells (wr 0 0 0 0 0 0 0 0 0 false) 46))/\(w.alloc (.cells (wr 0 0 0 0 0 0 0 0 0 false) 46)).heap[w.heap.size]? = some (.cells (wr 0 0 0 0 0 0 0 0 0 false) 46 (0,0))):=⟨(Below.refl _ w).alloc (Nat.le_refl _) _,blk_new _ _⟩;clear hV hn hl hlst
 go_enter Tryz.func47,Tryz.ntmps47
 go_wp2_with fail
 revert H0;generalize w.alloc _=w1;intro H0
 go_loopw [6] (fun vi wr=>∃ i:Nat,vi=.int .i64 i/\i≤n/\w1=wr/\Hid (∀ j y,j<i->M.things[j]? = some y->y.1≠r)) (fun vi _=>n - (intOf vi).toNat)
 case atStart=>exact⟨0,rfl,Nat.zero_le _,rfl,fun j y h=>absurd h (Nat.not_lt_zero j)⟩
 case round =>
  obtain⟨i,rfl,hi,rfl,HJ⟩:=hrel;have HV1:=(show Hid _ from HV.out.below H0.out.1);have d2:w1.cell? ⟨q,2,none⟩=some (.slice p0 n c0):=by rw [cell_blk HV1.out.blk];rfl
  by_cases hin:i<n
  ·have hiz:(i:Int)<(n:Int):=by omega
   obtain⟨x,hx⟩:∃ x,M.things[i]? = some x:=⟨_,List.getElem?_eq_getElem (by have:=HN.out.1;omega)⟩;obtain⟨g,c,hs,hg,hc⟩:=HV1.out.ent hx;have hp0:p0=some ⟨g,0,none⟩:=by injection hs
   subst hp0;have k0:w1.cell? ⟨g,i * 17,none⟩=some (.int .i64 x.1):=hc 0 _ rfl
   have hldw:=loadWhat_mid (w:=w1) (b:=g) (o:=i * 17+1) (t:=x.2) (fun k v hv=>by
    have:=hc (k+1) v (by rw [<- hv];show (_ :: (thc x.2).toList)[k+1]? = _;simp);rw [show i * 17+1+k=i * 17+(k+1) by omega]
    exact this)
   have hwi:wrap64 ((i:Int)+1)=(i:Int)+1:=by have:=HN.out.2;unfold wrap64;omega
   by_cases hr:x.1=r
   ·have HE:Hid (M.at r=some x.2):=lookup_first (by rw [hx,← hr]) HJ.out;have hst:=storeWhat_blk (c':=thc x.2) H0.out.2 rfl rfl (HO.out x (List.mem_of_getElem? hx));have HF:=(show Hid ((w1.setRow w.heap.size (thc x.2)).heap[w.heap.size]? = some (.cells (thc x.2) 46 (0,0))/\Bl w (w1.setRow w.heap.size (thc x.2)))from⟨heap_setRow_at H0.out.2,Below.setRow H0.out.1 (Nat.le_refl _) _⟩);have HT:Hid (at7 M r=x.2):=by show _=_;unfold at7;rw [HE.out];rfl
    clear hs hc hx
    go_wp2_with fail
    exact bodyPost_ret (results_What2 rfl _ _ _ _ _ rfl HF.out.1 rfl) rfl ⟨by rw [HT.out,HE.out];rfl,HF.out.2⟩
   ·have HJ2:Hid (∀ j y,j<i+1->M.things[j]? = some y->y.1≠r):=fun j y hj hy=>by
     by_cases e:j=i
     ·subst e;rw [hx]at hy
      cases hy
      exact hr
     ·exact HJ.out j y (by omega) hy
    clear hs hc hx
    go_wp2_with fail
    go_roundw
    case rel=>exact⟨i+1,by go_num,by omega,trivial,HJ2.out⟩
    case measure=>rw [hwi];simp [intOf];omega
  ·have hiz:¬ (i:Int)<(n:Int):=by omega
   obtain rfl:i=n:=by omega
   have HE:Hid (M.at r=none):=lookup_no fun y hy=>by
    obtain⟨j,hj,e⟩:=List.getElem_of_mem hy;exact HJ.out j y (by have:=HN.out.1;omega) (by rw [<- e];exact List.getElem?_eq_getElem hj)
   have hkk:¬ (i:Int)<(i:Int):=by omega
   have hst:=storeWhat_blk (c':=(wr 0 0 0 0 0 0 0 0 0 false)) H0.out.2 rfl rfl (by simp [go_sem]);have HF:Hid (∀ c',(w1.setRow w.heap.size c').heap[w.heap.size]? = some (.cells c' 46 (0,0))/\Bl w (w1.setRow w.heap.size c')):=fun c'=>⟨heap_setRow_at H0.out.2,Below.setRow H0.out.1 (Nat.le_refl _) _⟩;have HT:Hid (at7 M r=lt 0 0 0 0 0 0 0 0 0 false):=by show _=_;unfold at7;rw [HE.out];rfl
   go_wp2_with fail
   exact bodyPost_ret (results_What2 rfl _ _ _ _ _ rfl (HF.out _).1 rfl) rfl ⟨by rw [HT.out,HE.out];rfl,(HF.out _).2⟩
end
section
theorem at7_mem {M:WM} {r:Int}:at7 M r=lt 0 0 0 0 0 0 0 0 0 false\/∃ x ∈ M.things,at7 M r=x.2:=by
 unfold at7
 cases h:M.at r with
 | none=>exact .inl rfl
 | some t=>exact .inr ⟨(r,t),at_mem h,rfl⟩
theorem kind7_W {w:World} {q:Nat} {M:WM} {G:Nat->Prop} (hR:IsR w q M G) (hl:M.things.length≤100000) (r:Int) (hlst:∀ x ∈ M.things,(thc x.2).all (·.oneCell')=true/\0≤x.2.kind/\x.2.kind≤255) :
 Calls Tryz.prog 147 #[.pointer (some ⟨q,0,none⟩),.int .i64 r] w fun e w'=>e=.returned (.int .i64 (at7 M r).kind)/\Bl w w':=by
 have HA:=(show Hid _ from at7_W hR hl r (fun x hx=>(hlst x hx).1))
 have hk:0≤(at7 M r).kind/\(at7 M r).kind≤255:=by
  rcases at7_mem (M:=M) (r:=r)with h | ⟨x,hx,h⟩
  ·rw [h];exact⟨by decide,by decide⟩
  ·rw [h];exact(hlst x hx).2
 have hone:(thc (at7 M r)).all (·.oneCell')=true:=by
  rcases at7_mem (M:=M) (r:=r)with h | ⟨x,hx,h⟩
  ·rw [h,thc_lt];simp [go_sem]
  ·rw [h];exact(hlst x hx).1
 have hwk:IntKind.i64.wrap (at7 M r).kind=(at7 M r).kind:=by simp [IntKind.wrap,IntKind.signed,IntKind.bits];omega
 clear hR hl hlst hk;generalize at7 M r=t at *
 go_enter Tryz.func147,Tryz.ntmps147
 go_wp2_with fail
 refine Calls.mono HA.out ?_;rintro e w1 ⟨rfl,hb1⟩;obtain⟨w2,hst,hb2,hg2,-⟩:=boxed_what' w1 (thc t) rfl hone;have k0:w2.cell? ⟨w1.heap.size,0,none⟩=some (.int .u8 t.kind):=by rw [cell_blk hg2];rfl
 have HB2:=(show Hid (Bl w w2)from hb1.trans (hb2.mono hb1.size));clear hb1 hb2 hg2 hone HA
 go_wp2_with fail
 go_ret
 exact⟨rfl,HB2.out⟩
end
section
theorem execOp_ldW6 (ρ:Operand->Value) (ty:TypeId) (pos:String) (af:Array Edge) (g:Option (Nat × Bool)) :
 execOp ρ { dst:=some 6,op:=.load 27 (.tmp 5),type:=ty,pos:=pos,after:=af,guard:=g } = ldV (ρ (.tmp 5)):=rfl
attribute [local go_sem ↓] execOp_ldW6 in
theorem values7_one {w:World} {F:Nat->Prop} (t:Th) (h1:SlAt w F t.vl t.v.l) (hvals:t.vals=.slice none 0 0) (hn:t.names=.slice none 0 0) :
 Calls Tryz.prog 240 #[.agg (thc t)] w fun e w'=>e=.returned (.slice (some ⟨w.heap.size+1,0,none⟩) 1 1)/\Bl w w'/\w'.heap[w.heap.size+1]? = some (.cells (vcs t.v t.vl) 27 (0,0)):=by
 obtain⟨pv,cv,hv⟩:=h1.form;obtain⟨k,h,⟨vk,vn,vstr,vl,vr⟩,raw,vs,vals,n,lo,tg,bi,s,fu,code,names⟩:=t;simp only at hv hvals h1 hn;subst hv hvals hn;have hld:=ld_what_v (t:=⟨k,h,⟨vk,vn,vstr,vl,vr⟩,.slice pv vl.length cv,vs,.slice none 0 0,n,lo,tg,bi,s,fu,code,.slice none 0 0⟩) (blk_new w (.cells (thc ⟨k,h,⟨vk,vn,vstr,vl,vr⟩,.slice pv vl.length cv,vs,.slice none 0 0,n,lo,tg,bi,s,fu,code,.slice none 0 0⟩) 46))
 have H0:Hid (Bl w ((w.alloc (.cells #[.int .u8 k,.int .i64 h,.int .u8 vk,.int .i64 vn,.string vstr,.slice pv vl.length cv,.int .i64 vr,.slice none 0 0,.int .i64 n,.int .i64 lo,.int .i64 tg,.int .i64 bi,.int .u8 s,.bool fu,code,.slice none 0 0] 46)).alloc (.cells #[.int .u8 vk,.int .i64 vn,.string vstr,.slice pv vl.length cv,.int .i64 vr] 27))/\((w.alloc (.cells #[.int .u8 k,.int .i64 h,.int .u8 vk,.int .i64 vn,.string vstr,.slice pv vl.length cv,.int .i64 vr,.slice none 0 0,.int .i64 n,.int .i64 lo,.int .i64 tg,.int .i64 bi,.int .u8 s,.bool fu,code,.slice none 0 0] 46)).alloc (.cells #[.int .u8 vk,.int .i64 vn,.string vstr,.slice pv vl.length cv,.int .i64 vr] 27)).heap[w.heap.size+1]? = some (.cells #[.int .u8 vk,.int .i64 vn,.string vstr,.slice pv vl.length cv,.int .i64 vr] 27 (0,0))/\((w.alloc (.cells #[.int .u8 k,.int .i64 h,.int .u8 vk,.int .i64 vn,.string vstr,.slice pv vl.length cv,.int .i64 vr,.slice none 0 0,.int .i64 n,.int .i64 lo,.int .i64 tg,.int .i64 bi,.int .u8 s,.bool fu,code,.slice none 0 0] 46)).alloc (.cells #[.int .u8 vk,.int .i64 vn,.string vstr,.slice pv vl.length cv,.int .i64 vr] 27)).cell? ⟨w.heap.size,15,none⟩=some (.slice none 0 0)) :=
  ⟨((Below.refl _ w).alloc (Nat.le_refl _) _).alloc (by simp) _,blk2_new w _ _,by rw [cell_blk (blk2_old w (.cells #[.int .u8 k,.int .i64 h,.int .u8 vk,.int .i64 vn,.string vstr,.slice pv vl.length cv,.int .i64 vr,.slice none 0 0,.int .i64 n,.int .i64 lo,.int .i64 tg,.int .i64 bi,.int .u8 s,.bool fu,code,.slice none 0 0] 46) (.cells #[.int .u8 vk,.int .i64 vn,.string vstr,.slice pv vl.length cv,.int .i64 vr] 27))];rfl⟩
 have HOwn:Hid (∀ A:Obj,((w.alloc A).alloc (.cells #[.int .u8 vk,.int .i64 vn,.string vstr,.slice pv vl.length cv,.int .i64 vr] 27)).ownsRow 0 27 5 (.slice (some ⟨w.heap.size+1,0,none⟩) 1 1) 1 [.int .u8 vk,.int .i64 vn,.string vstr,.slice pv vl.length cv,.int .i64 vr]):=fun A =>
  ⟨by simp,.inr ⟨w.heap.size+1,1,#[.int .u8 vk,.int .i64 vn,.string vstr,.slice pv vl.length cv,.int .i64 vr],rfl,Nat.zero_le _,blk2_new w _ _,by first | rfl | simp,by decide,by rfl,by rfl⟩⟩
 obtain⟨iv,hi,hz,i1,i2⟩:=info_parts infoVal;clear h1;simp only [thc,vcs]at hld ⊢
 go_enter Tryz.func240,Tryz.ntmps240
 go_upto_region 2 with fail
 go_wp2_with (at_builtin;refine wpList_append_own_none rfl _ _ 24 rfl 0 27 iv 5 Tryz.underlying24 hi _ 1 _ rfl (HOwn.out _) rfl ?_)
 clear hld HOwn;revert H0;generalize World.alloc (World.alloc w _) _=w2;intro H0;have c15:=H0.out.2.2
 go_loopw [3,4] (fun vx vi wr=>vx=.slice (some ⟨w.heap.size+1,0,none⟩) 1 1/\vi=.int .i64 0/\w2=wr) (fun _ _ _=>0)
 case atStart=>exact⟨rfl,rfl,rfl⟩
 case round =>
  obtain⟨rfl,rfl,rfl⟩:=hrel
  go_wp2_with fail
  go_ret
  exact⟨rfl,H0.out.1,H0.out.2.1⟩
theorem execOp_ldW18 (ρ:Operand->Value) (ty:TypeId) (pos:String) (af:Array Edge) (g:Option (Nat × Bool)) :
 execOp ρ { dst:=some 18,op:=.load 27 (.tmp 17),type:=ty,pos:=pos,after:=af,guard:=g } = ldV (ρ (.tmp 17)):=rfl
attribute [local go_sem ↓] execOp_ldW18 in
theorem refs7_one {w:World} {F:Nat->Prop} {n p q:Nat} (t:Th) (h1:SlAt w F t.vl t.v.l) (hvals:t.vals=.slice none 0 0) (hn:t.names=.slice none 0 0) (hp:p≤512) (hT:takeV n p t.v=some q) :
 Calls Tryz.prog 179 #[.agg (thc t)] w fun e w'=>∃ u,e=.returned u/\RefRow w' w.heap.size u (refsN n t.v)/\Bl w w':=by
 have hb0:Bl w (w.alloc (.cells (thc t) 46)):=(Below.refl _ w).alloc (Nat.le_refl _) _;have HV:=(show Hid _ from values7_one t (h1.on hb0) hvals hn);have HR:=(show Hid (∀ w',Bl w w'->Calls Tryz.prog 241 #[.agg (vcs t.v t.vl)] w' fun e w''=>∃ u,e=.returned u/\RefRow w'' w'.heap.size u (refsN n t.v)/\Bl w' w'')from fun w' hb=>refs7_W n t.v p q t.vl w' F hp hT (h1.on hb));have hld:=loadWhat_blk (blk_new w (.cells (thc t) 46)) rfl;have HL:Hid ((refsN n t.v).length≤512):=by have:=refsN_le hT;show _≤_;omega
 have HB0:Hid (Bl w (w.alloc (.cells (thc t) 46))/\(w.alloc (.cells (thc t) 46)).heap.size=w.heap.size+1):=⟨hb0,by simp⟩;clear h1 hvals hn hp hT hb0;generalize hrs:refsN n t.v=rs at *;clear hrs;obtain⟨tv,htv⟩:∃ tv,tv=vcs t.v t.vl:=⟨_,rfl⟩;rw [<- htv]at HV HR;have hs5:tv.size=5:=by rw [htv];rfl
 clear htv
 go_enter Tryz.func179,Tryz.ntmps179
 go_wp2_with fail
 refine Calls.mono HV.out ?_;rintro e w1 ⟨rfl,hb1,hg1⟩;obtain⟨G,hG⟩:∃ G,G=(w.alloc (.cells (thc t) 46)).heap.size+1:=⟨_,rfl⟩;have H1:=(show Hid (Bl w w1/\w1.heap[G]? = some (.cells tv 27 (0,0))/\RefRow w1 w1.heap.size (.slice none 0 0) [])from⟨HB0.out.1.trans (hb1.mono HB0.out.1.size),by rw [hG];exact hg1,World.ownsRow_nil _ _ _ _⟩);have HG1:Hid (w.heap.size≤w1.heap.size/\G<w1.heap.size):=⟨H1.out.1.size,blk_lt H1.out.2.1⟩;rw [<- hG];clear hG hg1 hb1 HV hld HB0
 go_wp2_with fail
 go_loopw [3,5] (fun vo vi wr=>∃ i:Nat,vi=.int .i64 i/\i≤1/\Hid (Bl w1 wr/\Bl w wr/\RefRow wr w1.heap.size vo (if i=0 then []else rs)/\wr.heap[G]? = some (.cells tv 27 (0,0)))) (fun _ vi _=>1 - (intOf vi).toNat)
 case atStart=>exact⟨0,rfl,Nat.zero_le _,Below.refl _ _,H1.out.1,H1.out.2.2,H1.out.2.1⟩
 case round =>
  clear H1;obtain⟨i,rfl,hi,HI⟩:=hrel
  by_cases h0:i=0
  ·subst h0;have hld:=loadV_blk HI.out.2.2.2 hs5
   go_wp2_with fail
   refine Calls.mono (HR.out _ HI.out.2.1) ?_;rintro e w3 ⟨u,rfl,hr3,hb3⟩;have HO:=(show Hid (w3.ownsRow w1.heap.size 25 1 u3 ([]:List Int).length (([]:List Int).map (Value.int .i64)))from refRow_on HI.out.2.2.1 hb3);have HN3:=(show Hid (w3.ownsRow wr.heap.size 25 1 u rs.length (rs.map (Value.int .i64)))from hr3);have HI3:=(show Hid (Bl w1 w3/\Bl w w3/\w3.heap[G]? = some (.cells tv 27 (0,0)))from⟨HI.out.1.trans (hb3.mono HI.out.1.size),HI.out.2.1.trans (hb3.mono HI.out.2.1.size),below_blk hb3 HI.out.2.2.2⟩);have HZ:Hid (w1.heap.size≤w3.heap.size):=HI3.out.1.size;clear hr3 hb3 HI hld;have Hlen:Hid (([]:List Int).length+rs.length≤1000000):=by show _≤_;have:=HL.out;simp;omega
   go_wp2_with (at_builtin;refine append_refs rfl _ _ rfl w1.heap.size _ _ [] rs rfl rfl HO.out _ HN3.out Hlen.out HZ.out ?_;intro v' w5 hown' hb5
                have HR5:=(show Hid (Bl w1 w5/\Bl w w5/\RefRow w5 w1.heap.size v' rs/\w5.heap[G]? = some (.cells tv 27 (0,0)))from⟨HI3.out.1.trans hb5,HI3.out.2.1.trans (hb5.mono HG1.out.1),hown',(hb5.block G HG1.out.2).trans HI3.out.2.2⟩)
                clear hown' hb5 HO HN3 HI3 HZ)
   go_roundw
   case rel=>exact⟨1,by go_num,by omega,HR5.out⟩
   case measure=>simp [intOf]
  ·obtain rfl:i=1:=by omega
   have HE:=(show Hid (RefRow wr w1.heap.size u3 rs/\Bl w wr)from⟨HI.out.2.2.1,HI.out.2.1⟩);clear HI
   go_wp2_with fail
   go_ret
   exact⟨_,rfl,refRow_mono HE.out.1 HG1.out.1,HE.out.2⟩
end
end Go.Proofs.YthaliljaglldjaaGreat
namespace Go.Proofs.YthaliljaglldjaaGreat
set_option maxHeartbeats 16000000
set_option maxRecDepth 20000
open Go.RowKit
section
def lateB (l:List Oper) (m:Nat) (late:List Nat):Bool :=
 (List.range l.length).all fun i=>decide (i=m) || late.contains i || l.zipIdx.any fun x=>decide (i<x.2) && (decide (x.2=m) || !late.contains x.2) && x.1.after.any fun e=>e.on==i && Region.binds .any e
theorem lateB_all {l:List Oper} {m:Nat} {late:List Nat} (h:lateB l m late=true) {A:Array Bool} (hm:A.getD m false=true)
 (hd:∀ (i:Nat) (o:Oper),l[i]? = some o->A.getD i false=true->∀ e ∈ o.after,Region.binds .any e=true->A.getD e.on false=true):∀ i,i<l.length->late.contains i=false->A.getD i false=true:=by
 have key:∀ n i,i<l.length->l.length - i≤n->late.contains i=false->A.getD i false=true:=by
  intro n
  induction n with
  | zero=>intro i hi hn;omega
  | succ n ih =>
    intro i hi hn hl;have:=List.all_eq_true.1 h i (List.mem_range.2 hi);simp only [Bool.or_eq_true,decide_eq_true_eq]at this
    rcases this with (h1 | h1) | h1
    ·subst h1;exact hm
    ·rw [h1]at hl
     cases hl
    ·obtain⟨⟨o,k⟩,hx,h2⟩:=List.any_eq_true.1 h1;simp only [Bool.and_eq_true,decide_eq_true_eq,Bool.or_eq_true]at h2;obtain⟨⟨h3,h4⟩,h5⟩:=h2;have hk:=List.mem_zipIdx_iff_getElem?.1 hx;have hkl:=(List.getElem?_eq_some_iff.1 hk).1
     have hAk:A.getD k false=true:=by
      rcases h4 with h4 | h4
      ·subst h4;exact hm
      ·exact ih k hkl (by omega) (by simpa using h4)
     obtain⟨j,hj,h6⟩:=Array.any_eq_true.1 h5;simp only [Bool.and_eq_true,beq_iff_eq]at h6;have:=hd k o hk hAk _ (Array.getElem_mem hj) h6.2
     rwa [h6.1]at this
 exact fun i hi=>key l.length i hi (by omega)
theorem growP_put {P:Program} {Q:Exit->Act->World->Prop} {l:List Oper} {a0:Act} (hB:growGB l a0.tmps.size=true) {R:World->World->Prop} {Φ Ψ:Nat->Value->World->Prop} {C D:World->Prop}
 {i:Nat} {o:Oper} {a:Act} {w:World} {L:Array Bool} (hI:GInv l R Φ (fun _=>false) C a0 L a w) (ho:l[i]? = some o)
 (hs:o.wp P a w (fun a' w'=>∃ v,a'=a.put o.dst v/\D w'/\Ψ i (o.dst.elim undef fun _=>v) w'/\∀ j u,j≠i->Φ j u w->Ψ j u w') Q) :
 o.wp P a w (GInv l R Ψ (fun _=>false) D a0 (L.setIfInBounds i true)) Q:=by
 obtain⟨at1,at2⟩:=growG_at hB;have ho':=ho;obtain⟨-,-,hd⟩:=at1 i o ho';refine Oper.wp_mono ?_ hs;rintro a' w' ⟨v,rfl,hD,hv,hR⟩
 have vother:∀ (j:Nat) (oj:Oper),j≠i->l[j]? = some oj->valOf oj (a.put o.dst v)=valOf oj a:=fun j oj hj hoj=>by
  cases hdo:o.dst with
  | none=>rfl
  | some d =>
    unfold valOf
    cases hdj:oj.dst with
    | none=>rfl
    | some t =>
      have:=at2 i j o oj (Ne.symm hj) ho' hoj d hdo;exact put_getD a d v t (fun e=>this (by rw [hdj,e]))
 have vself:valOf o (a.put o.dst v)=o.dst.elim undef fun _=>v:=by
  unfold valOf
  cases hdo:o.dst with
  | none=>rfl
  | some d=>exact put_getD_same a d v (by rw [hI.sz];exact hd d hdo)
 have lold:∀ j,j≠i->(L.setIfInBounds i true).getD j false=true->L.getD j false=true:=fun j hj h=>by
  rwa [getD_set_ne false (Ne.symm hj)]at h
 exact {
  lsz:=by simpa using hI.lsz
  c:=hD
  sz:=by
   rw [<- hI.sz]
   cases o.dst with
   | none=>rfl
   | some d=>simp [Act.put]
  df:=by
   rw [<- hI.df]
   cases o.dst <;> rfl
  fr:=fun t ht=>by
   rw [<- hI.fr t ht]
   cases hdo:o.dst with
   | none=>rfl
   | some d=>exact put_getD a d v t (fun e=>ht o (List.mem_of_getElem? ho') (by rw [hdo,e]))
  phi:=fun j oj hj hl=>by
   by_cases e:j=i
   ·subst e;rw [ho']at hj
    cases hj
    rw [vself];exact hv
   ·rw [vother j oj e hj];exact hR _ _ e (hI.phi j oj hj (lold j e hl))
  blk:=fun j oj hj hl hc=>by cases hc
  ne:=fun j k oj ok hne hj hk hlj hlk hcj hck=>by cases hcj }
theorem growP_step {P:Program} {Q:Exit->Act->World->Prop} {l:List Oper} {a0:Act} (hB:growGB l a0.tmps.size=true) (m:Nat) (late:List Nat) (_hlB:lateB l m late=true)
 (R:World->World->Prop) (Φ:Bool->Nat->Value->World->Prop) (C:Bool->World->Prop)
 (hΦ:∀ j v w w',R w w'->Φ false j v w->Φ false j v w') (hC:∀ w w',C false w->R w w'->C false w')
 {i:Nat} {o:Oper} {a:Act} {w:World} {A B:Array Bool}
 (step:i≠m->l[i]? = some o->C false w->Given l (Φ false) (fun _=>false) a0 o a w->o.wp P a w (fun a' w'=>∃ v,a'=a.put o.dst v/\R w w'/\Φ false i (o.dst.elim undef fun _=>v) w') Q)
 (turn:l[m]? = some o->C false w->Given l (Φ false) (fun _=>false) a0 o a w->o.wp P a w (fun a' w'=>∃ v,a'=a.put o.dst v/\C true w'/\Φ true m (o.dst.elim undef fun _=>v) w'/\∀ j u,j≠m->Φ false j u w->Φ true j u w') Q)
 (behind:late.contains i=true->l[i]? = some o->C true w->Given l (Φ true) (fun _=>false) a0 o a w->o.wp P a w (fun a' w'=>∃ v,a'=a.put o.dst v/\w'=w/\Φ true i (o.dst.elim undef fun _=>v) w') Q)
 (hI:GInv l R (Φ (A.getD m false)) (fun _=>false) (C (A.getD m false)) a0 B a w) (ho:l[i]? = some o) (hdep:∀ e ∈ o.after,Region.binds .any e=true->B.getD e.on false=true)
 (hBm:B.getD m false=A.getD m false) (hall:A.getD m false=true->∀ k ok,l[k]? = some ok->late.contains k=false->A.getD k false=true) (hAi:A.getD i false=false) (_hBA:∀ k,k<l.length->B.getD k false=A.getD k false) (hil:i<l.length) :
 o.wp P a w (GInv l R (Φ ((B.setIfInBounds i true).getD m false)) (fun _=>false) (C ((B.setIfInBounds i true).getD m false)) a0 (B.setIfInBounds i true)) Q:=by
 have hG:Given l (Φ (A.getD m false)) (fun _=>false) a0 o a w:=⟨fun e he hb oj hj=>hI.phi _ _ hj (hdep e he hb),hI.fr,hI.sz,fun e he f hf hbe hbf hne oi oj hi hj hci hcj=>by cases hci⟩;have hiB:i<B.size:=by rw [hI.lsz];exact hil
 cases hp:A.getD m false with
 | true =>
   rw [hp]at hI hG
   have him:i≠m:=fun e=>by
    subst e;rw [hp]at hAi
    cases hAi
   rw [getD_set_ne false him,hBm,hp]
   have hlate:late.contains i=true:=by
    cases h:late.contains i with
    | true=>rfl
    | false =>
      rw [hall hp i o ho h]at hAi
      cases hAi
   refine growP_put hB hI ho (Oper.wp_mono ?_ (behind hlate ho hI.c hG));rintro a' w' ⟨v,h1,rfl,h2⟩;exact⟨v,h1,hI.c,h2,fun j u _ h=>h⟩
 | false =>
   rw [hp]at hI hG
   by_cases him:i=m
   ·subst him;rw [getD_set_same' hiB];exact growP_put hB hI ho (turn ho hI.c hG)
   ·rw [getD_set_ne false him,hBm,hp];refine growP_put hB hI ho (Oper.wp_mono ?_ (step him ho hI.c hG));rintro a' w' ⟨v,h1,hR,h2⟩;exact⟨v,h1,hC _ _ hI.c hR,h2,fun j u _ h=>hΦ _ _ _ _ hR h⟩
theorem wp_region_growP {P:Program} {Q:Exit->Act->World->Prop} {id:Nat} {l:List Oper} {z:Oper} {t:List Oper} {a0:Act} {w0:World} (hm:P.follows .mixedOrders=true) (hB:growGB l a0.tmps.size=true)
 (ht:(chainB l.length 0 (z :: t) && lastB l z)=true)
 (m:Nat) (late:List Nat) (hml:m<l.length) (hlB:lateB l m late=true) (R:World->World->Prop) (Φ:Bool->Nat->Value->World->Prop) (C:Bool->World->Prop)
 (hΦ:∀ j v w w',R w w'->Φ false j v w->Φ false j v w') (hC0:C false w0.drew) (hC:∀ w w',C false w->R w w'->C false w')
 (hg:∀ (p:Bool) (i:Nat) (o:Oper) (g:Nat) (b:Bool),l[i]? = some o->o.guard=some (g,b)->∀ v w,Φ p g v w->v=.bool b)
 (step:∀ (i:Nat) (o:Oper) (a:Act) (w:World),i≠m->l[i]? = some o->C false w->Given l (Φ false) (fun _=>false) a0 o a w->o.wp P a w (fun a' w'=>∃ v,a'=a.put o.dst v/\R w w'/\Φ false i (o.dst.elim undef fun _=>v) w') Q)
 (turn:∀ (o:Oper) (a:Act) (w:World),l[m]? = some o->C false w->Given l (Φ false) (fun _=>false) a0 o a w->o.wp P a w (fun a' w'=>∃ v,a'=a.put o.dst v/\C true w'/\Φ true m (o.dst.elim undef fun _=>v) w'/\∀ j u,j≠m->Φ false j u w->Φ true j u w') Q)
 (behind:∀ (i:Nat) (o:Oper) (a:Act) (w:World),late.contains i=true->l[i]? = some o->C true w->Given l (Φ true) (fun _=>false) a0 o a w->o.wp P a w (fun a' w'=>∃ v,a'=a.put o.dst v/\w'=w/\Φ true i (o.dst.elim undef fun _=>v) w') Q)
 (done:∀ a w,C true w->a.defers=a0.defers->a.tmps.size=a0.tmps.size->(∀ s,(∀ oj ∈ l,oj.dst≠some s)->a.tmps.getD s undef=a0.tmps.getD s undef)->(∀ (i:Nat) (o:Oper),l[i]? = some o->Φ true i (valOf o a) w)->wpTailG P (l ++ (z :: t)).toArray Q (z :: t) a w) :
 (Code.region id (l ++ (z :: t)).toArray true).wp P Q a0 w0:=by
 obtain⟨at1,at2⟩:=growG_at hB;simp only [Bool.and_eq_true]at ht;obtain⟨ht,hz⟩:=ht
 have hat:∀ (i:Nat) (o:Oper),(l ++ (z :: t)).toArray[i]? = some o->(l[i]? = some o/\i<l.length)\/(∃ j,i=l.length+j/\(z :: t)[j]? = some o/\j<(z :: t).length):=fun i o ho=>by
  rw [List.getElem?_toArray,List.getElem?_append]at ho;split at ho
  ·exact .inl ⟨ho,by assumption⟩
  ·right
   rename_i h
   exact⟨i - l.length,by omega,ho,(List.getElem?_eq_some_iff.1 ho).1⟩
 have hget:∀ (i:Nat) (o:Oper),l[i]? = some o->(l ++ (z :: t)).toArray[i]? = some o:=fun i o ho=>by
  rw [List.getElem?_toArray,List.getElem?_append_left (List.getElem?_eq_some_iff.1 ho).1];exact ho
 refine wp_region_inv hm (fun A a w=>A.size=l.length+(z :: t).length /\
  ((∃ j,1≤j/\j≤(z :: t).length/\(∀ i,i<l.length+j->A.getD i false=true)/\(∀ i,l.length+j≤i->A.getD i false=false)/\wpTailG P (l ++ (z :: t)).toArray Q ((z :: t).drop j) a w) \/
   ((∀ i,l.length≤i->A.getD i false=false)/\(∀ (i:Nat) (o:Oper),l[i]? = some o->A.getD i false=true->∀ e ∈ o.after,Region.binds .any e=true->A.getD e.on false=true) /\
    ∃ B:Array Bool,(∀ i,i<l.length->B.getD i false=A.getD i false)/\GInv l R (Φ (A.getD m false)) (fun _=>false) (C (A.getD m false)) a0 B a w))) ?_ ?_ ?_ ?_
 ·intro i o ho e he
  rcases hat i o ho with ⟨ho,-⟩ | ⟨j,rfl,ho,-⟩
  ·exact(at1 i o ho).2.1 e he
  ·have:=(chainB_at ht ho).1 e he;omega
 ·refine⟨by simp,.inr ⟨fun i _=>getD_replicate_false _ _,(fun i o _ h=>by rw [getD_replicate_false]at h;cases h),Array.replicate l.length false,fun i _=>by rw [getD_replicate_false,getD_replicate_false],?_⟩⟩
  exact {
   lsz:=by simp
   c:=by rw [getD_replicate_false];exact hC0
   sz:=rfl
   df:=rfl
   fr:=fun t _=>rfl
   phi:=fun i o _ h=>by rw [getD_replicate_false]at h;cases h
   blk:=fun i o _ h=>by rw [getD_replicate_false]at h;cases h
   ne:=fun i j oi oj _ _ _ h=>by rw [getD_replicate_false]at h;cases h }
 ·rintro A a w i o ⟨hA,hI⟩ ho hAi hdep
  have hiA:i<A.size:=by
   rcases hat i o ho with ⟨-,hi⟩ | ⟨j,rfl,-,hj⟩ <;> omega
  have hAf:A.getD i false=false:=by
   simp only [Array.getD,hiA,dif_pos]at hAi ⊢;exact hAi
  rcases hI with ⟨k,hk1,hk2,hon,hoff,hq⟩ | ⟨hoff,hdn,B,hBA,hI⟩
  ·rcases hat i o ho with ⟨-,hi⟩ | ⟨j,rfl,hj,hjl⟩
   ·have:=hon i (by omega);rw [this]at hAf
    cases hAf
   ·have hjk:j=k:=by
     rcases Nat.lt_trichotomy j k with h | h | h
     ·have:=hon (l.length+j) (by omega);rw [this]at hAf
      cases hAf
     ·exact h
     ·exfalso
      obtain⟨e,he,h1,h2⟩:=(chainB_at ht hj).2 (by omega);have h3:=hdep e he h2;rw [h1,hoff _ (by omega)]at h3
      cases h3
    subst hjk
    have hdrop:(z :: t).drop j=o :: (z :: t).drop (j+1):=by
     rw [List.drop_eq_getElem_cons hjl,(List.getElem?_eq_some_iff.1 hj).2]
    rw [hdrop]at hq;obtain⟨hw,hq⟩:=hq;rw [if_pos hw];refine Oper.wp_mono ?_ hq;intro a' w' hq';refine⟨by simpa using hA,.inl ⟨j+1,by omega,by omega,fun i hi=>?_,fun i hi=>?_,hq'⟩⟩
    ·by_cases e:i=l.length+j
     ·subst e;exact getD_set_same' hiA
     ·rw [getD_set_ne false (by omega)];exact hon i (by omega)
    ·rw [getD_set_ne false (by omega)];exact hoff i (by omega)
  ·rcases hat i o ho with ⟨ho',hi⟩ | ⟨j,rfl,hj,hjl⟩
   ·have hdB:∀ e ∈ o.after,Region.binds .any e=true->B.getD e.on false=true:=fun e he hb=>by
     rw [hBA _ (Nat.lt_trans ((at1 i o ho').2.1 e he) hi)];exact hdep e he hb
    have hw:Region.wanted o (yielded (l ++ (z :: t)).toArray a.tmps)=true:=by
     unfold Region.wanted
     cases hgd:o.guard with
     | none=>rfl
     | some gb =>
       obtain⟨g,b⟩:=gb;obtain⟨e,he,h1,h2⟩:=(at1 i o ho').1 g b hgd
       have hgi:g<i:=by
        have:=(at1 i o ho').2.1 e he;omega
       obtain⟨og,hog⟩:∃ og,l[g]? = some og:=⟨_,List.getElem?_eq_getElem (by omega)⟩;have hphi:=hI.phi g og hog (by have:=hdB e he h2;rwa [h1]at this);have hv:=hg _ i o g b ho' hgd _ _ hphi
       have hy:yielded (l ++ (z :: t)).toArray a.tmps g=some b:=by
        unfold yielded;rw [hget g og hog];unfold valOf at hv
        cases hdg:og.dst with
        | none=>rw [hdg]at hv;simp [undef]at hv
        | some d =>
          rw [hdg]at hv;have hd:d<a.tmps.size:=by rw [hI.sz];exact(at1 g og hog).2.2 d hdg
          have hv:a.tmps.getD d undef=.bool b:=hv
          have:a.tmps[d]? = some (.bool b):=by
           rw [Array.getElem?_eq_getElem hd,← hv];simp [Array.getD,hd]
          simp [hdg,this]
       simp [hy]
    rw [if_pos hw];refine Oper.wp_mono ?_ (growP_step hB m late hlB R Φ C hΦ hC (step i o a w) (turn o a w) (behind i o a w) hI ho' hdB (hBA m hml) (fun hm1 k ok hok hl=>(lateB_all hlB hm1 hdn k (List.getElem?_eq_some_iff.1 hok).1 hl)) hAf (fun k hk=>hBA k hk) hi);rintro a' w' hI'
    rw [show (B.setIfInBounds i true).getD m false=(A.setIfInBounds i true).getD m false by
     by_cases e:i=m
     ·subst e;rw [getD_set_same' hiA,getD_set_same' (by rw [hI.lsz];exact hi)]
     ·rw [getD_set_ne false e,getD_set_ne false e]
      exact hBA m hml]at hI'
    refine⟨by simpa using hA,.inr ⟨fun x hx=>?_,fun x ox hox hxA e he hb=>?_,_,fun x hx=>?_,hI'⟩⟩
    ·rw [getD_set_ne false (by omega)];exact hoff x hx
    ·by_cases e1:x=i
     ·subst e1;rw [ho']at hox
      cases hox
      have h1:=(at1 x o ho').2.1 e he;rw [getD_set_ne false (by omega)];exact hdep e he hb
     ·rw [getD_set_ne false (Ne.symm e1)]at hxA;have h3:=hdn x ox hox hxA e he hb
      by_cases e2:i=e.on
      ·rw [<- e2];exact getD_set_same' hiA
      ·rw [getD_set_ne false e2];exact h3
    ·by_cases e:i=x
     ·subst e;rw [getD_set_same' hiA,getD_set_same' (by rw [hI.lsz];exact hi)]
     ·rw [getD_set_ne false e,getD_set_ne false e];exact hBA x hx
   ·have hj0:j=0:=by
     rcases Nat.eq_zero_or_pos j with h | h
     ·exact h
     ·exfalso
      obtain⟨e,he,h1,h2⟩:=(chainB_at ht hj).2 (by omega);have h3:=hdep e he h2;rw [h1,hoff _ (by omega)]at h3
      cases h3
    subst hj0;have hz':o=z:=by simpa using hj.symm
    subst hz';have hall:=lastB_all hz hdep hdn;have hBall:∀ i,i<l.length->B.getD i false=true:=fun i hi=>by rw [hBA i hi];exact hall i hi
    rw [hall m hml]at hI;obtain⟨hw,hd⟩:=done a w hI.c hI.df hI.sz hI.fr (fun i o ho=>hI.phi i o ho (hBall i (List.getElem?_eq_some_iff.1 ho).1));rw [if_pos hw];refine Oper.wp_mono ?_ hd;intro a' w' hq';refine⟨by simpa using hA,.inl ⟨1,by omega,by simp,fun i hi=>?_,fun i hi=>?_,hq'⟩⟩
    ·by_cases e:i=l.length
     ·subst e;exact getD_set_same' hiA
     ·rw [getD_set_ne false (by omega)];exact hall i (by omega)
    ·rw [getD_set_ne false (by omega)];exact hoff i (by omega)
 ·rintro A a w ⟨hA,⟨k,hk1,hk2,hon,hoff,hq⟩ | ⟨hoff,-⟩⟩ hall
  ·have hk:k=(z :: t).length:=by
    rcases Nat.lt_or_ge k (z :: t).length with h | h
    ·exfalso
     have h1:=hall (l.length+k) (by simp at h ⊢;omega);have h2:=hoff (l.length+k) (Nat.le_refl _);have h3:l.length+k<A.size:=by omega
     simp only [Array.getD,h3,dif_pos]at h1 h2;rw [h1]at h2
     cases h2
    ·omega
   subst hk
   simpa [wpTailG]using hq
  ·exfalso
   have h1:=hall l.length (by simp);have h2:=hoff l.length (Nat.le_refl _);have h3:l.length<A.size:=by simp at hA;omega
   simp only [Array.getD,h3,dif_pos]at h1 h2;rw [h1]at h2
   cases h2
theorem wp_region_growPK {P:Program} {Q:Exit->Act->World->Prop} {id:Nat} {L:List Oper} {a0:Act} {w0:World} (k m:Nat) (late:List Nat) {z:Oper} {t:List Oper} (hm:P.follows .mixedOrders=true) (hk:L.drop k=z :: t) (hB:growGB (L.take k) a0.tmps.size=true)
 (ht:(chainB (L.take k).length 0 (L.drop k) && lastB (L.take k) z)=true) (hml:m<(L.take k).length) (hlB:lateB (L.take k) m late=true)
 (R:World->World->Prop) (Φ:Bool->Nat->Value->World->Prop) (C:Bool->World->Prop)
 (hΦ:∀ j v w w',R w w'->Φ false j v w->Φ false j v w') (hC0:C false w0.drew) (hC:∀ w w',C false w->R w w'->C false w')
 (hg:∀ (p:Bool) (i:Nat) (o:Oper) (g:Nat) (b:Bool),(L.take k)[i]? = some o->o.guard=some (g,b)->∀ v w,Φ p g v w->v=.bool b)
 (step:∀ (i:Nat) (o:Oper) (a:Act) (w:World),i≠m->(L.take k)[i]? = some o->C false w->Given (L.take k) (Φ false) (fun _=>false) a0 o a w->o.wp P a w (fun a' w'=>∃ v,a'=a.put o.dst v/\R w w'/\Φ false i (o.dst.elim undef fun _=>v) w') Q)
 (turn:∀ (o:Oper) (a:Act) (w:World),(L.take k)[m]? = some o->C false w->Given (L.take k) (Φ false) (fun _=>false) a0 o a w->o.wp P a w (fun a' w'=>∃ v,a'=a.put o.dst v/\C true w'/\Φ true m (o.dst.elim undef fun _=>v) w'/\∀ j u,j≠m->Φ false j u w->Φ true j u w') Q)
 (behind:∀ (i:Nat) (o:Oper) (a:Act) (w:World),late.contains i=true->(L.take k)[i]? = some o->C true w->Given (L.take k) (Φ true) (fun _=>false) a0 o a w->o.wp P a w (fun a' w'=>∃ v,a'=a.put o.dst v/\w'=w/\Φ true i (o.dst.elim undef fun _=>v) w') Q)
 (done:∀ a w,C true w->a.defers=a0.defers->a.tmps.size=a0.tmps.size->(∀ s,(∀ oj ∈ L.take k,oj.dst≠some s)->a.tmps.getD s undef=a0.tmps.getD s undef)->(∀ (i:Nat) (o:Oper),(L.take k)[i]? = some o->Φ true i (valOf o a) w)->wpTailG P L.toArray Q (L.drop k) a w) :
 (Code.region id L.toArray true).wp P Q a0 w0:=by
 rw [hk]at ht done;have hL:L.take k ++ (z :: t)=L:=by rw [<- hk,List.take_append_drop]
 revert hB ht hml hlB hg step turn behind done hL;generalize L.take k=l;intro hB ht hml hlB hg step turn behind done hL;clear hk;subst hL;exact wp_region_growP hm hB ht m late hml hlB R Φ C hΦ hC0 hC hg step turn behind done
end
end Go.Proofs.YthaliljaglldjaaGreat
