/- Part of the proof. -/
import Derived.Test.YthaliljaglldjaaGreatmAM
set_option linter.unusedSimpArgs false
namespace Go.Proofs.YthaliljaglldjaaGreat
set_option maxHeartbeats 16000000
set_option maxRecDepth 20000
section
def WM.set (M:WM) (r:Int) (t:Th):WM:={ M with things:=M.things.map fun x=>if x.1=r then (x.1,t)else x }
theorem jL (l:List (Int × Th)) (r:Int) (t:Th) (q:Int):(l.map fun x=>if x.1=r then (x.1,t)else x).lookup q=if q=r then (l.lookup q).map fun _=>t else l.lookup q:=by
 induction l with
 | nil=>simp
 | cons x l ih =>
   obtain⟨a,b⟩:=x;rw [List.map_cons]
   by_cases ha:a=r
   ·subst ha;rw [if_pos rfl,List.lookup_cons,List.lookup_cons,ih]
    by_cases e:q=a
    ·subst e;simp
    ·simp [e,show (q==a)=false by simpa using e]
   ·rw [if_neg ha,List.lookup_cons,List.lookup_cons,ih]
    by_cases e:q=a
    ·subst e;simp [ha]
    ·simp [show (q==a)=false by simpa using e]
theorem WM.set_at (M:WM) (r:Int) (t:Th) (q:Int):(M.set r t).at q=if q=r then (M.at q).map fun _=>t else M.at q:=jL M.things r t q
theorem WM.set_at_ne (M:WM) {r:Int} (t:Th) {q:Int} (h:q≠r):(M.set r t).at q=M.at q:=by rw [WM.set_at,if_neg h]
theorem WM.set_at_self {M:WM} {r:Int} {u:Th} (t:Th) (h:M.at r=some u):(M.set r t).at r=some t:=by rw [WM.set_at,if_pos rfl,h];rfl
theorem WM.set_at_some {M:WM} {r:Int} {t:Th} {q:Int} {v:Th} (h:(M.set r t).at q=some v):(q=r/\v=t/\∃ u,M.at q=some u)\/(q≠r/\M.at q=some v):=by
 rw [WM.set_at]at h;split at h
 ·rename_i e
  rw [Option.map_eq_some_iff]at h;obtain⟨u,hu,rfl⟩:=h;exact .inl ⟨e,rfl,u,hu⟩
 ·rename_i e
  exact .inr ⟨e,h⟩
theorem WM.set_len (M:WM) (r:Int) (t:Th):(M.set r t).things.length=M.things.length:=by simp [WM.set]
structure SetOk (M:WM) (r:Int) (u t:Th):Prop where
 was:M.at r=some u
 kind:t.kind=u.kind
 home:t.home=u.home
 tgt:t.kind≠13->t.tgt=u.tgt
 tgtw:(Lit.int .i64 t.tgt).wf=true
 bi:t.bi=u.bi
 set:t.set=u.set
theorem fU (r:Int) (t:Th) (P:Int × Th->Bool):∀ (l:List (Int × Th)),(∀ x ∈ l,x.1=r->P (x.1,t)=P x)->((l.map fun x=>if x.1=r then (x.1,t)else x).find? P).map (·.1)=(l.find? P).map (·.1)
 | [],_=>rfl
 | x :: l,h=>by
   have ih:=fU r t P l fun y hy=>h y (by simp [hy]);have hx:=h x (by simp);rw [List.map_cons,List.find?_cons,List.find?_cons]
   by_cases e:x.1=r
   ·rw [if_pos e,hx e]
    cases P x with
    | true=>rfl
    | false=>exact ih
   ·rw [if_neg e]
    cases P x with
    | true=>rfl
    | false=>exact ih
theorem WM.set_find {M:WM} {r:Int} {u t:Th} (hM:M.ok) (h:SetOk M r u t) (a b:Int):(M.set r t).find a b=M.find a b:=by
 refine fU r t _ M.things fun x hx hr=>?_;have hu:M.at x.1=some x.2:=hM.at_of_mem hx;rw [hr,h.was]at hu
 cases hu
 show (t.kind==14 && t.tgt==a && t.set==b)=(x.2.kind==14 && x.2.tgt==a && x.2.set==b);rw [h.kind,h.set]
 by_cases h14:x.2.kind=14
 ·rw [h.tgt (by rw [h.kind,h14];decide)]
 ·rw [show (x.2.kind==14)=false by simpa using h14];rfl
theorem WM.set_ok {M:WM} {r:Int} {u t:Th} (hM:M.ok) (h:SetOk M r u t):(M.set r t).ok where
 sides:=hM.sides
 cuts:=hM.cuts
 made:=hM.made
 tree:=hM.tree
 keys:=by
  show (M.things.map _).Pairwise _;rw [List.pairwise_map];refine hM.keys.imp ?_;intro x y hxy;have e:∀ z:Int × Th,(if z.1=r then (z.1,t)else z).1=z.1:=fun z=>by split <;> rfl
  rw [e,e];exact hxy
 range x hx:=by
  obtain⟨y,hy,rfl⟩:=List.mem_map.1 hx;have:=hM.range y hy;split <;> exact this
 last:=hM.last
 mades:=hM.mades
 wf q v hv:=by
  rcases WM.set_at_some hv with ⟨rfl,rfl,-⟩ | ⟨-,hv⟩
  ·have:=hM.wf _ _ h.was;exact⟨by rw [h.kind];exact this.kind,h.tgtw,by rw [h.bi];exact this.bi,by rw [h.set];exact this.set⟩
  ·exact hM.wf q v hv
 homes q v hv hk:=by
  rcases WM.set_at_some hv with ⟨rfl,rfl,-⟩ | ⟨-,hv⟩
  ·have:=hM.homes _ _ h.was (by rw [<- h.kind];exact hk);rw [<- h.home]at this;exact this
  ·exact hM.homes q v hv hk
 wrap:=by
  obtain⟨rk,h1,h2⟩:=hM.wrap;refine⟨rk,h1,fun q v hv hw=>?_⟩
  have key:∃ x,M.at v.tgt=some x/\rk v.tgt<rk q:=by
   rcases WM.set_at_some hv with ⟨rfl,rfl,-⟩ | ⟨-,hv⟩
   ·have hk:cC u.kind=true:=by rw [<- h.kind];exact hw
    have h13:v.kind≠13:=by rintro e;rw [e]at hw;cases hw
    obtain⟨⟨x,hx⟩,h4⟩:=h2 _ _ h.was hk;rw [<- h.tgt h13]at hx h4;exact⟨x,hx,h4⟩
   ·obtain⟨⟨x,hx⟩,h4⟩:=h2 _ _ hv hw;exact⟨x,hx,h4⟩
  obtain⟨x,hx,h4⟩:=key;refine⟨?_,h4⟩;rw [WM.set_at,hx];split <;> exact⟨_,rfl⟩
 gate q v hv hk:=by
  have key:∃ x,M.at v.bi=some x/\x.kind=13:=by
   rcases WM.set_at_some hv with ⟨rfl,rfl,-⟩ | ⟨-,hv⟩
   ·obtain⟨x,hx,h4⟩:=hM.gate _ _ h.was (by rw [<- h.kind];exact hk);rw [<- h.bi]at hx;exact⟨x,hx,h4⟩
   ·exact hM.gate _ _ hv hk
  obtain⟨x,hx,h4⟩:=key;rw [WM.set_at,hx];split
  ·rename_i e
   refine⟨t,rfl,?_⟩;rw [e,h.was]at hx
   cases hx
   rw [h.kind,h4]
  ·exact⟨x,rfl,h4⟩
 purse q v hv hk:=by
  have key:∃ x,M.at v.tgt=some x/\x.kind=8:=by
   rcases WM.set_at_some hv with ⟨rfl,rfl,-⟩ | ⟨-,hv⟩
   ·obtain⟨x,hx,h4⟩:=hM.purse _ _ h.was (by rw [<- h.kind];exact hk);rw [<- h.tgt (by rw [hk];decide)]at hx;exact⟨x,hx,h4⟩
   ·exact hM.purse _ _ hv hk
  obtain⟨x,hx,h4⟩:=key;rw [WM.set_at,hx];split
  ·rename_i e
   refine⟨t,rfl,?_⟩;rw [e,h.was]at hx
   cases hx
   rw [h.kind,h4]
  ·exact⟨x,rfl,h4⟩
 facet q v q' v' hv hv' k k' e1 e2:=by
  have key:∀ {q v},(M.set r t).at q=some v->v.kind=14->∃ x,M.at q=some x/\x.kind=14/\x.tgt=v.tgt/\x.set=v.set:=by
   intro q v hv hk
   rcases WM.set_at_some hv with ⟨rfl,rfl,-⟩ | ⟨-,hv⟩
   ·exact⟨u,h.was,by rw [<- h.kind];exact hk,(h.tgt (by rw [hk];decide)).symm,h.set.symm⟩
   ·exact⟨v,hv,hk,rfl,rfl⟩
  obtain⟨x,hx,a1,a2,a3⟩:=key hv k;obtain⟨y,hy,b1,b2,b3⟩:=key hv' k';exact hM.facet q x q' y hx hy a1 b1 (by rw [a2,b2,e1]) (by rw [a3,b3,e2])
end
end Go.Proofs.YthaliljaglldjaaGreat
namespace Go.Proofs.YthaliljaglldjaaGreat
set_option maxHeartbeats 16000000
set_option maxRecDepth 20000
open Go.RowKit Go.ChangeMaps Go.MapKept
section
variable {w:World} {p:Nat} {M:WM} {F:Nat->Prop} {pa:Option Addr} {pc cg cc mg mc tb fb fn:Nat} {bl:Int->Nat}
theorem uP (M:WM) (r:Int) (t:Th) (bl:Int->Nat) (key:Value):fB (M.set r t) bl key=fB M bl key:=by
 unfold fB;split
 ·rw [WM.set_at];split
  ·cases M.at _ <;> rfl
  ·rfl
 ·rfl
theorem wG {r:Int} {u t:Th} (hM:M.ok) (h:SetOk M r u t) (key:Value):kL (M.set r t) key=kL M key:=by
 unfold kL;split
 ·split
  ·rw [WM.set_find hM h]
  ·rfl
 ·rfl
theorem WV.turn (h:WV w p M F pa pc cg cc mg mc tb fb fn bl) {r:Int} {u t:Th} (hs:SetOk M r u t) {w':World} (_:w.heap.size≤w'.heap.size) (hB:w'.heap[bl r]? = some (.cells (aF t) 46 (0,0)))
 (hoth:∀ b,F b->b≠bl r->w'.heap[b]? = w.heap[b]?) {F':Nat->Prop} (hF:∀ b,F b->F' b) (hlt:∀ b,F' b->b<w'.heap.size) (hd:Deep w' F' t):WV w' p (M.set r t) F' pa pc cg cc mg mc tb fb fn bl:=by
 have hBr:=(h.blk r u hs.was).1
 have keep:∀ b o,F b->w.heap[b]? = some o->(∀ (cs:Array Value) (fr:Nat × Nat),o≠Obj.cells cs 46 fr)->w'.heap[b]? = w.heap[b]?:=fun b o hFb hb ho=>by
  refine hoth b hFb fun e=>?_;subst e;rw [hBr]at hb
  cases hb
  exact ho _ _ rfl
 obtain⟨mcur,hm⟩:=h.mad.is;obtain⟨ccur,hc⟩:=h.cut.is;obtain⟨tes,tcl,ht⟩:=h.things.is;obtain⟨fes,fcl,hf⟩:=h.facets.is
 exact {
  hp:=(keep p _ h.own.1 h.hp (by simp)).trans h.hp
  pars:=fun j x hx=>by
   obtain⟨b,o,h1,h2,⟨cs,fr,h3⟩,h4⟩:=h.pars j x hx;have k:=keep b _ h2 h3 (by simp);exact⟨b,o,h1,hF _ h2,⟨cs,fr,k.trans h3⟩,(World.cell?_of_block (a:=⟨b,o+j,none⟩) k).trans h4⟩
  cut:=h.cut.of_block (keep cg _ h.own.2.1 hc (by simp))
  mad:=h.mad.of_block (keep mg _ h.own.2.2.1 hm (by simp))
  things:=by
   rw [WM.set_len];exact(h.things.of_block (keep tb _ h.own.2.2.2.1 ht (by simp))).congr (fun key _ _=>uP M r t bl key)
  facets:=(h.facets.of_block (keep fb _ h.own.2.2.2.2 hf (by simp))).congr (fun key _ _=>wG h.ok hs key)
  fnle:=h.fnle
  blk:=fun q v hv=>by
   rcases WM.set_at_some hv with ⟨rfl,rfl,-⟩ | ⟨hne,hv⟩
   ·exact⟨hB,hF _ (h.blk _ _ hs.was).2.1,hd⟩
   ·obtain⟨h1,h2,h3⟩:=h.blk q v hv;have hbl:bl q≠bl r:=fun e=>hne (h.inj q r v u hv hs.was e);refine⟨(hoth _ h2 hbl).trans h1,hF _ h2,h3.of_blocks (fun b cs e fr hFb hb he=>keep b _ hFb hb fun cs' fr' x=>?_) hF⟩
    cases x
    simp [gJ]at he
  inj:=fun q q' v v' hv hv' e=>by
   have key:∀ {q v},(M.set r t).at q=some v->∃ x,M.at q=some x:=fun {q v} hv=>by
    rcases WM.set_at_some hv with ⟨-,-,x⟩ | ⟨-,hv⟩
    ·exact x
    ·exact⟨_,hv⟩
   obtain⟨x,hx⟩:=key hv;obtain⟨y,hy⟩:=key hv';exact h.inj q q' x y hx hy e
  own:=⟨hF _ h.own.1,hF _ h.own.2.1,hF _ h.own.2.2.1,hF _ h.own.2.2.2.1,hF _ h.own.2.2.2.2⟩
  tf:=h.tf
  lt:=hlt
  ok:=WM.set_ok h.ok hs }
end
section
variable {w:World} {p:Nat} {M:WM} {F:Nat->Prop}
theorem xA (hW:IsW w p M F) {r k h vk vn n l tg bi s vk' vn' n' l':Int} {fu':Bool} (hr:(Lit.int .i64 r).wf=true) (ht:M.at r=some (lt k h vk vn n l tg bi s false)) (hp:Plain vk' vn')
 (hform:∀ w,IsW w p M F->Calls Tryz.prog 74 #[P_ p,.agg (wr k h vk' vn' n' l' tg bi s fu')] w fun e w'=>e=.returned (.bool true)/\Bl w w') :
 Calls Tryz.prog 107 #[P_ p,J r,.agg (wr k h vk' vn' n' l' tg bi s fu')] w fun e w'=>e=.returned (J 0)/\IsW w' p (M.set r (lt k h vk' vn' n' l' tg bi s fu')) F/\Keeps F w w':=by
 have hB0:Bl w (w.alloc (.cells (wr k h vk' vn' n' l' tg bi s fu') 46)):=br.alloc aH _;have b0:=ai w (.cells (wr k h vk' vn' n' l' tg bi s fu') 46);obtain⟨wa,hwa⟩:∃ wa,wa=w.alloc (.cells (wr k h vk' vn' n' l' tg bi s fu') 46):=⟨_,rfl⟩;have HB0:Hid (Bl w wa):=by rw [hwa];exact hB0
 have Hb0:Hid (wa.heap[w.heap.size]? = some (.cells (wr k h vk' vn' n' l' tg bi s fu') 46 (0,0))):=by rw [hwa];exact b0
 have Hwa:Hid _:=hwa;have HW:Hid (IsW w p M F):=hW;have Hf:Hid _:=hform;have Ht:Hid (M.at r=some (lt k h vk vn n l tg bi s false)):=ht;obtain⟨pa,pc,cg,cc,mg,mc,tb,fb,fn,bl,hV⟩:=hW;have HV:Hid _:=hV
 have ds:Hid (∀ w',Bl wa w'->w'.cell? ⟨w.heap.size,0,none⟩=some (.int .u8 k)/\w'.cell? ⟨w.heap.size,1,none⟩=some (.int .i64 h)/\w'.cell? ⟨w.heap.size,10,none⟩=some (.int .i64 tg)/\w'.cell? ⟨w.heap.size,11,none⟩=some (.int .i64 bi)/\w'.cell? ⟨w.heap.size,12,none⟩=some (.int .u8 s) /\
  w'.cell? ⟨bl r,0,none⟩=some (.int .u8 k)/\w'.cell? ⟨bl r,1,none⟩=some (.int .i64 h)/\w'.cell? ⟨bl r,10,none⟩=some (.int .i64 tg)/\w'.cell? ⟨bl r,11,none⟩=some (.int .i64 bi)/\w'.cell? ⟨bl r,12,none⟩=some (.int .u8 s)/\w'.cell? ⟨bl r,13,none⟩=some (.bool false) /\
  (dZ (P_ w.heap.size)).run Tryz.prog w'=.ok (.value (.agg (wr k h vk' vn' n' l' tg bi s fu'))) w'/\IsW w' p M F):=fun w' hb=>by
  have hbl:=(HV.out.below (HB0.out.trans (hb.mono HB0.out.size))).blk r _ Ht.out;obtain⟨q0,q1,-,-,q10,q11,q12,q13⟩:=dO hbl.1;have hg:=ae hb Hb0.out;exact⟨by rw [ag hg];rfl,by rw [ag hg];rfl,by rw [ag hg];rfl,by rw [ag hg];rfl,by rw [ag hg];rfl,q0,q1,q10,q11,q12,q13,aD hg rfl,HW.out.below (HB0.out.trans (hb.mono HB0.out.size))⟩
 clear hV hB0 b0 hform ht hwa
 go_enter Tryz.func107,Tryz.ntmps107
 go_wp2_with fail
 rw [<- Hwa.out];have hWa:=HW.out.below HB0.out;refine(eF hWa).mono ?_;rintro e _ ⟨rfl,rfl⟩
 go_wp2_with fail
 refine(gN hWa hr).mono ?_;rw [Ht.out];rintro e _ ⟨rfl,rfl⟩;have c2:=(HV.out.below HB0.out).c2;have hlk:=(HV.out.below HB0.out).look hr;rw [Ht.out]at hlk;simp only [Option.map_some]at hlk;clear hWa
 go_wp2_with fail
 refine cZ (C:=fun w'=>Bl wa w') (by kernel_rfl) (by kernel_rfl) below_drew ?_
 repeat (first
  | go_big_quiet_step (fail)
  | quiet_step (fail)
  | (refine wpQuiet_step (fun K hK=>?_);go_simp;first
   | (refine hK _ ?_;clear hK K)
   | (apply Exists.intro
      refine⟨fun w' hC=>?_,hK _ ?_⟩
      ·obtain⟨q1,q2,q3,q4,q5,q6,q7,q8,q9,q10,q11,q12,q13⟩:=ds.out w' hC
       first
        | exact rfl
        | (go_simp;exact rfl)
        | (go_simp;exact⟨rfl,rfl⟩)
        | exact(Hf.out w' q13).mono fun e w'' ⟨he,hb⟩=>⟨he,hC.trans (hb.mono hC.size)⟩
      clear hK K)))
 refine wpQuiet_nil ?_;intro w5 hC5;have HB5:Hid (Bl wa w5):=hC5;have l5:=(ds.out w5 hC5).2.2.2.2.2.2.2.2.2.2.2.1;clear hC5 c2 hlk
 go_wp2_with fail
 refine(qA _ _ k h vk' vn' n' l' tg bi s fu' hp).mono ?_;rintro e w6 ⟨rfl,hb6⟩;have HB6:Hid (Bl wa w6):=HB5.out.trans (hb6.mono HB5.out.size);have l6:=(ds.out w6 HB6.out).2.2.2.2.2.2.2.2.2.2.2.1;clear hb6 l5 HB5
 go_wp2_with fail
 refine(lf _ k h vk' vn' n' l' tg bi s fu' hp).mono ?_;rintro e w7 ⟨rfl,hb7⟩;have HB7:Hid (Bl wa w7):=HB6.out.trans (hb7.mono HB6.out.size);have B7:=((HV.out.below (HB0.out.trans (HB7.out.mono HB0.out.size))).blk r _ Ht.out).1;rw [bS]at B7;have hst:=aS (c':=(wr k h vk' vn' n' l' tg bi s fu')) B7 rfl rfl (by simp [go_sem]);have G7:Hid _:=ah (c':=(wr k h vk' vn' n' l' tg bi s fu')) B7;have HB8:Hid (Bl w w7):=HB0.out.trans (HB7.out.mono HB0.out.size);clear hb7 B7 l6
 go_wp2_with fail
 go_ret
 refine⟨rfl,?_,?_⟩
 ·have hV7:=HV.out.below HB8.out;refine⟨pa,pc,cg,cc,mg,mc,tb,fb,fn,bl,hV7.turn (u:=lt k h vk vn n l tg bi s false) (t:=lt k h vk' vn' n' l' tg bi s fu') ⟨Ht.out,rfl,rfl,fun _=>rfl,(hV7.ok.wf _ _ Ht.out).tgt,rfl,rfl⟩ (by simp [World.setRow]) G7.out (fun b _ hb=>aj _ _ _ _ hb) (fun _ h=>h) (fun b hb=>by have:=hV7.lt b hb;simpa [World.setRow]using this) (qu _ _ _ _ _ _ _ _ _ _ _ _)⟩
 ·have hF:=(HV.out.blk r _ Ht.out).2.1;exact Below.keeps HB8.out ⟨rfl,rfl,rfl,by simp [World.setRow],fun b _ hb=>aj _ _ _ _ (fun e=>hb (e ▸ hF))⟩
end
section
variable {w:World} {p:Nat} {M:WM} {F:Nat->Prop}
def fI (k:Int):Bool:=k==15 || k==16
theorem uz (k:Int) (w:World):Calls Tryz.prog 76 #[U k] w fun e w'=>e=.returned (.bool (ec k))/\w=w':=by
 have hwr:=we k w
 by_cases h6:k=6
 ·subst h6
  go_enter Tryz.func76,Tryz.ntmps76
  go_wp2
  go_ret
  exact⟨rfl,rfl⟩
 by_cases h7:k=7
 ·subst h7
  go_enter Tryz.func76,Tryz.ntmps76
  go_wp2
  go_ret
  exact⟨rfl,rfl⟩
 by_cases h9:k=9
 ·subst h9
  go_enter Tryz.func76,Tryz.ntmps76
  go_wp2
  go_ret
  exact⟨rfl,rfl⟩
 by_cases h11:k=11
 ·subst h11
  go_enter Tryz.func76,Tryz.ntmps76
  go_wp2
  go_ret
  exact⟨rfl,rfl⟩
 have e6:(k==6)=false:=by simpa using h6
 have e7:(k==7)=false:=by simpa using h7
 have e9:(k==9)=false:=by simpa using h9
 have e11:(k==11)=false:=by simpa using h11
 have hv:ec k=cC k:=by simp [ec,e6,e7,e9,e11]
 rw [hv];clear hv h6 h7 h9 h11
 go_enter Tryz.func76,Tryz.ntmps76
 go_wp2_with fail
 refine hwr.mono ?_;rintro e _ ⟨rfl,rfl⟩
 go_wp2_with fail
 go_ret
 exact⟨rfl,rfl⟩
def wW (M:WM) (t:Th):WM:=match (M.add t).at t.bi with
 | some u=>(M.add t).set t.bi { u with tgt:=M.last+1 }
 | none=>M.add t
def em (M:WM) (t:Th):WM:=if t.kind=15 then wW M t else M.add t
def MadeG (w:World) (p:Nat) (M:WM) (F:Nat->Prop) (h:Int) (T:Th->Prop) (e:Ending) (w':World):Prop :=
 (M.made.getD h.toNat 0<512/\e=.returned (.tuple #[J (M.last+1),J 0])/\∃ t F',T t/\IsW w' p (em M t) F'/\Grew F w F' w') \/
 (¬ M.made.getD h.toNat 0<512/\e=.returned (.tuple #[J 0,J 8])/\Bl w w')
def zy (w w':World):Nat->Prop:=fun b=>w.heap.size≤b/\b<w'.heap.size
structure MakeIn (w:World) (p:Nat) (M:WM) (F:Nat->Prop) (k h n l tg bi s:Int) (fu:Bool) (c2 c3 c4 c5 c6 c7 c14 c15:Value) (T:Th->Prop):Prop where
 form:∀ w1,Bl w w1->Calls Tryz.prog 74 #[P_ p,.agg #[U k,J h,c2,c3,c4,c5,c6,c7,J n,J l,J tg,J bi,U s,.bool fu,c14,c15]] w1 fun e w'=>e=.returned (.bool true)/\Bl w1 w'
 names:∀ w1,Bl w w1->Calls Tryz.prog 75 #[P_ p,.agg #[U k,J h,c2,c3,c4,c5,c6,c7,J n,J l,J tg,J bi,U s,.bool fu,c14,c15]] w1 fun e w'=>e=.returned (.bool true)/\Bl w1 w'
 fits:∀ w1,Bl w w1->Calls Tryz.prog 78 #[P_ p,J 0,.agg #[U k,J h,c2,c3,c4,c5,c6,c7,J n,J l,J tg,J bi,U s,.bool fu,c14,c15]] w1 fun e w'=>e=.returned (.bool true)/\Bl w1 w'
 own:∀ w1,Bl w w1->Calls Tryz.prog 80 #[.agg #[U k,J h,c2,c3,c4,c5,c6,c7,J n,J l,J tg,J bi,U s,.bool fu,c14,c15]] w1 fun e w'=>∃ t,T t/\e=.returned (.agg (aF t))/\Bl w1 w'/\Deep w' (zy w1 w') t
 k14:(k==14)=false
 k13:k=13->tg=0
 tgw:(Lit.int .i64 tg).wf=true
 biw:(Lit.int .i64 bi).wf=true
 home:0≤h/\h<M.made.length
 hA:ec k=true->(M.at tg).isSome=true
 hB:fI k=true->(M.at bi).isSome=true
 add:M.made.getD h.toNat 0<512->∀ t,T t->t.kind=k/\t.home=h/\t.bi=bi/\AddOk M t
theorem aX {w:World} {b:Nat} {o:Obj} (h:w.heap[b]? = some o):w.drew.heap[b]? = some o:=h
theorem ft (hW:IsW w p M F) {k h n l tg bi s:Int} {fu:Bool} {c2 c3 c4 c5 c6 c7 c14 c15:Value} {T:Th->Prop} (I:MakeIn w p M F k h n l tg bi s fu c2 c3 c4 c5 c6 c7 c14 c15 T) :
 Calls Tryz.prog 14 #[P_ p,.agg #[U k,J h,c2,c3,c4,c5,c6,c7,J n,J l,J tg,J bi,U s,.bool fu,c14,c15]] w (MadeG w p M F h T):=by
 have HI:Hid _:=I;have HW:Hid (IsW w p M F):=hW;have k14:=I.k14;have hb0:Bl w (w.alloc (.cells #[U k,J h,c2,c3,c4,c5,c6,c7,J n,J l,J tg,J bi,U s,.bool fu,c14,c15] 46)):=br.alloc aH _;have HB0:Hid _:=hb0;clear hW I hb0
 go_enter Tryz.func14,Tryz.ntmps14
 go_wp2_with fail
 refine(eF (HW.out.below HB0.out)).mono ?_;rintro e _ ⟨rfl,rfl⟩
 go_upto_region 3 with fail
 go_cut [27] (fun v wx=>v=.bool false/\Hid (Bl w wx)/\Hid (wx.heap[w.heap.size]? = some (.cells #[U k,J h,c2,c3,c4,c5,c6,c7,J n,J l,J tg,J bi,U s,.bool fu,c14,c15] 46 (0,0))))
 case first =>
  by_cases h13:k=13
  ·have h0:=HI.out.k13 h13;subst h13 h0
   go_wp2_with fail
   refine Calls.mono (HI.out.form _ HB0.out) ?_;rintro e w1 ⟨rfl,hb1⟩;have HB1:Hid (Bl w w1):=HB0.out.trans (hb1.mono (by simp));have B1:Hid _:=ae hb1 (ai _ _);clear hb1
   go_wp2_with fail
   go_meet
   exact⟨rfl,HB1,B1⟩
  ·have k13:(k==13)=false:=by simpa using h13
   clear h13
   go_wp2_with fail
   refine Calls.mono (HI.out.form _ HB0.out) ?_;rintro e w1 ⟨rfl,hb1⟩;have HB1:Hid (Bl w w1):=HB0.out.trans (hb1.mono (by simp));have B1:Hid _:=ae hb1 (ai _ _);clear hb1
   go_wp2_with fail
   go_meet
   exact⟨rfl,HB1,B1⟩
 obtain⟨rfl,HB1,B1⟩:=hcut;generalize wc=w1 at *
 go_upto_region 5 with fail
 go_cut [55] (fun v wx=>v=.bool false/\Hid (Bl w wx)/\Hid (wx.heap[w.heap.size]? = some (.cells #[U k,J h,c2,c3,c4,c5,c6,c7,J n,J l,J tg,J bi,U s,.bool fu,c14,c15] 46 (0,0))))
 case first =>
  have l1:=aD B1.out rfl
  go_wp2_with fail
  refine Calls.mono (HI.out.names _ HB1.out) ?_;rintro e w2 ⟨rfl,hb2⟩;have HB2:Hid (Bl w w2):=HB1.out.trans (hb2.mono HB1.out.size);have B2:Hid _:=ae hb2 B1.out;clear hb2 l1;have c0:w2.cell? ⟨w.heap.size,0,none⟩=some (.int .u8 k):=by rw [ag B2.out];rfl
  have c10:w2.cell? ⟨w.heap.size,10,none⟩=some (.int .i64 tg):=by rw [ag B2.out];rfl
  have c11:w2.cell? ⟨w.heap.size,11,none⟩=some (.int .i64 bi):=by rw [ag B2.out];rfl
  go_wp2_with fail
  refine(uz k _).mono ?_;have hA:=HI.out.hA;generalize ec k=A at hA;have HA:Hid (A=true->(M.at tg).isSome=true):=hA;clear hA;rintro e _ ⟨rfl,rfl⟩
  cases A
  ·go_wp2_with fail
   refine(nf k _).mono ?_;have hB:=HI.out.hB;unfold fI at hB;generalize (k==15 || k==16)=B at hB;have HB:Hid (B=true->(M.at bi).isSome=true):=hB;clear hB;rintro e _ ⟨rfl,rfl⟩
   cases B
   ·go_wp2_with fail
    go_meet
    exact⟨rfl,HB2,B2⟩
   ·go_wp2_with fail
    refine(gN (HW.out.below HB2.out) HI.out.biw).mono ?_;rw [HB.out (by simp)];rintro e _ ⟨rfl,rfl⟩
    go_wp2_with fail
    go_meet
    exact⟨rfl,HB2,B2⟩
  ·go_wp2_with fail
   refine(gN (HW.out.below HB2.out) HI.out.tgw).mono ?_;rw [HA.out (by simp)];rintro e _ ⟨rfl,rfl⟩
   go_wp2_with fail
   refine(nf k _).mono ?_;have hB:=HI.out.hB;unfold fI at hB;generalize (k==15 || k==16)=B at hB;have HB:Hid (B=true->(M.at bi).isSome=true):=hB;clear hB;rintro e _ ⟨rfl,rfl⟩
   cases B
   ·go_wp2_with fail
    go_meet
    exact⟨rfl,HB2,B2⟩
   ·go_wp2_with fail
    refine(gN (HW.out.below HB2.out) HI.out.biw).mono ?_;rw [HB.out (by simp)];rintro e _ ⟨rfl,rfl⟩
    go_wp2_with fail
    go_meet
    exact⟨rfl,HB2,B2⟩
 obtain⟨rfl,HB2,B2⟩:=hcut;clear HB1 B1;generalize wc=w2 at *;have l2:=aD B2.out rfl
 go_wp2_with fail
 refine Calls.mono (HI.out.fits _ HB2.out) ?_;rintro e w3 ⟨rfl,hb3⟩;have HB3:Hid (Bl w w3):=HB2.out.trans (hb3.mono HB2.out.size);have B3:Hid _:=ae hb3 B2.out;clear hb3 l2 B2 HB2;obtain⟨q1,q2⟩:=HI.out.home;obtain⟨hn,hhn⟩:=Int.eq_ofNat_of_zero_le q1;have hq2:(hn:Int)<M.made.length:=by omega
 have hW3:=HW.out.below HB3.out;obtain⟨pa,pc,cg,cc,mg,mc,tb,fb,fn,bl,hV⟩:=hW3;have c5:=hV.c5;have c1:w3.cell? ⟨w.heap.size,1,none⟩=some (.int .i64 hn):=by rw [ag B3.out,hhn];rfl
 have hc:w3.cell? ⟨mg,hn,none⟩=some (.int .i64 (M.made.getD hn 0)):=hV.mad.cell (by rw [List.getElem?_map,List.getElem?_eq_getElem (by omega),List.getD_eq_getElem?_getD,List.getElem?_eq_getElem (by omega)];rfl);obtain⟨v,hv⟩:∃ v,v=M.made.getD hn 0:=⟨_,rfl⟩;have Hv:Hid (M.made.getD h.toNat 0=v):=by show _=_;rw [hv,hhn];rfl
 rw [<- hv]at hc;clear hv q1 q2 hV hhn
 by_cases hroom:v<512
 ·have Q3:¬ (512≤v):=by omega
  have l3:=aD (w:=w3.drew) (aX B3.out) rfl;have HR:Hid (M.made.getD h.toNat 0<512):=by show _<_;rw [Hv.out];exact hroom
  clear hroom
  go_wp2_with fail
  go_region
  clear c5 c1 hc hq2
  go_wp2_with fail
  refine Calls.mono (HI.out.own _ HB3.out.drew) ?_;rintro e w4 ⟨t,hT,rfl,hb4,hdeep⟩;have HB4:Hid (Bl w w4):=HB3.out.drew.trans (hb4.mono HB3.out.drew.size);have B4:Hid _:=ae hb4 (aX B3.out);obtain⟨t1,t2,t3,hadd⟩:=HI.out.add HR.out t hT
  have hlay:=zl (HW.out.below HB4.out) hadd hdeep (fun b hb=>⟨hb.2,fun hF=>by
   have h1:=HW.out.lt b hF;have h2:=HB3.out.size;have h3:=hb.1;have h4:w3.drew.heap.size=w3.heap.size:=rfl
   omega⟩)
  have HAdd:Hid (AddOk M t):=hadd;have HS3:Hid (w.heap.size≤w3.drew.heap.size):=HB3.out.size;have HT:Hid (T t/\t.kind=k/\t.home=h/\t.bi=bi):=⟨hT,t1,t2,t3⟩;clear hb4 l3 HB3 B3 t1 t2 t3 hT hdeep hadd
  go_wp2_with fail
  refine hlay.mono ?_;rintro e w5 ⟨rfl,hW5,hk5⟩;clear hlay;have B5:=(hk5.block _ (aw B4.out) (fun h=>Nat.lt_irrefl _ (HW.out.lt _ h))).trans B4.out;have a5:w5.cell? ⟨w.heap.size,0,none⟩=some (.int .u8 k):=by rw [ag B5];rfl
  have a11:w5.cell? ⟨w.heap.size,11,none⟩=some (.int .i64 bi):=by rw [ag B5];rfl
  have HF:Hid (∃ F',IsW w5 p (M.add t) F'/\Grew F w F' w5):=⟨_,hW5,Below.keeps HB4.out hk5,by
   have:=HB4.out.size;rintro b ((h | h) | h)
   ·exact .inl h
   ·have h1:=h.1;have h2:=HS3.out;right
    omega
   ·right;omega⟩
  clear hW5 hk5 HB4 B4 B5
  by_cases h15:k=15
  ·subst h15;obtain⟨F5,hW5,hg5⟩:=HF.out;obtain⟨u,hu,hu13⟩:=HAdd.out.gate HT.out.2.1;have hu5:=WM.add_at_old HW.out.ok t hu;rw [HT.out.2.2.2]at hu hu5
   have hset:SetOk (M.add t) bi u { u with tgt:=M.last+1 }:={
    was:=hu5
    kind:=rfl
    home:=rfl
    tgt:=fun h=>absurd hu13 h
    tgtw:=(show (Lit.int .i64 (M.last+1)).wf=true from WalkArith.wf_i64 (by have:=HAdd.out.last;have:=HW.out.ok.last;omega))
    bi:=rfl
    set:=rfl }
   have hmk:em M t=(M.add t).set bi { u with tgt:=M.last+1 }:=by
    rw [em,if_pos HT.out.2.1,wW,HT.out.2.2.2,hu5]
   obtain⟨pa5,pc5,cg5,cc5,mg5,mc5,tb5,fb5,fn5,bl5,hV5⟩:=hW5;obtain⟨hblk,hbF,hbd⟩:=hV5.blk bi u hu5;have c2':=hV5.c2
   have hlk:(Instr.lookup 137 (.map (some tb5)) (J bi) false).run Tryz.prog w5.drew=.ok (P_ (bl5 bi)) w5.drew:=by
    have:=(hV5.below (w':=w5.drew) ⟨rfl,rfl,rfl,aH,fun _ _=>rfl⟩).look HI.out.biw;rw [hu5]at this;exact this
   have hfr:=av hblk 10;have hc10:w5.cell? ⟨bl5 bi,10,none⟩=some (.int .i64 u.tgt):=by rw [ag hblk];rfl
   have hdn:Deep (w5.setCell ⟨bl5 bi,10,none⟩ (J (M.last+1))).drew F5 { u with tgt:=M.last+1 }:=by
    have D:Deep (w5.setCell ⟨bl5 bi,10,none⟩ (J (M.last+1))).drew F5 u:=hbd.of_blocks (fun b cs e fr hF hb he=>Below.heap_setCell w5 ⟨bl5 bi,10,none⟩ _ b (fun x=>by
     simp only at x;rw [x,hblk]at hb
     cases hb
     simp [gJ]at he)) fun _ h=>h
    exact⟨D.v,D.vs,D.code,D.names⟩
   have HFin:Hid (∃ F',IsW (w5.setCell ⟨bl5 bi,10,none⟩ (J (M.last+1))).drew p (em M t) F'/\Grew F w F' (w5.setCell ⟨bl5 bi,10,none⟩ (J (M.last+1))).drew):=by
    refine⟨F5,⟨pa5,pc5,cg5,cc5,mg5,mc5,tb5,fb5,fn5,bl5,?_⟩,?_⟩
    ·rw [hmk];have hB:(w5.setCell ⟨bl5 bi,10,none⟩ (J (M.last+1))).drew.heap[bl5 bi]? = some (.cells (aF { u with tgt:=M.last+1 }) 46 (0,0)):=aA hblk 10 _
     exact hV5.turn (w':=(w5.setCell ⟨bl5 bi,10,none⟩ (J (M.last+1))).drew) hset (by simp [World.setCell]) hB (fun b hF hb=>Below.heap_setCell w5 ⟨bl5 bi,10,none⟩ _ b hb) (fun b h=>h) (fun b h=>by have:=hV5.lt b h;simpa [World.setCell]using this) hdn
    ·refine⟨hg5.1.trans (Keeps.setCell (S:=fun b=>b=bl5 bi) w5 ⟨bl5 bi,10,none⟩ _ rfl).drew (fun _ _ h=>h) (fun b hb h=>?_),hg5.2⟩
     rcases hg5.2 _ hbF with h1 | h1
     ·rw [h];exact h1
     ·omega
   have hbi5:wrap64 (M.last+1)=M.last+1:=by
    have:=HAdd.out.last;have:=HW.out.ok.last;unfold wrap64;omega
   clear hV5 hset hmk hblk hbF hbd hu hu5 hg5 hu13 hbi5 hdn
   go_wp2_with fail
   go_still_tail 10,(by kernel_rfl)
   change wpList _ _ _ _ _ w5.drew
   go_wp2_with fail
   go_ret2
   exact .inl ⟨by have:=HR.out;omega,rfl,t,by obtain⟨F',f1,f2⟩:=HFin.out;exact⟨F',HT.out.1,f1,f2⟩⟩
  ·have k15:(k==15)=false:=by simpa using h15
   go_wp2_with fail
   go_ret2
   refine .inl ⟨by have:=HR.out;omega,rfl,t,?_⟩;obtain⟨F',f1,f2⟩:=HF.out;exact⟨F',HT.out.1,by rw [em,if_neg (by rw [HT.out.2.1];exact h15)];exact f1,f2⟩
 ·have Q3:512≤v:=by omega
  have HR:Hid (¬ M.made.getD h.toNat 0<512):=by show ¬ _<_;rw [Hv.out];exact hroom
  clear hroom
  go_wp2_with fail
  go_region
  clear c5 c1 hc hq2
  go_wp2_with fail
  go_ret2
  exact .inr ⟨by have:=HR.out;omega,rfl,HB3.out.drew⟩
end
section
variable {w:World} {p:Nat} {M:WM} {F:Nat->Prop}
theorem xd (w:World) (q:Option Addr) (r h vk vn n l tg bi s:Int) (fu:Bool):Calls Tryz.prog 78 #[.pointer q,J r,.agg (wr 2 h vk vn n l tg bi s fu)] w fun e w'=>e=.returned (.bool true)/\Below w.heap.size w w':=by
 go_enter Tryz.func78,Tryz.ntmps78
 go_wp2
 go_ret
 exact⟨rfl,by go_grown⟩
theorem xP (w:World) (q:Option Addr) (r h vk vn n l tg bi s:Int) (fu:Bool):Calls Tryz.prog 78 #[.pointer q,J r,.agg (wr 3 h vk vn n l tg bi s fu)] w fun e w'=>e=.returned (.bool true)/\Below w.heap.size w w':=by
 go_enter Tryz.func78,Tryz.ntmps78
 go_wp2
 go_ret
 exact⟨rfl,by go_grown⟩
theorem xH (w:World) (q:Option Addr) (r h vk vn n l tg bi s:Int) (fu:Bool):Calls Tryz.prog 78 #[.pointer q,J r,.agg (wr 4 h vk vn n l tg bi s fu)] w fun e w'=>e=.returned (.bool true)/\Below w.heap.size w w':=by
 go_enter Tryz.func78,Tryz.ntmps78
 go_wp2
 go_ret
 exact⟨rfl,by go_grown⟩
theorem xj (w:World) (q:Option Addr) (r h vk vn n l tg bi s:Int) (fu:Bool):Calls Tryz.prog 78 #[.pointer q,J r,.agg (wr 8 h vk vn n l tg bi s fu)] w fun e w'=>e=.returned (.bool true)/\Below w.heap.size w w':=by
 go_enter Tryz.func78,Tryz.ntmps78
 go_wp2
 go_ret
 exact⟨rfl,by go_grown⟩
theorem wu (w:World) (q:Option Addr) (r h vk vn n l tg bi s:Int) (fu:Bool):Calls Tryz.prog 78 #[.pointer q,J r,.agg (wr 10 h vk vn n l tg bi s fu)] w fun e w'=>e=.returned (.bool true)/\Below w.heap.size w w':=by
 go_enter Tryz.func78,Tryz.ntmps78
 go_wp2
 go_ret
 exact⟨rfl,by go_grown⟩
end
section
variable {w:World} {p:Nat} {M:WM} {F:Nat->Prop}
theorem IsW.drewN (hW:IsW w p M F) (m:Nat):IsW (w.drewN m) p M F:=hW.below ⟨rfl,rfl,rfl,aH,fun _ _=>rfl⟩
theorem WV.look_drewN {pa:Option Addr} {pc cg cc mg mc tb fb fn:Nat} {bl:Int->Nat} (h:WV w p M F pa pc cg cc mg mc tb fb fn bl) {q:Int} {t:Th} (hq:(Lit.int .i64 q).wf=true) (ht:M.at q=some t) (m:Nat) :
 (Instr.lookup 137 (.map (some tb)) (J q) false).run Tryz.prog (w.drewN m)=.ok (P_ (bl q)) (w.drewN m):=by
 have:=(h.below (w':=w.drewN m) ⟨rfl,rfl,rfl,aH,fun _ _=>rfl⟩).look hq;rw [ht]at this;exact this
theorem rZ (hW:IsW w p M F) {bw bx:Nat} {q k h:Int} {t:Th} (hq:(Lit.int .i64 q).wf=true) (ht:M.at q=some t) (hk:t.kind=k) (hh:t.home=h)
 (cw:w.cell? ⟨bw,0,none⟩=some (.pointer (some ⟨p,0,none⟩))) (cx:w.cell? ⟨bx,1,none⟩=some (.int .i64 h)) :
 Calls Tryz.prog 168 #[J q,U k,P_ bw,P_ bx] w fun e w'=>e=.returned (.bool true)/\∃ n,w'=w.drewN n:=by
 subst hk hh
 have hK:∀ m,Calls Tryz.prog 50 #[P_ p,J q] (w.drewN m) fun e w'=>e=.returned (U t.kind)/\w'=w.drewN m:=fun m =>
  (xu (hW.drewN m) hq).mono (by rintro e w' ⟨rfl,rfl⟩;exact⟨by simp [WM.kindOf,ht],rfl⟩)
 have HK:Hid _:=hK;obtain⟨pa,pc,cg,cc,mg,mc,tb,fb,fn,bl,h⟩:=hW;have c2:=h.c2;have hlk:=h.look_drewN hq ht;obtain⟨-,k1,-,-,-,-,-,-⟩:=dO (h.blk q t ht).1;have e1:(t.kind==t.kind)=true:=by simp
 have e2:(t.home==t.home)=true:=by simp
 clear h ht hq hK
 go_enter Tryz.func168,Tryz.ntmps168
 go_wp2_with fail
 go_quiet ((go_at_call 50;exact Calls.quiet_of_same (HK.out _)))
 go_wp2_with fail
 go_ret
 exact⟨rfl,_,rfl⟩
end
end Go.Proofs.YthaliljaglldjaaGreat
