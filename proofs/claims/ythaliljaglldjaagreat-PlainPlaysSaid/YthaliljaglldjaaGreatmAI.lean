/- Part of the proof. -/
import Derived.Test.YthaliljaglldjaaGreatmAH
import Derived.ArgAppend
import Derived.Laws.AppendOwnNone
namespace Go.Proofs.YthaliljaglldjaaGreat
set_option maxHeartbeats 16000000
set_option maxRecDepth 20000
open Go.RowKit Go.ChangeMaps Go.MapKept
section
theorem xy (w:World) (pa:Option Addr) (n c:Nat) (hn:n≤c) (h0:pa=none->n=0/\c=0):Calls Tryz.prog 293 #[.slice pa n c] w fun e w'=>e=.returned (.slice pa n n)/\w=w':=by
 cases pa with
 | none =>
   obtain⟨rfl,rfl⟩:=h0 rfl
   go_enter Tryz.func293,Tryz.ntmps293
   go_wp2_with fail
   go_ret
   exact⟨rfl,rfl⟩
 | some a =>
   go_enter Tryz.func293,Tryz.ntmps293
   go_wp2_with fail
   go_ret
   exact⟨rfl,rfl⟩
theorem gh {w:World} {base n:Nat} {v:Value} {xs:List Value} (h:w.ownsRow base 25 1 v n xs) {b:Nat} {cs:Array Value} {e:TypeId} {fr:Nat × Nat} (hb:w.heap[b]? = some (.cells cs e fr)) (he:e≠25):v.ownBlock≠some b:=by
 intro h1
 rcases h.2 with ⟨rfl,-⟩ | ⟨g,cap,cur,rfl,-,hg,-⟩
 ·cases h1
 ·simp only [Value.ownBlock,Option.some.injEq]at h1;subst h1;rw [hg]at hb
  cases hb
  exact he rfl
theorem bR {A B:World} (h:A.grownBy B none):Bl A B:=⟨h.os,h.tape,h.output,h.size,fun k hk=>h.block k hk (by simp)⟩
theorem RowBox.push {w w5:World} {base B:Nat} {xs:List Int} {vv v':Value} {y:Int} (hv:w.heap[B]? = some (.cells #[vv] 77 (0,0))) (hrow:w.ownsRow base 25 1 vv xs.length (xs.map (Value.int .i64)))
 (hown:w5.ownsRow base 25 1 v' (xs ++ [y]).length ((xs ++ [y]).map (Value.int .i64))) (hg:w.grownBy w5 vv.ownBlock) (hb:Below base w w5) (hB:base≤B) :
 w5.heap[B]? = some (.cells #[vv] 77 (0,0))/\RowBox (w5.setCell ⟨B,0,none⟩ v') base B (xs ++ [y])/\Below base w (w5.setCell ⟨B,0,none⟩ v')/\RefFr w (w5.setCell ⟨B,0,none⟩ v'):=by
 have h5:w5.heap[B]? = some (.cells #[vv] 77 (0,0)):=(hg.block B (aw hv) (fun e=>gh hrow hv (by decide) e.symm)).trans hv;refine⟨h5,⟨v',gV v' h5,hown.kept (grownBy_setCell' w5 B v') (.inr (gh hown h5 (by decide)))⟩,hb.setCell (p:=⟨B,0,none⟩) hB _,?_,fun b cs e fr h h1 h2=>?_⟩
 ·simpa [World.setCell]using hb.size
 ·have hbB:b≠B:=fun e'=>by
   subst e';rw [hv]at h
   cases h
   exact h2 rfl
  rw [Below.heap_setCell w5 ⟨B,0,none⟩ v' b hbB,hg.block b (aw h) (fun e'=>gh hrow h h1 e'.symm)];exact h
theorem RowBox.below {w w':World} {base B:Nat} {xs:List Int} (h:RowBox w base B xs) (hb:Bl w w'):RowBox w' base B xs:=by
 obtain⟨v,h1,h2⟩:=h;refine⟨v,ae hb h1,h2.kept (gB hb) ?_⟩
 cases hv:v.ownBlock with
 | none=>exact .inl rfl
 | some b=>exact .inr (by simp)
theorem vp {w:World} {base B:Nat} {xs:List Int} (v:Val) (raw pl:Value) (hR:RowBox w base B xs) (hB:base≤B) (hl:xs.length≤1000000) (hraw:∃ pa n c,raw=.slice pa n c) :
 Calls Tryz.prog 265 #[pl,.agg (au v raw),P_ B] w fun e w'=>e=.returned (.bool true)/\RowBox w' base B (if v.kind=4 then xs ++ [v.r]else xs)/\Below base w w'/\RefFr w w':=by
 obtain⟨pa,n,c,rfl⟩:=hraw;obtain⟨kind,nn,s,l,r⟩:=v;simp only [au]
 have hlt:B<w.heap.size:=by
  obtain⟨vv,hv,-⟩:=hR;exact aw hv
 have hb1:Bl w (w.alloc (.cells (V_ kind nn s (.slice pa n c) r) 27)):=br.alloc aH _;have HK:Hid (Bl w (w.alloc (.cells (V_ kind nn s (.slice pa n c) r) 27))/\B<w.heap.size/\base≤B):=⟨hb1,hlt,hB⟩;have HR:Hid _:=hR.below hb1;have Hn:Hid ((xs.length:Int)≤1099511627777):=by show _≤_;omega
 clear hR hlt hb1 hB hl
 by_cases hk:kind=4
 ·subst hk;rw [if_pos rfl];obtain⟨vv,hv,hrow⟩:=HR.out;have HV:Hid _:=And.intro hv hrow;have d0:(w.alloc (.cells (V_ 4 nn s (.slice pa n c) r) 27)).cell? ⟨B,0,none⟩=some vv:=by rw [ag hv];rfl
  have Hs:Hid (base≤(w.alloc (.cells (V_ 4 nn s (.slice pa n c) r) 27)).heap.size):=by
   have:=HK.out.1.size;have:=HK.out.2;show _≤_;omega
  clear hv hrow HR;have k4:(w.alloc (.cells (V_ 4 nn s (.slice pa n c) r) 27)).cell? ⟨w.heap.size,4,none⟩=some (.int .i64 r):=by rw [ag (ai _ _)];rfl
  go_enter Tryz.func265,Tryz.ntmps265
  go_upto_region 2 with fail
  revert HK HV d0 Hs k4;generalize w.alloc _=wa;intro HK HV d0 Hs k4
  go_wp2_with (first
   | (at_builtin;refine append_ref rfl _ _ rfl base vv xs rfl HV.out.2 r rfl Hn Hs.out ?_;intro v' w5 hown hg5 hb5
      obtain⟨h5,h6,h7,h8⟩:=RowBox.push HV.out.1 HV.out.2 hown hg5 hb5 HK.out.2.2;have HP:Hid _:=And.intro h6 (And.intro h7 h8);obtain⟨d5,f5⟩:=qW h5;obtain⟨g5,cap5,rfl⟩:=ownsRow_succ (k:=xs.length) (by simpa using hown)
      clear h5 h6 h7 h8 hown hg5 hb5))
  go_ret
  obtain⟨h6,h7,h8⟩:=HP.out;exact⟨rfl,h6,(HK.out.1.mono (by have:=HK.out.2;omega)).trans h7,(RefFr.of_below HK.out.1).trans h8⟩
 ·rw [if_neg hk];have hk':(kind==4)=false:=by simpa using hk
  go_enter Tryz.func265,Tryz.ntmps265
  go_wp2_with fail
  go_ret
  exact⟨rfl,HR.out,HK.out.1.mono (by have:=HK.out.2;omega),RefFr.of_below HK.out.1⟩
theorem aT {P:Program} {Q:Exit->Act->World->Prop} {R:World->World->Prop} {Φ:Value->World->Prop} {o:Oper} {a:Act} {w w':World} (v:Value) (hrun:(execOp a.eval o).run P w=.ok (.value v) w') (hR:R w w') (hφ:Φ (o.dst.elim undef fun _=>v) w') :
 o.wp P a w (fun a' w'=>∃ v,a'=a.put o.dst v/\R w w'/\Φ (o.dst.elim undef fun _=>v) w') Q:=by
 unfold Oper.wp;rw [hrun];exact⟨v,rfl,hR,hφ⟩
theorem nI:(Tryz.prog.info? 3).map (fun i=>(i.zero,i.size,i.bytes))=some (some (.int .i64 0),1,8):=by kernel_rfl
theorem ib {w:World} {base n:Nat} {v:Value} {xs:List Int} (hx:xs.length=n+1) (h:w.ownsRow base 3 1 v (n+1) (xs.map (Value.int .i64))):PlAt w v (n+1):=by
 obtain⟨g,cap,rfl⟩:=ownsRow_succ h
 have hl:n+1≤cap:=by
  rcases h.2 with ⟨h0,-⟩ | ⟨g',cap',cur,h0,-,-,h1,-⟩
  ·cases h0
  ·cases h0;exact h1
 refine⟨_,cap,rfl,hl,fun h=>(by cases h),fun a ha=>?_⟩
 cases ha
 refine⟨rfl,.inr ?_⟩
 obtain⟨cur,hg⟩:∃ cur,w.heap[g]? = some (.cells cur 3 (0,0)):=by
  rcases h.2 with ⟨h0,-⟩ | ⟨g',cap',cur,h0,-,hg,-⟩
  ·cases h0
  ·cases h0;exact⟨cur,hg⟩
 refine⟨cur,_,hg,fun j hj=>⟨xs[j],?_⟩⟩;have:=h.cellAt j (by omega);simp only [Nat.zero_add];rw [this,List.getElem?_map,List.getElem?_eq_getElem (by omega)];rfl
theorem rH {w:World} {pa:Option Addr} {n b:Nat} {i:Int} (hp:PlAt w (.slice pa n n) n) (hb:w.heap[b]? = some (.cells #[J i] 3 (0,0))) (hn:n≤1000000) :
 ∃ v' w',(Builtin.append_ #[64,64] 64 #[.slice pa n n,.slice (some ⟨b,0,none⟩) 1 1]).run Tryz.prog w=.ok v' w'/\PlAt w' v' (n+1)/\Bl w w':=by
 obtain⟨ii,hi,hz,h1,h2⟩:=info_parts nI
 have hc:∀ j u,([J i]:List Value)[j]? = some u->w.cell? ((⟨b,0,none⟩:Addr).add j)=some u:=fun j u hj=>by
  match j,hj with
  | 0,hj=>cases hj;rw [Addr.add_lit,ag hb];rfl
 cases pa with
 | none =>
   obtain⟨pa',c',e,-,h0,-⟩:=hp
   cases e
   obtain⟨rfl,-⟩:=h0 rfl;obtain⟨v',w',hrun,r1,r2,-⟩:=run_append_own (P:=Tryz.prog) w w.heap.size 64 64 3 ii _ 1 8 Tryz.underlying64 hi hz h1 h2 rfl (by decide) (S_) 0 [] (World.ownsRow_nil w _ _ 1) ⟨b,0,none⟩ 1 1 [J i] rfl hc (by simp [Value.oneCell']) (by unfold maxLen;omega) (by omega) aH;exact⟨v',w',hrun,ib (xs:=[i]) rfl r1,bR r2⟩
 | some a =>
   obtain⟨pa',c',e,-,-,h3⟩:=hp
   cases e
   have ⟨xs,hxl,hxc⟩:∃ xs:List Int,xs.length=n/\∀ j x,xs[j]? = some x->w.cell? (a.add j)=some (.int .i64 x):=by
    obtain⟨hs,h⟩:=h3 a rfl;obtain⟨ab,ao,sp⟩:=a;have hs:sp=none:=hs;subst hs
    rcases h with rfl | ⟨cs,fr,-,h⟩
    ·exact⟨[],rfl,fun j x hj=>by simp at hj⟩
    ·obtain⟨q,hq⟩:=Classical.axiomOfChoice (r:=fun(j:Fin n) (x:Int)=>w.cell? ⟨ab,ao+j,none⟩=some (.int .i64 x)) (fun j=>h j j.2);refine⟨List.ofFn q,by simp,fun j x hj=>?_⟩
     have hjn:j<n:=by
      have:=ji hj
      simpa using this
     rw [List.getElem?_eq_getElem (by simpa using hjn)]at hj;simp at hj;rw [Addr.add_mid,hq ⟨j,hjn⟩,← hj]
   obtain⟨v',w',hrun,r1,r2⟩:=run_append_arg_grows (P:=Tryz.prog) w 64 64 3 ii _ 1 8 Tryz.underlying64 hi hz h1 h2 rfl (by decide) a n n (xs.map (Value.int .i64)) (by simp [hxl]) (fun j u hj=>by
    rw [List.getElem?_map,Option.map_eq_some_iff]at hj;obtain⟨x,hx,rfl⟩:=hj
    exact hxc j x hx) ⟨b,0,none⟩ 1 1 [J i] rfl hc (by omega) (by unfold maxLen;omega) (by omega)
   exact⟨v',w',hrun,ib (xs:=xs ++ [i]) (by simp [hxl]) (by simpa using r1),bR r2⟩
def yV (B:Nat):Value:=.func (.func 265) #[] #[P_ B]
def tU (n:Nat):Prop:=∀ (v:Val) (raw:Value) (w:World) (F:Nat->Prop) (base B m:Nat) (out:List Int) (pl:Value),bY n v->(∀ b,F b->b<base)->SlAt w F raw v.l->PlAt w pl m->m+n≤100->base≤B->RowBox w base B out->out.length+(aN n v).length≤100000 ->
 Calls Tryz.prog 264 #[.agg (au v raw),pl,yV B] w fun e w'=>e=.returned (.bool true)/\RowBox w' base B (out ++ aN n v)/\Below base w w'/\RefFr w w'
def zC (w:World) (base B:Nat) (out:List Int) (cs:Array Value) (wr:World):Prop:=RowBox wr base B out/\Below base w wr/\RefFr w wr/\wr.heap[w.heap.size]? = some (.cells cs 27 (0,0))
def WPhi (x:Array Value) (pa:Option Addr) (m c:Nat) (i:Int) (y:Value) (j:Nat) (v:Value) (w:World):Prop :=
 match j with
 | 0=>v=.agg x
 | 1=>v=.slice pa m c
 | 2=>v=.slice pa m m
 | 3=>v=J i
 | 4=>∃ b,v=.slice (some ⟨b,0,none⟩) 1 1/\w.heap[b]? = some (.cells #[J i] 3 (0,0))
 | 5=>PlAt w v (m+1)
 | 6=>v=y
 | _=>True
theorem WPhi.stab {x:Array Value} {pa:Option Addr} {m c:Nat} {i:Int} {y:Value}:∀ (j:Nat) (v:Value) (w w':World),Bl w w'->WPhi x pa m c i y j v w->WPhi x pa m c i y j v w':=by
 intro j v w w' hR h;unfold WPhi at h ⊢;split at h
 ·exact h
 ·exact h
 ·exact h
 ·exact h
 ·obtain⟨b,h1,h2⟩:=h;exact⟨b,h1,ae hR h2⟩
 ·exact h.reffr (RefFr.of_below hR)
 ·exact h
 ·trivial
theorem kg:bX 21 27 20 bp:=fun _ _ _ _ _=>rfl
theorem qe:bX 22 27 8 bp:=fun _ _ _ _ _=>rfl
attribute [local go_sem ↓] kg in
theorem ld (n:Nat) (ih:∀ k,n=k+1->tU k):tU n:=by
 intro v raw w F base B m out pl hd hFb hS hpl hm hB hR hlen;have HFb:Hid (∀ b,F b->b<base):=hFb;clear hFb;obtain⟨pa,c,rfl⟩:=hS.form;obtain⟨pp,cc,rfl,hmc,hp0,-⟩:=id hpl;obtain⟨kind,nn,s,l,r⟩:=v;have IH:Hid _:=ih;have HD:Hid (bY n ⟨kind,nn,s,l,r⟩):=hd;have HS:Hid (SlAt w F (.slice pa l.length c) l):=hS;have HPl:Hid (PlAt w (.slice pp m cc) m):=hpl;have Hm:Hid (m+n≤100/\base≤B/\m≤cc/\(pp=none->m=0/\cc=0)):=⟨hm,hB,hmc,hp0⟩;have HR:Hid (RowBox w base B out):=hR;have Hlen:Hid (out.length+(aN n ⟨kind,nn,s,l,r⟩).length≤100000):=hlen
 have hlt:B<w.heap.size:=by
  obtain⟨vv,hv,-⟩:=hR;exact aw hv
 have Hlt:Hid (B<w.heap.size):=hlt;clear ih hd hS hpl hm hB hR hlen hmc hp0 hlt;simp only [au,yV];have hb1:Bl w (w.alloc (.cells (V_ kind nn s (.slice pa l.length c) r) 27)):=br.alloc aH _;have HB1:Hid _:=hb1;have hg1:=ai w (.cells (V_ kind nn s (.slice pa l.length c) r) 27);have HG1:Hid _:=hg1;clear hb1 hg1
 go_enter Tryz.func264,Tryz.ntmps264
 go_wp2_with fail
 refine(vp ⟨kind,nn,s,l,r⟩ (.slice pa l.length c) (.slice pp m cc) (HR.out.below HB1.out) Hm.out.2.1 (by have:=Hlen.out;omega) ⟨_,_,_,rfl⟩).mono ?_;rintro e w2 ⟨rfl,hbox,hbel,hfr⟩
 have HL:Hid (zC w base B (out ++ if kind=4 then [r]else []) (V_ kind nn s (.slice pa l.length c) r) w2):=by
  refine⟨?_,(HB1.out.mono (by have:=Hm.out.2.1;have:=Hlt.out;omega)).trans hbel,(RefFr.of_below HB1.out).trans hfr,hfr.2 _ _ _ _ HG1.out (by decide) (by decide)⟩;have h:RowBox w2 base B (if kind=4 then out ++ [r]else out):=hbox
  split at h
  ·rename_i hk
   rw [if_pos hk];exact h
  ·rename_i hk
   rw [if_neg hk,List.append_nil];exact h
 have c3:w2.cell? ⟨w.heap.size,3,none⟩=some (.slice pa l.length c):=by rw [ag HL.out.2.2.2];rfl
 clear hbox hbel hfr HB1 HG1
 go_wp2_with fail
 go_loopw [17] (fun vi wr=>∃ i:Nat,vi=J i/\i≤l.length/\Hid (zC w base B ((out ++ if kind=4 then [r]else []) ++ (l.take i).flatMap (aN (n - 1))) (V_ kind nn s (.slice pa l.length c) r) wr)) (fun vi _=>l.length - (intOf vi).toNat)
 case atStart=>exact⟨0,rfl,by omega,by simpa using HL⟩
 case round =>
  clear HL c3;obtain⟨i,rfl,hi,HL⟩:=hrel
  by_cases hil:i<l.length
  ·obtain⟨k,rfl⟩:∃ k,n=k+1:=by
    cases n with
    | zero =>
      have h0:l = []:=HD.out;rw [h0]at hil;simp at hil
    | succ k=>exact⟨k,rfl⟩
   obtain⟨x,hx⟩:∃ x,l[i]? = some x:=⟨_,List.getElem?_eq_getElem hil⟩;obtain⟨b,o,c',raw,hpe,hrg,-,-,hSx⟩:=(HS.out.base HFb.out HL.out.2.1).range hx
   cases hpe
   have hl512:l.length≤512:=HD.out.1;obtain⟨xk,xn,xs,xl,xr⟩:=x;obtain⟨pa2,c2,rfl⟩:=hSx.form;have hld0:=aY hrg rfl;have hld:(bp (R_ b (o+i * 5))).run Tryz.prog wr=.ok (.value (.agg (V_ xk xn xs (.slice pa2 xl.length c2) xr))) wr:=hld0;have hiz:(i:Int)<(l.length:Int):=by omega
   have hdx:=HD.out.2 ⟨xk,xn,xs,xl,xr⟩ (List.mem_of_getElem? hx);have HX:Hid (l[i]? = some ⟨xk,xn,xs,xl,xr⟩):=hx;have HSX:Hid (SlAt wr F (.slice pa2 xl.length c2) xl):=hSx;have HDX:Hid (bY k ⟨xk,xn,xs,xl,xr⟩):=hdx
   have Htk:Hid ((l.take (i+1)).flatMap (aN k)=(l.take i).flatMap (aN k) ++ aN k ⟨xk,xn,xs,xl,xr⟩):=by
    show _=_;rw [List.take_add_one,hx];simp
   have Hle:Hid (((out ++ if kind=4 then [r]else []) ++ (l.take i).flatMap (aN k)).length+(aN k ⟨xk,xn,xs,xl,xr⟩).length≤100000):=by
    have h1:=Hlen.out;have h2:aN (k+1) ⟨kind,nn,s,l,r⟩=(if kind=4 then [r]else []) ++ l.flatMap (aN k):=rfl
    rw [h2]at h1
    have h3:l.flatMap (aN k)=(l.take (i+1)).flatMap (aN k) ++ (l.drop (i+1)).flatMap (aN k):=by
     rw [<- List.flatMap_append,List.take_append_drop]
    rw [h3,Htk.out]at h1;show _≤_;simp only [List.length_append]at h1 ⊢;omega
   clear hld0 hx hrg hSx hdx
   go_upto_region 6 with fail
   have HB8:Hid (Bl wr (wr.alloc (.cells (V_ xk xn xs (.slice pa2 xl.length c2) xr) 27))):=br.alloc aH _;have HG8:Hid ((wr.alloc (.cells (V_ xk xn xs (.slice pa2 xl.length c2) xr) 27)).heap[wr.heap.size]? = some (.cells (V_ xk xn xs (.slice pa2 xl.length c2) xr) 27 (0,0))):=ai _ _;clear hld;revert HB8 HG8;generalize wr.alloc _=wa;intro HB8 HG8;have HPa:Hid (PlAt wa (.slice pp m cc) m):=HPl.out.reffr (HL.out.2.2.1.trans (RefFr.of_below HB8.out));refine aR 7 (by kernel_rfl) rfl (by kernel_rfl) (by kernel_rfl) (fun a b=>Bl a b) (WPhi (V_ xk xn xs (.slice pa2 xl.length c2) xr) pp m cc i (.func (.func 265) #[] #[P_ B])) (fun w'=>Bl wa w') (fun j v w w'=>WPhi.stab j v w w') below_drew (fun a b h hR=>h.trans (hR.mono h.size)) ?_ ?_ ?_
   ·exact fun _ _ _ _ h1 h2=>bC (by kernel_rfl) h1 h2
   ·intro j q a w7 hq hC hG;have hj:j<7:=ji hq
    match j,hj with
    | 0,_ =>
      cases hq;have h8:a.tmps.getD 8 undef=P_ wr.heap.size:=hG.fr 8 (by simp);refine aT (.agg (V_ xk xn xs (.slice pa2 xl.length c2) xr)) ?_ br rfl;rw [qe];show (bp (a.tmps.getD 8 undef)).run _ _=_;rw [h8];exact aI (ae hC HG8.out) rfl
    | 1,_ =>
      cases hq;have h1:a.tmps.getD 1 undef=.slice pp m cc:=hG.fr 1 (by simp);exact aT (.slice pp m cc) (by rw [<- h1];rfl) br rfl
    | 2,_ =>
      cases hq;have h23:a.tmps.getD 23 undef=.slice pp m cc:=gd hG 1 rfl;unfold Oper.wp;simp [go_sem,callFunc,Act.eval,Tryz.func293,h23];refine(xy w7 pp m cc Hm.out.2.2.1 Hm.out.2.2.2).mono ?_;rintro e _ ⟨rfl,rfl⟩;exact⟨_,rfl,br,rfl⟩
    | 3,_ =>
      cases hq;have h7:a.tmps.getD 7 undef=J i:=hG.fr 7 (by simp);exact aT (J i) (by rw [<- h7];rfl) br rfl
    | 4,_ =>
      cases hq;have h25':=gq (i:=25) (gd hG 3 rfl);unfold Oper.wp;simp [execOp,go_sem,Act.eval,h25'];exact⟨_,rfl,br.alloc aH _,⟨w7.heap.size,rfl,ai _ _⟩⟩
    | 5,_ =>
      cases hq;have h24:a.tmps.getD 24 undef=.slice pp m m:=gd hG 2 rfl;obtain⟨b',h26,hb'⟩:=gd hG 4 rfl;have h26:a.tmps.getD 26 undef=.slice (some ⟨b',0,none⟩) 1 1:=h26
      have hpl:PlAt w7 (.slice pp m m) m:=by
       obtain⟨pa',c',e,-,h0,h3⟩:=HPa.out.reffr (RefFr.of_below hC)
       cases e
       exact⟨_,_,rfl,aH,fun h=>⟨(h0 h).1,(h0 h).1⟩,h3⟩
      obtain⟨v',w8,hrun,hp8,hb8⟩:=rH hpl hb' (by have:=Hm.out.1;omega);refine aT v' ?_ hb8 hp8;simp [execOp,resolve,invoke,builtin,Act.eval,h24,h26,hrun,Result.andThen]
    | 6,_ =>
      cases hq;have h2:a.tmps.getD 2 undef=.func (.func 265) #[] #[P_ B]:=hG.fr 2 (by simp);exact aT (.func (.func 265) #[] #[P_ B]) (by rw [<- h2];rfl) br rfl
   ·intro a w7 hC hdf hsz hfr hphi;have h22:a.tmps.getD 22 undef=.agg (V_ xk xn xs (.slice pa2 xl.length c2) xr):=hphi 0 _ rfl;have h23:a.tmps.getD 23 undef=.slice pp m cc:=hphi 1 _ rfl;have h24:a.tmps.getD 24 undef=.slice pp m m:=hphi 2 _ rfl;have h25:a.tmps.getD 25 undef=J i:=hphi 3 _ rfl;obtain⟨b',h26,-⟩:=hphi 4 _ rfl;have h26:a.tmps.getD 26 undef=.slice (some ⟨b',0,none⟩) 1 1:=h26;have h28:a.tmps.getD 28 undef=.func (.func 265) #[] #[P_ B]:=hphi 6 _ rfl;obtain⟨pl',h27⟩:∃ v,a.tmps.getD 27 undef=v:=⟨_,rfl⟩
    have hpl':PlAt w7 pl' (m+1):=by
     have:PlAt w7 (a.tmps.getD 27 undef) (m+1):=hphi 5 _ rfl
     rwa [h27]at this
    have ha:=bq hdf hsz hfr;simp only [List.take_succ_cons,List.take_zero,List.filterMap_cons,List.filterMap_nil,List.foldl_cons,List.foldl_nil,List.setIfInBounds_toArray,List.set_cons_zero,List.set_cons_succ,h22,h23,h24,h25,h26,h27,h28]at ha;clear hdf hsz hfr hphi h22 h23 h24 h25 h26 h27 h28;subst ha;have hb7:Bl wr w7:=HB8.out.trans (hC.mono HB8.out.size);refine⟨rfl,?_⟩;unfold Oper.wp;simp [go_sem,callFunc,Act.eval,Tryz.func264];refine(IH.out k rfl ⟨xk,xn,xs,xl,xr⟩ (.slice pa2 xl.length c2) w7 F base B (m+1) ((out ++ if kind=4 then [r]else []) ++ (l.take i).flatMap (aN k)) pl' HDX.out HFb.out (HSX.out.on hb7) hpl' (by have:=Hm.out.1;omega) Hm.out.2.1 (HL.out.1.below hb7) Hle.out).mono ?_
    rintro e w9 ⟨rfl,hbox,hbel,hfr9⟩
    have HL':Hid (zC w base B ((out ++ if kind=4 then [r]else []) ++ (l.take (i+1)).flatMap (aN k)) (V_ kind nn s (.slice (some ⟨b,o,none⟩) l.length c) r) w9):=by
     obtain⟨h1,h2,h3,h4⟩:=HL.out
     have hb7':Below base wr w7:=hb7.mono (by
      obtain⟨vv,hv,-⟩:=h1;have:=aw hv;have:=Hm.out.2.1
      omega)
     refine⟨?_,h2.trans (hb7'.trans hbel),h3.trans ((RefFr.of_below hb7).trans hfr9),hfr9.2 _ _ _ _ (ae hb7 h4) (by decide) (by decide)⟩;rw [Htk.out,← List.append_assoc];exact hbox
    refine⟨rfl,?_⟩;unfold Oper.wp;simp [execOp,go_sem,Act.eval];clear hbox hbel hfr9 hb7 h26 hpl' hC HL HX HSX HDX Htk Hle HB8 HG8 HPa;refine ‹∀ (a:Act) (w:World),Code.wp Tryz.prog _ _ a w->_› _ _ ?_
    go_wp2_with fail
    go_roundw
    case rel=>exact⟨i+1,by go_num,by omega,HL'⟩
    case measure =>
     simp [intOf];omega
  ·have hiz:¬ (i:Int)<(l.length:Int):=by omega
   obtain rfl:i=l.length:=by omega
   have HE:Hid (RowBox wr base B (out ++ aN n ⟨kind,nn,s,l,r⟩)/\Below base w wr/\RefFr w wr):=by
    obtain⟨h1,h2,h3,-⟩:=HL.out;refine⟨?_,h2,h3⟩;rw [List.take_length]at h1
    cases n with
    | zero =>
      have h0:l = []:=HD.out;subst h0
      simpa [aN]using h1
    | succ k=>simpa [aN]using h1
   clear HL
   go_wp2_with fail
   go_ret
   exact⟨rfl,HE.out⟩
theorem xQ (n:Nat):tU n:=by
 induction n with
 | zero=>exact ld 0 (fun k h=>by cases h)
 | succ n ih=>exact ld (n+1) (fun k h=>by cases h;exact ih)
def gX (w w':World) (v:Value) (xs:List Int):Prop:=w'.ownsRow w.heap.size 25 1 v xs.length (xs.map (Value.int .i64))
theorem mC {w:World} {F:Nat->Prop} (v:Val) (raw:Value) (hS:SlAt w F raw v.l):Calls Tryz.prog 231 #[.agg (au v raw)] w fun e w'=>∃ u,e=.returned u/\gX w w' u (aM v)/\Bl w w':=by
 obtain⟨pa,c,rfl⟩:=hS.form;obtain⟨kind,nn,s,l,r⟩:=v;simp only [au];have HS:Hid (SlAt w F (.slice pa l.length c) l):=hS;clear hS;have hb2:Bl w ((w.alloc (.cells (V_ kind nn s (.slice pa l.length c) r) 27)).alloc (.cells #[S_] 77)):=(br.alloc aH _).alloc (by simp) _;have hg2:=aK w (.cells (V_ kind nn s (.slice pa l.length c) r) 27) (.cells #[S_] 77);have hs2:((w.alloc (.cells (V_ kind nn s (.slice pa l.length c) r) 27)).alloc (.cells #[S_] 77)).heap.size=w.heap.size+2:=by simp
 have HB2:Hid _:=And.intro hb2 (And.intro hg2 hs2);clear hb2 hg2 hs2
 go_enter Tryz.func231,Tryz.ntmps231
 go_wp2_with fail
 refine(dF (v:=⟨kind,nn,s,l,r⟩) (raw:=.slice pa l.length c) (HS.out.on HB2.out.1)).mono ?_;rintro e w3 ⟨rfl,hb3⟩;have hg3:=ae hb3 HB2.out.2.1;have hv3:=ae hb3 (aL w (.cells (V_ kind nn s (.slice pa l.length c) r) 27) (.cells #[S_] 77));have HB3:Hid (Bl w w3/\w3.heap[w.heap.size+1]? = some (.cells #[S_] 77 (0,0))/\w3.heap[w.heap.size]? = some (.cells (V_ kind nn s (.slice pa l.length c) r) 27 (0,0))):=⟨HB2.out.1.trans (hb3.mono HB2.out.1.size),hg3,hv3⟩;obtain⟨⟨k0,k1,k2,k3,k4⟩,-⟩:=ax hv3;have d0:w3.cell? ⟨w.heap.size+1,0,none⟩=some (.slice none 0 0):=by rw [ag hg3];rfl
 clear hb3 HB2 hg3 hv3
 cases hmv:ay ⟨kind,nn,s,l,r⟩with
 | false =>
   have HE:Hid (gX w w3 (S_) (aM ⟨kind,nn,s,l,r⟩)):=by
    have:aM ⟨kind,nn,s,l,r⟩ = []:=by unfold aM;rw [hmv];rfl
    rw [this];exact World.ownsRow_nil _ _ _ _
   clear HS hmv
   go_wp2_with fail
   go_ret
   exact⟨_,rfl,HE.out,HB3.out.1⟩
 | true =>
   have Hmv:Hid (ay ⟨kind,nn,s,l,r⟩=true):=hmv;have hmf:∀ (fn:Fn) (first cap:Array Value) (w:World),(Instr.makeFunc fn first cap).run Tryz.prog w=.ok (.func fn first cap) w:=fun _ _ _ _=>rfl;clear hmv d0
   go_wp2_with fail
   have hrow:RowBox w3 w.heap.size (w.heap.size+1) []:=⟨_,HB3.out.2.1,World.ownsRow_nil _ _ _ _⟩
   have hle:(aN 16 ⟨kind,nn,s,l,r⟩).length≤512:=by
    have:=bW ⟨kind,nn,s,l,r⟩;unfold aM at this
    rwa [Hmv.out]at this
   refine(xQ 16 ⟨kind,nn,s,l,r⟩ (.slice pa l.length c) w3 (fun b=>F b/\b<w.heap.size) w.heap.size (w.heap.size+1) 0 [] (S_) (bA Hmv.out) (fun _ h=>h.2) (HS.out.lt.on HB3.out.1) ⟨none,0,rfl,aH,fun _=>⟨rfl,rfl⟩,fun a h=>by cases h⟩ (by omega) (Nat.le_succ _) hrow (by simp;omega)).mono ?_;rintro e w4 ⟨rfl,hbox,hbel,-⟩;obtain⟨vv,hv,hrow4⟩:=hbox;have d0:w4.cell? ⟨w.heap.size+1,0,none⟩=some vv:=by rw [ag hv];rfl
   have HE:Hid (gX w w4 vv (aM ⟨kind,nn,s,l,r⟩)):=by
    have:aM ⟨kind,nn,s,l,r⟩ = [] ++ aN 16 ⟨kind,nn,s,l,r⟩:=by unfold aM;rw [Hmv.out];rfl
    rw [this];exact hrow4
   have HB4:Hid (Bl w w4):=HB3.out.1.trans hbel;clear hrow hle hbel hv hrow4 HB3 HS Hmv k0 k1 k2 k3 k4 hmf
   go_wp2_with fail
   go_ret
   exact⟨_,rfl,HE.out,HB4.out⟩
end
section
structure Lies (w:World) (F:Nat->Prop) (t:Th):Prop where
 v:SlAt w F t.vl t.v.l
 vs:SlAt w F t.vals t.vs
 code:t.code=.slice none 0 0
 names:t.names=.slice none 0 0
theorem Deep.lies {w:World} {F:Nat->Prop} {t:Th} (h:Deep w F t):Lies w F t:=⟨h.v.at,h.vs.at,h.code,h.names⟩
theorem Lies.on {w w':World} {F:Nat->Prop} {t:Th} (h:Lies w F t) (hb:Bl w w'):Lies w' F t:=⟨h.v.on hb,h.vs.on hb,h.code,h.names⟩
theorem Deep.on {w w':World} {F:Nat->Prop} {t:Th} (h:Deep w F t) (hb:Bl w w'):Deep w' F t:=⟨h.v.on hb,h.vs.on hb,h.code,h.names⟩
def bk (t:Th):List Int:=aM t.v ++ t.vs.flatMap aM
theorem append_refs {w:World} {ops:Array Oper} {rest:List Oper} {o:Oper} {a:Act} {Q:Exit->Act->World->Prop} (hgd:o.guard=none) (s x:Operand)
 (ho:o.op=.call { callee:=.builtin .append,args:=#[s,x],argTypes:=#[77,77] }) (base:Nat) (v u:Value) (l m:List Int) (hs:a.eval s=v) (hx:a.eval x=u)
 (hown:w.ownsRow base 25 1 v l.length (l.map (Value.int .i64))) (B:Nat) (hnew:w.ownsRow B 25 1 u m.length (m.map (Value.int .i64))) (hn:l.length+m.length≤1000000) (hbase:base≤w.heap.size)
 (h:∀ v' w',w'.ownsRow base 25 1 v' (l ++ m).length ((l ++ m).map (Value.int .i64))->Below base w w'->wpList Tryz.prog ops Q rest (a.put o.dst v') w'):wpList Tryz.prog ops Q (o :: rest) a w:=by
 obtain⟨i,hi,hz,h1,h2⟩:=info_parts mq
 rcases hnew with ⟨hl,⟨rfl,h0⟩ | ⟨g,cap,cur,rfl,hg,hb,hc,hm,hcs,ht⟩⟩
 ·have hm0:m = []:=List.length_eq_zero_iff.1 h0;subst hm0;refine wpList_append_own_none hgd s x 77 ho base 25 i 1 Tryz.underlying77 hi v l.length _ hs hown hx ?_;exact h v w (by simpa using hown) br
 ·refine wpList_append_own _ hgd s x 77 ho base 25 i (J 0) 1 8 Tryz.underlying77 hi hz h1 h2 rfl (by decide) v l.length _ hs hown ⟨g,0,none⟩ m.length cap (m.map (Value.int .i64)) hx (by simp) (fun j y hj=>?_) (fun y hy=>?_) (by unfold maxLen;omega) (by omega) hbase ?_
  ·rw [show (⟨g,0,none⟩:Addr).add j=⟨g,j,none⟩ by rw [Addr.add_lit,Nat.zero_add],ag hb,← Array.getElem?_toList];rw [<- ht,List.getElem?_take]at hj;split at hj
   ·exact hj
   ·cases hj
  ·simp only [List.mem_map]at hy;obtain⟨z,-,rfl⟩:=hy;rfl
  ·intro v' w' r1 r2 _;exact h v' w' (by simpa using r1) ⟨r2.os,r2.tape,r2.output,r2.size,fun k hk=>r2.block k (by omega) (fun e=>by have:=hown.lt k e.symm;omega)⟩
theorem jZ:bX 17 27 16 bp:=fun _ _ _ _ _=>rfl
theorem mJ {l:List Val} {n:Nat} (h:l.length≤n):(l.flatMap aM).length≤n * 512:=by
 induction l generalizing n with
 | nil=>simp
 | cons x l ih =>
   cases n with
   | zero=>simp at h
   | succ n =>
     have:=ih (n:=n) (by simpa using h);have:=bW x;simp only [List.flatMap_cons,List.length_append];omega
theorem eH {w:World} {base base' s n:Nat} {e:TypeId} {v:Value} {xs:List Value} (h:w.ownsRow base e s v n xs) (hb:base'≤base):w.ownsRow base' e s v n xs:=by
 obtain⟨h1,h2⟩:=h;refine⟨h1,?_⟩
 rcases h2 with h2 | ⟨g,cap,cur,h3,h4,h5⟩
 ·exact .inl h2
 ·exact .inr ⟨g,cap,cur,h3,by omega,h5⟩
def zQ (w:World) (xs:List Int) (v:Value) (wr:World):Prop :=
 wr.ownsRow (w.heap.size+1) 25 1 v xs.length (xs.map (Value.int .i64))/\Bl w wr/\wr.cell? ⟨w.heap.size,15,none⟩=some (.slice none 0 0)
theorem lz {w w':World} {base s n:Nat} {e:TypeId} {v:Value} {xs:List Value} (h:w.ownsRow base e s v n xs) (hb:Bl w w'):w'.ownsRow base e s v n xs:=by
 obtain⟨h1,h2⟩:=h;refine⟨h1,?_⟩
 rcases h2 with h2 | ⟨g,cap,cur,h3,h4,h5,h6⟩
 ·exact .inl h2
 ·exact .inr ⟨g,cap,cur,h3,h4,ae hb h5,h6⟩
attribute [local go_sem ↓] jZ in
theorem xU {w:World} {F:Nat->Prop} (t:Th) (hD:Lies w F t) (hl:t.vs.length≤1024):Calls Tryz.prog 166 #[.agg (aF t)] w fun e w'=>∃ u,e=.returned u/\gX w w' u (bk t)/\Bl w w':=by
 obtain⟨pv,cv,hv⟩:=hD.v.form;obtain⟨ps,cs,hvs⟩:=hD.vs.form;obtain⟨k,h,⟨vk,vn,vstr,vl,vr⟩,raw,vs,vals,n,l,tg,bi,s,fu,code,names⟩:=t;obtain⟨hS1,hS2,hc,hnm⟩:=hD;simp only at hv hvs hS1 hS2 hc hnm hl;subst hv hvs hc hnm;have hb0:Bl w (w.alloc (.cells (aF ⟨k,h,⟨vk,vn,vstr,vl,vr⟩,.slice pv vl.length cv,vs,.slice ps vs.length cs,n,l,tg,bi,s,fu,S_,S_⟩) 46)):=br.alloc aH _;have HR:Hid _:=mC (w:=w.alloc (.cells (aF ⟨k,h,⟨vk,vn,vstr,vl,vr⟩,.slice pv vl.length cv,vs,.slice ps vs.length cs,n,l,tg,bi,s,fu,S_,S_⟩) 46)) ⟨vk,vn,vstr,vl,vr⟩ (.slice pv vl.length cv) (hS1.on hb0);have HS2:Hid (SlAt w F (.slice ps vs.length cs) vs):=hS2;have Hl:Hid (vs.length≤1024):=hl;have HB0:Hid _:=And.intro hb0 (ai w (.cells (aF ⟨k,h,⟨vk,vn,vstr,vl,vr⟩,.slice pv vl.length cv,vs,.slice ps vs.length cs,n,l,tg,bi,s,fu,S_,S_⟩) 46));clear hS1 hS2 hl hb0;simp only [aF,au]at HR HB0 ⊢;simp only [bk]
 go_enter Tryz.func166,Tryz.ntmps166
 go_wp2_with fail
 refine Calls.mono HR.out ?_;rintro e w1 ⟨u,rfl,hr1,hb1⟩;have HB1:Hid (Bl w w1):=HB0.out.1.trans (hb1.mono HB0.out.1.size);have b1:=ae hb1 HB0.out.2;have c7:w1.cell? ⟨w.heap.size,7,none⟩=some (.slice ps vs.length cs):=by rw [ag b1];rfl
 have c15:w1.cell? ⟨w.heap.size,15,none⟩=some (.slice none 0 0):=by rw [ag b1];rfl
 have Hb1:Hid _:=b1
 have HO1:Hid (w1.ownsRow (w.heap.size+1) 25 1 u (aM ⟨vk,vn,vstr,vl,vr⟩).length ((aM ⟨vk,vn,vstr,vl,vr⟩).map (Value.int .i64))):=by
  have:=hr1;unfold gX at this
  rwa [World.size_alloc]at this
 clear hr1 hb1 HR HB0
 go_wp2_with fail
 go_loopw [14,3] (fun vi vx wr=>∃ i:Nat,vi=J i/\i≤vs.length/\Hid (zQ w (aM ⟨vk,vn,vstr,vl,vr⟩ ++ (vs.take i).flatMap aM) vx wr)) (fun vi _ _=>vs.length - (intOf vi).toNat)
 case atStart =>
  refine⟨0,rfl,Nat.zero_le _,?_⟩;show zQ _ _ _ _;simp only [List.take_zero,List.flatMap_nil,List.append_nil];exact⟨HO1.out,HB1.out,c15⟩
 case round =>
  clear c7 c15 Hb1 HO1 HB1;obtain⟨i,rfl,hi,HL⟩:=hrel
  by_cases hil:i<vs.length
  ·have hiz:(i:Int)<(vs.length:Int):=by omega
   obtain⟨x,hx⟩:∃ x,vs[i]? = some x:=⟨_,List.getElem?_eq_getElem hil⟩;obtain⟨b,o,c',raw,hpe,hrg,-,-,hSx⟩:=(HS2.out.on HL.out.2.1).range hx
   cases hpe
   obtain⟨xk,xn,xs,xl,xr⟩:=x;obtain⟨pa2,c2,rfl⟩:=hSx.form;have hld0:=aY hrg rfl;have hld:(bp (R_ b (o+i * 5))).run Tryz.prog wr=.ok (.value (.agg (V_ xk xn xs (.slice pa2 xl.length c2) xr))) wr:=hld0;have hb2:Bl wr (wr.alloc (.cells (V_ xk xn xs (.slice pa2 xl.length c2) xr) 27)):=br.alloc aH _;have HC:Hid _:=And.intro hb2 (mC (w:=wr.alloc (.cells (V_ xk xn xs (.slice pa2 xl.length c2) xr) 27)) ⟨xk,xn,xs,xl,xr⟩ (.slice pa2 xl.length c2) (hSx.on hb2))
   have Htk:Hid (aM ⟨vk,vn,vstr,vl,vr⟩ ++ (vs.take (i+1)).flatMap aM=(aM ⟨vk,vn,vstr,vl,vr⟩ ++ (vs.take i).flatMap aM) ++ aM ⟨xk,xn,xs,xl,xr⟩):=by
    show _=_;rw [List.take_add_one,hx];simp
   have Hlen:Hid ((aM ⟨vk,vn,vstr,vl,vr⟩ ++ (vs.take i).flatMap aM).length+(aM ⟨xk,xn,xs,xl,xr⟩).length≤1000000):=by
    have h1:=bW ⟨vk,vn,vstr,vl,vr⟩;have h2:=bW ⟨xk,xn,xs,xl,xr⟩;have h3:=mJ (l:=vs.take i) (n:=1024) (by simp;have:=Hl.out;omega);show _≤_;rw [List.length_append];omega
   have hi1:i<1024:=by have:=Hl.out;omega
   generalize aM ⟨vk,vn,vstr,vl,vr⟩ ++ (vs.take i).flatMap aM=pre at HL Htk Hlen;clear hld0 hx hrg hSx hb2
   go_wp2_with fail
   refine Calls.mono HC.out.2 ?_;rintro e w2 ⟨u2,rfl,hr2,hb2⟩;have hB2:Bl wr w2:=HC.out.1.trans (hb2.mono HC.out.1.size);have HO2:Hid _:=lz HL.out.1 hB2;have HN2:Hid _:=hr2;have HB2:Hid (Bl w w2):=HL.out.2.1.trans (hB2.mono HL.out.2.1.size)
   have HZ2:Hid (wr.heap.size≤w2.heap.size/\w.heap.size<wr.heap.size/\w2.cell? ⟨w.heap.size,15,none⟩=some (.slice none 0 0)):=by
    have hlt:=World.block_lt_of_cell? _ _ HL.out.2.2;exact⟨hB2.size,hlt,(hB2.cell (p:=⟨w.heap.size,15,none⟩) hlt).trans HL.out.2.2⟩
   clear hr2 hb2 hB2 HC HL
   go_wp2_with (first
    | (at_builtin;refine append_refs rfl _ _ rfl (w.heap.size+1) _ _ pre (aM ⟨xk,xn,xs,xl,xr⟩) rfl rfl HO2.out _ HN2.out Hlen.out (by have:=HZ2.out.1;have:=HZ2.out.2.1;omega) ?_;intro v' w5 hown' hb5))
   have HL':Hid (zQ w (aM ⟨vk,vn,vstr,vl,vr⟩ ++ (vs.take (i+1)).flatMap aM) v' w5):=by
    rw [Htk.out];have hlt:w.heap.size<w2.heap.size:=by have:=HZ2.out.1;have:=HZ2.out.2.1;omega
    exact⟨hown',HB2.out.trans (hb5.mono (Nat.le_succ _)),(World.cell?_of_block (a:=⟨w.heap.size,15,none⟩) (hb5.block w.heap.size (Nat.lt_succ_self _))).trans HZ2.out.2.2⟩
   go_roundw
   case rel=>exact⟨i+1,by go_num,by omega,HL'⟩
   case measure =>
    simp [intOf];omega
  ·have hiz:¬ (i:Int)<(vs.length:Int):=by omega
   obtain rfl:i=vs.length:=by omega
   have c15:=HL.out.2.2;rw [List.take_length]at HL
   go_wp2_with fail
   go_rounds 1
   go_ret
   exact⟨_,rfl,eH HL.out.1 (Nat.le_succ _),HL.out.2.1⟩
def cX (M:WM) (t:Th):Bool:=(bk t).all fun r=>(M.at r).isSome
variable {w:World} {p:Nat} {M:WM} {F:Nat->Prop}
theorem sR (hW:IsW w p M F) {B:Nat} {e:TypeId} (hB:w.heap[B]? = some (.cells #[P_ p] e (0,0))) {r:Int} (hr:(Lit.int .i64 r).wf=true) :
 Calls Tryz.prog 167 #[J r,P_ B] w fun e w'=>e=.returned (.bool (!(M.at r).isSome))/\w=w':=by
 have c0:w.cell? ⟨B,0,none⟩=some (.pointer (some ⟨p,0,none⟩)):=by rw [ag hB];rfl
 have HI:Hid _:=gN hW hr;clear hB hW
 cases hm:(M.at r).isSome with
 | true =>
   rw [hm]at HI
   go_enter Tryz.func167,Tryz.ntmps167
   go_wp2_with fail
   refine Calls.mono HI.out ?_;rintro e _ ⟨rfl,rfl⟩
   go_wp2_with fail
   go_ret
   exact⟨rfl,rfl⟩
 | false =>
   rw [hm]at HI
   go_enter Tryz.func167,Tryz.ntmps167
   go_wp2_with fail
   refine Calls.mono HI.out ?_;rintro e _ ⟨rfl,rfl⟩
   go_wp2_with fail
   go_ret
   exact⟨rfl,rfl⟩
theorem fi (hW:IsW w p M F) {B:Nat} {e:TypeId} (hB:w.heap[B]? = some (.cells #[P_ p] e (0,0))) {base:Nat} {u:Value} (xs:List Int) (hr:w.ownsRow base 25 1 u xs.length (xs.map (Value.int .i64)))
 (hwf:∀ x ∈ xs,(Lit.int .i64 x).wf=true) (hmax:xs.length≤1000000) :
 Calls Tryz.prog 165 #[u,.func (.func 167) #[] #[P_ B]] w fun e w'=>e=.returned (.bool (!xs.all fun r=>(M.at r).isSome))/\w=w':=by
 obtain⟨q,c,hu,hcell⟩:∃ q c,u=.slice q xs.length c/\∀ (j:Nat) (x:Int),xs[j]? = some x->∃ g,q=some ⟨g,0,none⟩/\w.cell? ⟨g,j,none⟩=some (.int .i64 x):=by
  obtain⟨h1,⟨rfl,h0⟩ | ⟨g,cap,cur,rfl,-,hb,hc,hm,hcs,ht⟩⟩:=hr
  ·exact⟨none,0,by rw [h0],fun j x hj=>by have:=ji hj;omega⟩
  ·refine⟨_,cap,rfl,fun j x hj=>⟨g,rfl,?_⟩⟩;have hj':=ji hj;have h2:(xs.map (Value.int .i64))[j]? = some (.int .i64 x):=by rw [List.getElem?_map,hj];rfl
   rw [<- ht,List.getElem?_take,if_pos (by omega)]at h2;rw [ag hb,← Array.getElem?_toList];exact h2
 subst hu;have HC:Hid (∀ (j:Nat) (x:Int),xs[j]? = some x->∃ g,q=some ⟨g,0,none⟩/\w.cell? ⟨g,j,none⟩=some (.int .i64 x)):=hcell;have Hn:Hid (∀ x ∈ xs,Calls Tryz.prog 167 #[J x,P_ B] w fun e w'=>e=.returned (.bool (!(M.at x).isSome))/\w=w'):=fun x hx=>sR hW hB (hwf x hx);have Hm:Hid (xs.length≤1000000):=hmax;clear hcell hr hwf hW hB hmax
 have hi:Calls Tryz.prog 230 #[.slice q xs.length c,.func (.func 167) #[] #[P_ B]] w fun e w'=>(∃ i:Int,e=.returned (J i)/\(decide (i ≥ 0) = !xs.all fun r=>(M.at r).isSome))/\w=w':=by
  go_enter Tryz.func230,Tryz.ntmps230
  go_wp2_with fail
  go_loopw [8] (fun vi wr=>∃ k:Nat,vi=J k/\k≤xs.length/\wr=w/\Hid (∀ x ∈ xs.take k,(M.at x).isSome=true)) (fun vi _=>xs.length - (intOf vi).toNat)
  case atStart=>exact⟨0,rfl,Nat.zero_le _,rfl,fun x hx=>by simp at hx⟩
  case round =>
   obtain⟨k,rfl,hk,rfl,HI⟩:=hrel
   by_cases hkl:k<xs.length
   ·have hkz:(k:Int)<(xs.length:Int):=by omega
    obtain⟨x,hx⟩:∃ x,xs[k]? = some x:=⟨_,List.getElem?_eq_getElem hkl⟩;obtain⟨g,rfl,hc⟩:=HC.out k x hx;have Htk:Hid (xs.take (k+1)=xs.take k ++ [x]):=by show _=_;rw [List.take_add_one,hx];rfl
    have Hmem:Hid (x ∈ xs):=List.mem_of_getElem? hx;have HN:Hid _:=Hn.out x Hmem.out;have hk1:k<1000000:=by have:=Hm.out;omega
    cases hmv:(M.at x).isSome with
    | true =>
      have Hmv:Hid _:=hmv;rw [hmv]at HN;clear hx hmv
      go_wp2_with fail
      refine Calls.mono HN.out ?_;rintro e _ ⟨rfl,rfl⟩
      go_wp2_with fail
      go_roundw
      case rel =>
       refine⟨k+1,by go_num,by omega,by first | rfl | trivial,fun y hy=>?_⟩;rw [Htk.out]at hy
       rcases List.mem_append.1 hy with hy | hy
       ·exact HI.out y hy
       ·simp at hy;subst hy;exact Hmv.out
      case measure =>
       simp [intOf];omega
    | false =>
      have Hmv:Hid _:=hmv;rw [hmv]at HN;clear hx hmv
      go_wp2_with fail
      refine Calls.mono HN.out ?_;rintro e _ ⟨rfl,rfl⟩
      go_wp2_with fail
      go_ret
      refine⟨⟨_,rfl,?_⟩,rfl⟩
      have h1:(xs.all fun r=>(M.at r).isSome)=false:=by
       rw [List.all_eq_false];exact⟨_,Hmem.out,by simp [Hmv.out]⟩
      rw [h1];simp
   ·have hkz:¬ (k:Int)<(xs.length:Int):=by omega
    obtain rfl:k=xs.length:=by omega
    go_wp2_with fail
    go_ret
    refine⟨⟨-1,rfl,?_⟩,rfl⟩
    have h1:(xs.all fun r=>(M.at r).isSome)=true:=by
     rw [List.all_eq_true];have:=HI.out
     rwa [List.take_length]at this
    rw [h1];rfl
 have HI:Hid _:=hi;clear hi
 go_enter Tryz.func165,Tryz.ntmps165
 go_wp2_with fail
 refine Calls.mono HI.out ?_;rintro e w2 ⟨⟨i,rfl,hi⟩,rfl⟩
 by_cases h0:i ≥ 0
 ·rw [decide_eq_true h0]at hi;have Hi:Hid _:=hi;clear hi
  go_wp2_with fail
  go_ret
  exact⟨by rw [<- Hi.out];rfl,rfl⟩
 ·rw [decide_eq_false h0]at hi;have Hi:Hid _:=hi;clear hi
  go_wp2_with fail
  go_ret
  exact⟨by rw [<- Hi.out];show Ending.returned (.bool (decide (0≤i)))=_;rw [decide_eq_false (by omega)],rfl⟩
theorem qj (hW:IsW w p M F) {F1:Nat->Prop} (t:Th) (hD:Lies w F1 t) (hl:t.vs.length≤1024) (hwf:∀ r ∈ bk t,(Lit.int .i64 r).wf=true) :
 Calls Tryz.prog 75 #[P_ p,.agg (aF t)] w fun e w'=>e=.returned (.bool (cX M t))/\Bl w w':=by
 have hlen:(bk t).length≤1000000:=by
  have h1:=bW t.v;have h3:=mJ hl;unfold bk;rw [List.length_append];omega
 have hb2:Bl w ((w.alloc (.cells #[P_ p] 31)).alloc (.cells (aF t) 46)):=(br.alloc aH _).alloc (by simp) _;have HH:Hid _:=And.intro hb2 (xU t (hD.on hb2) hl);have Hl:Hid ((bk t).length≤1000000):=hlen;have Hwf:Hid (∀ r ∈ bk t,(Lit.int .i64 r).wf=true):=hwf;have HW:Hid (IsW w p M F):=hW;have hblk:=aK w (.cells #[P_ p] 31) (.cells (aF t) 46);have hld:=aD hblk rfl;have Hb:Hid _:=aL w (.cells #[P_ p] 31) (.cells (aF t) 46);have hN:∀ b:Bool,cX M t=b->((bk t).all fun r=>(M.at r).isSome)=b:=fun b h=>h;generalize bk t=hs at HH Hl Hwf hN;clear hD hl hwf hW hlen hb2 hblk
 cases hn:cX M t with
 | true =>
   have Hn:Hid _:=hN _ hn;clear hn hN;simp only [aF]at HH Hb hld ⊢
   go_enter Tryz.func75,Tryz.ntmps75
   go_wp2_with fail
   refine Calls.mono HH.out.2 ?_;rintro e w1 ⟨u,rfl,hr,hb1⟩;have HB1:Hid (Bl w w1):=HH.out.1.trans (hb1.mono HH.out.1.size);have hc:=fi (HW.out.below HB1.out) (ae hb1 Hb.out) hs hr Hwf.out Hl.out;rw [Hn.out]at hc;have HC:Hid _:=hc;clear hr hb1 hc
   go_wp2_with fail
   refine Calls.mono HC.out ?_;rintro e _ ⟨rfl,rfl⟩
   go_wp2_with fail
   go_ret
   exact⟨rfl,HB1.out⟩
 | false =>
   have Hn:Hid _:=hN _ hn;clear hn hN;simp only [aF]at HH Hb hld ⊢
   go_enter Tryz.func75,Tryz.ntmps75
   go_wp2_with fail
   refine Calls.mono HH.out.2 ?_;rintro e w1 ⟨u,rfl,hr,hb1⟩;have HB1:Hid (Bl w w1):=HH.out.1.trans (hb1.mono HH.out.1.size);have hc:=fi (HW.out.below HB1.out) (ae hb1 Hb.out) hs hr Hwf.out Hl.out;rw [Hn.out]at hc;have HC:Hid _:=hc;clear hr hb1 hc
   go_wp2_with fail
   refine Calls.mono HC.out ?_;rintro e _ ⟨rfl,rfl⟩
   go_wp2_with fail
   go_ret
   exact⟨rfl,HB1.out⟩
end
end Go.Proofs.YthaliljaglldjaaGreat
