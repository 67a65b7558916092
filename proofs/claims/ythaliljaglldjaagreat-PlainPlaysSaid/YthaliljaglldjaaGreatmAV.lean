/- Part of the proof. -/
import Derived.Test.YthaliljaglldjaaGreatmAU
namespace Go.Proofs.YthaliljaglldjaaGreat
set_option maxHeartbeats 16000000
set_option maxRecDepth 20000
open Go.RowKit Go.ChangeMaps Go.MapKept
section
theorem jv (v:Val) (vs:List Val) (rv:Value) (raw:Nat->Value):bs (v :: vs) (fun i=>if i=0 then rv else raw (i - 1))=(au v rv).toList ++ bs vs raw:=by
 unfold bs;rw [List.zipIdx_cons,List.flatMap_cons]
 congr 1
 rw [List.zipIdx_succ,List.flatMap_map];apply congrArg (fun f=>List.flatMap f vs.zipIdx)
 funext x
 simp
theorem nG {w w2 w':World} {F:Nat->Prop} {A:Array Value} {vk vn vr:Int} {vstr:ByteArray} {vl vs:List Val} {pv:Option Addr} {cv:Nat} {rws:Nat->Value} {v':Value} (hb:Bl w w2) (hA:w2.heap[w.heap.size]? = some (.cells A 46 (0,0))) (hA15:A[15]? = some (.slice none 0 0))
 (h1:SlAt w F (.slice pv vl.length cv) vl) (h2:∀ i v,vs[i]? = some v->SlAt w F (rws i) v.l) (hsz:w.heap.size+1<w2.heap.size)
 (r1:w'.ownsRow w.heap.size 27 5 v' (1+vs.length) ([.int .u8 vk,.int .i64 vn,.string vstr,.slice pv vl.length cv,.int .i64 vr] ++ bs vs rws)) (r2:w2.grownBy w' (Value.slice (some ⟨w.heap.size+1,0,none⟩) 1 1).ownBlock) :
 SlAt w' (fun b=>F b\/w.heap.size≤b) v' (⟨vk,vn,vstr,vl,vr⟩ :: vs)/\Bl w w'/\w'.cell? ⟨w.heap.size,15,none⟩=some (.slice none 0 0):=by
 have hk:Keeps (fun b=>b=w.heap.size+1) w w':=by
  have h0:=Keeps.of_below (S:=fun b=>b=w.heap.size+1) hb;have h3:Keeps (fun b=>b=w.heap.size+1) w2 w':=⟨r2.os,r2.tape,r2.output,r2.size,fun k hk hne=>r2.block k hk (fun e=>hne (by have e':some k=some (w.heap.size+1):=e;injection e' with e'))⟩
  exact h0.trans h3 (fun _ _ h=>h) (fun _ _ h=>h)
 refine⟨?_,hk.below aH (fun b hb=>by omega),?_⟩
 ·have:=SlAt.of_row (w:=w') (base:=w.heap.size) (F:=fun b=>F b\/w.heap.size≤b) (u:=v') (l:=⟨vk,vn,vstr,vl,vr⟩ :: vs) (raw:=fun i=>if i=0 then .slice pv vl.length cv else rws (i - 1)) (by rw [jv,List.length_cons,Nat.add_comm];exact r1) (fun i v hv=>?_)
  ·exact this.mono fun b hb=>hb.elim id .inr
  ·have keep:∀ {rv:Value} {l:List Val},SlAt w F rv l->SlAt w' (fun b=>F b\/w.heap.size≤b) rv l:=fun hS=>((SlAt.lt hS).keeps hk (fun b h1 h2=>by have:=h2.2;omega)).mono fun b hb=>.inl hb.1
   cases i with
   | zero=>cases hv;exact keep h1
   | succ i=>exact keep (h2 i v (by simpa using hv))
 ·have:=r2.block w.heap.size (by omega) (fun e=>by have e':some w.heap.size=some (w.heap.size+1):=e;injection e' with e';omega)
  rw [ag (this.trans hA)];exact hA15
theorem mI:bX 6 27 5 bp:=fun _ _ _ _ _=>rfl
attribute [local go_sem ↓] mI in
theorem mp {w:World} {F:Nat->Prop} (t:Th) (h1:SlAt w F t.vl t.v.l) (h2:SlAt w F t.vals t.vs) {ad:Addr} {m0 cs0:Nat} (hvals:t.vals=.slice (some ad) m0 cs0) (hn:t.names=.slice none 0 0) (hl:t.vs.length≤1000) :
 Calls Tryz.prog 240 #[.agg (aF t)] w fun e w'=>∃ u,e=.returned u/\SlAt w' (fun b=>F b\/w.heap.size≤b) u (t.v :: t.vs)/\Bl w w':=by
 obtain⟨pv,cv,hv⟩:=h1.form;obtain⟨k,h,⟨vk,vn,vstr,vl,vr⟩,raw,vs,vals,n,lo,tg,bi,s,fu,code,names⟩:=t;simp only at hv hvals h1 h2 hn hl;subst hv hvals hn;obtain⟨rfl,rws,hrws,hcells⟩:=h2.cells;have hld:=cF (t:=⟨k,h,⟨vk,vn,vstr,vl,vr⟩,.slice pv vl.length cv,vs,.slice (some ad) vs.length cs0,n,lo,tg,bi,s,fu,code,S_⟩) (ai w (.cells (aF ⟨k,h,⟨vk,vn,vstr,vl,vr⟩,.slice pv vl.length cv,vs,.slice (some ad) vs.length cs0,n,lo,tg,bi,s,fu,code,S_⟩) 46));have hb2:Bl w ((w.alloc (.cells #[U k,J h,U vk,J vn,.string vstr,.slice pv vl.length cv,J vr,.slice (some ad) vs.length cs0,J n,J lo,J tg,J bi,U s,.bool fu,code,S_] 46)).alloc (.cells (V_ vk vn vstr (.slice pv vl.length cv) vr) 27)):=((Below.refl _ w).alloc aH _).alloc (by simp) _
 have HOwn:Hid (((w.alloc (.cells #[U k,J h,U vk,J vn,.string vstr,.slice pv vl.length cv,J vr,.slice (some ad) vs.length cs0,J n,J lo,J tg,J bi,U s,.bool fu,code,S_] 46)).alloc (.cells (V_ vk vn vstr (.slice pv vl.length cv) vr) 27)).ownsRow w.heap.size 27 5 (.slice (some ⟨w.heap.size+1,0,none⟩) 1 1) 1 [U vk,J vn,.string vstr,.slice pv vl.length cv,J vr]) :=
  ⟨by simp,.inr ⟨w.heap.size+1,1,#[U vk,J vn,.string vstr,.slice pv vl.length cv,J vr],rfl,Nat.le_succ _,aK w _ _,by first | rfl | simp,by decide,by rfl,by rfl⟩⟩
 have c15:((w.alloc (.cells #[U k,J h,U vk,J vn,.string vstr,.slice pv vl.length cv,J vr,.slice (some ad) vs.length cs0,J n,J lo,J tg,J bi,U s,.bool fu,code,S_] 46)).alloc (.cells (V_ vk vn vstr (.slice pv vl.length cv) vr) 27)).heap[w.heap.size]? = _:=aL w (.cells #[U k,J h,U vk,J vn,.string vstr,.slice pv vl.length cv,J vr,.slice (some ad) vs.length cs0,J n,J lo,J tg,J bi,U s,.bool fu,code,S_] 46) (.cells (V_ vk vn vstr (.slice pv vl.length cv) vr) 27);have c7:=ag c15 7;have hB2:Hid _:=And.intro hb2 c15;obtain⟨iv,hi,hz,i1,i2⟩:=info_parts de;have H1:Hid (SlAt w F (.slice pv vl.length cv) vl/\(∀ i v,vs[i]? = some v->SlAt w F (rws i) v.l)):=⟨h1,hrws⟩
 have hcl:Hid (∀ w',Bl w w'->∀ j u,(bs vs rws)[j]? = some u->w'.cell? (ad.add j)=some u):=fun w' hb j u hj=>by
  obtain⟨b,o,e1,e2⟩:=hcells j u hj
  cases e1
  rw [Addr.add_lit];exact(hb.cell (p:=⟨b,o+j,none⟩) (World.block_lt_of_cell? _ _ e2)).trans e2
 have hones:Hid (∀ u ∈ bs vs rws,u.oneCell'=true):=gQ fun i v hv=>by obtain⟨p,c,e⟩:=(hrws i v hv).form;exact⟨_,_,_,e⟩
 clear h1 h2 hrws hcells hb2 c15;simp only [aF,au]at hld c7 ⊢;simp at c7
 go_enter Tryz.func240,Tryz.ntmps240
 go_upto_region 2 with fail
 go_wp2_with (at_builtin;refine wpList_append_own_at _ rfl _ _ 24 rfl w.heap.size 27 iv (.agg zV) 5 64 Tryz.underlying24 hi hz i1 i2 rfl (by decide) _ 1 _ rfl HOwn.out ad vs.length cs0 (bs vs rws) rfl (eO _ _) (hcl.out _ hB2.out.1) hones.out (by unfold maxLen;omega) (by omega) hB2.out.1.size ?_;intro v' w' r1 r2 _ r4
              have HV:Hid _:=nG hB2.out.1 hB2.out.2 rfl H1.out.1 H1.out.2 (by simp) r1 r2
              clear r1 r2 r4 hcl hones H1 HOwn hB2 c7 hld)
 obtain⟨pu,cu,hu⟩:=HV.out.1.form;subst hu;have c15:=HV.out.2.2
 go_loopw [3,4] (fun vx vi wr=>vx=.slice pu (vs.length+1) cu/\vi=J 0/\w'=wr) (fun _ _ _=>0)
 case atStart=>exact⟨rfl,rfl,rfl⟩
 case round =>
  obtain⟨rfl,rfl,rfl⟩:=hrel
  go_wp2_with fail
  go_ret
  exact⟨_,rfl,HV.out.1,HV.out.2.1⟩
theorem rF {w:World} {F:Nat->Prop} (t:Th) (h1:SlAt w F t.vl t.v.l) (h2:SlAt w F t.vals t.vs) (hvals:t.vs = []->t.vals=.slice none 0 0\/∃ ad m c,t.vals=.slice (some ad) m c) (hn:t.names=.slice none 0 0) (hl:t.vs.length≤1000) :
 Calls Tryz.prog 240 #[.agg (aF t)] w fun e w'=>∃ u,e=.returned u/\SlAt w' (fun b=>F b\/w.heap.size≤b) u (t.v :: t.vs)/\Bl w w':=by
 have key:t.vals=.slice none 0 0\/∃ ad m c,t.vals=.slice (some ad) m c:=by
  cases hvs:t.vs with
  | nil=>exact hvals hvs
  | cons x xs =>
    obtain⟨b,o,c,raw,e,-⟩:=h2.range (i:=0) (v:=x) (by rw [hvs];rfl);exact .inr ⟨_,_,_,e⟩
 rcases key with e | ⟨ad,m,c,e⟩
 ·have hvs:t.vs = []:=by
   obtain⟨p,c,e'⟩:=h2.form;rw [e]at e';injection e' with _ e'
   exact List.length_eq_zero_iff.1 e'.symm
  refine(ip t h1 e hn).mono fun ee w' ⟨he,hb,hg⟩=>⟨_,he,?_,hb⟩;rw [hvs];refine SlAt.mk (some ⟨w.heap.size+1,0,none⟩) 1 [t.v] (fun _=>t.vl) ⟨aH,fun h=>by cases h⟩ (fun i v hv=>?_) (fun i v hv=>?_)
  ·have:i=0:=by have:=ji hv;simp at this;exact this
   subst this
   cases hv
   refine⟨w.heap.size+1,0,rfl,.inr (Nat.le_succ _),?_,?_,?_,?_,?_⟩ <;> rw [ag hg] <;> rfl
  ·have:i=0:=by have:=ji hv;simp at this;exact this
   subst this
   cases hv
   exact(h1.on hb).mono fun _ h=>.inl h
 ·exact mp t h1 h2 e hn hl
theorem ms:bX 18 27 17 bp:=fun _ _ _ _ _=>rfl
theorem eo {l:List Val} {i:Nat} {x:Val} (hx:l[i]? = some x) (f:Val->List Int):(l.take (i+1)).flatMap f=(l.take i).flatMap f ++ f x:=by
 rw [List.take_add_one,hx];simp
theorem fY (f:Val->List Int):∀ (l:List Val) (i:Nat),((l.take i).flatMap f).length≤(l.flatMap f).length
 | [],i=>by simp
 | x :: l,0=>by simp
 | x :: l,i+1=>by
   have:=fY f l i;simp only [List.take_succ_cons,List.flatMap_cons,List.length_append];omega
attribute [local go_sem ↓] ms in
theorem tD {w:World} {F:Nat->Prop} {n:Nat} (t:Th) (h1:SlAt w F t.vl t.v.l) (h2:SlAt w F t.vals t.vs) (hvals:t.vs = []->t.vals=.slice none 0 0\/∃ ad m c,t.vals=.slice (some ad) m c) (hn:t.names=.slice none 0 0) (hl:t.vs.length≤1000)
 (hT:∀ x ∈ t.v :: t.vs,∃ p q,p≤512/\aP n p x=some q) (hlen:((t.v :: t.vs).flatMap (aN n)).length≤1000) :
 Calls Tryz.prog 179 #[.agg (aF t)] w fun e w'=>∃ u,e=.returned u/\bF w' w.heap.size u ((t.v :: t.vs).flatMap (aN n))/\Bl w w':=by
 have hb0:Bl w (w.alloc (.cells (aF t) 46)):=(Below.refl _ w).alloc aH _;have HV:Hid _:=rF t (h1.on hb0) (h2.on hb0) hvals hn hl;have hld:=aD (ai w (.cells (aF t) 46)) rfl;have HB0:Hid (Bl w (w.alloc (.cells (aF t) 46))):=hb0;have hL:(t.v :: t.vs).length≤1001:=by simp;omega
 obtain⟨l,hl0⟩:∃ l,l=t.v :: t.vs:=⟨_,rfl⟩;rw [<- hl0]at hT hlen hL;have HV:Hid (Calls Tryz.prog 240 #[.agg (aF t)] (w.alloc (.cells (aF t) 46)) fun e w'=>∃ u,e=.returned u/\(∃ F',SlAt w' F' u l)/\Below (w.alloc (.cells (aF t) 46)).heap.size (w.alloc (.cells (aF t) 46)) w'):=Calls.mono HV.out fun e w' ⟨u,h1,h2,h3⟩=>⟨u,h1,⟨_,by rw [hl0];exact h2⟩,h3⟩;rw [<- hl0];have HL:Hid (l.length≤1001/\(l.flatMap (aN n)).length≤1000):=⟨hL,hlen⟩;have HTk:Hid _:=hT;clear h1 h2 hvals hn hl hT hlen hL hb0 hl0
 go_enter Tryz.func179,Tryz.ntmps179
 go_wp2_with fail
 refine Calls.mono HV.out ?_;rintro e w1 ⟨u,rfl,⟨F1,hS1⟩,hb1⟩;obtain⟨pu,cu,rfl⟩:=hS1.form;have H1:Hid (Bl w w1/\(∀ w',Bl w1 w'->SlAt w' F1 (.slice pu l.length cu) l)):=⟨HB0.out.trans (hb1.mono HB0.out.size),fun w' hb=>hS1.on hb⟩;clear hb1 HV hld HB0 hS1
 go_wp2_with fail
 go_loopw [3,5] (fun vo vi wr=>∃ i:Nat,vi=J i/\i≤l.length/\Hid (Bl w1 wr/\bF wr w1.heap.size vo ((l.take i).flatMap (aN n)))) (fun _ vi _=>l.length - (intOf vi).toNat)
 case atStart=>exact⟨0,rfl,Nat.zero_le _,br,World.ownsRow_nil _ _ _ _⟩
 case round =>
  obtain⟨i,rfl,hi,HI⟩:=hrel
  by_cases hil:i<l.length
  ·have hiz:(i:Int)<(l.length:Int):=by omega
   have hi0:(0:Int)≤(i:Int):=by omega
   obtain⟨y,hy⟩:∃ y,l[i]? = some y:=⟨_,List.getElem?_eq_getElem hil⟩;obtain⟨b,o,cq,raw,hpe,hrg,hlt,-,hSx⟩:=(H1.out.2 wr HI.out.1).range hy;have hpa:pu=some ⟨b,o,none⟩:=by injection hpe
   subst hpa;obtain⟨p,q,hp,hT⟩:=HTk.out y (List.mem_of_getElem? hy);have HR:Hid _:=pY n y p q raw wr F1 hp hT hSx;have HNx:Hid _:=eo hy (aN n)
   have HLn:Hid (((l.take i).flatMap (aN n)).length+(aN n y).length≤1000):=by
    show _≤_;have h3:=fY (aN n) l (i+1);rw [eo hy,List.length_append]at h3;have:=HL.out.2;omega
   obtain⟨yk,yn,ys,yl,yr⟩:=y;obtain⟨pa2,c2,rfl⟩:=hSx.form;have hld0:=aY hrg rfl;have hld:(bp (R_ b (o+i * 5))).run Tryz.prog wr=.ok (.value (.agg (V_ yk yn ys (.slice pa2 yl.length c2) yr))) wr:=hld0;have hwi:wrap64 ((i:Int)+1)=(i:Int)+1:=by have:=HL.out.1;unfold wrap64;omega
   simp only [au]at HR;clear hld0 hy hrg hSx hlt hpe hp hT;generalize aN n ⟨yk,yn,ys,yl,yr⟩=rs at HR HNx HLn
   go_wp2_with fail
   refine Calls.mono HR.out ?_;rintro e w3 ⟨u',rfl,hr3,hb3⟩;have HO:Hid (w3.ownsRow w1.heap.size 25 1 u3 ((l.take i).flatMap (aN n)).length (((l.take i).flatMap (aN n)).map (Value.int .i64))):=dj HI.out.2 hb3;have HN3:Hid (w3.ownsRow wr.heap.size 25 1 u' rs.length (rs.map (Value.int .i64))):=hr3;have HI3:Hid (Bl w1 w3):=HI.out.1.trans (hb3.mono HI.out.1.size);have HZ:Hid (w1.heap.size≤w3.heap.size):=HI3.out.size;have Hlen:Hid (((l.take i).flatMap (aN n)).length+rs.length≤1000000):=by show _≤_;have:=HLn.out;omega
   clear hr3 hb3 HI hld HR HLn
   go_wp2_with (at_builtin;refine append_refs rfl _ _ rfl w1.heap.size _ _ ((l.take i).flatMap (aN n)) rs rfl rfl HO.out _ HN3.out Hlen.out HZ.out ?_;intro v' w5 hown' hb5
                have HR5:Hid (Bl w1 w5/\bF w5 w1.heap.size v' ((l.take i).flatMap (aN n) ++ rs)):=⟨HI3.out.trans hb5,hown'⟩
                clear hown' hb5 HO HN3 HI3 HZ Hlen)
   rw [<- HNx.out]at HR5
   go_roundw
   case rel=>exact⟨i+1,by go_num,by omega,HR5.out⟩
   case measure=>rw [hwi];simp [intOf];omega
  ·have hiz:¬ (i:Int)<(l.length:Int):=by omega
   obtain rfl:i=l.length:=by omega
   have hkk:¬ (l.length:Int)<(l.length:Int):=by omega
   have HE:Hid (bF wr w1.heap.size u3 (l.flatMap (aN n))/\Bl w wr):=⟨by have:=HI.out.2;rwa [List.take_length]at this,H1.out.1.trans (HI.out.1.mono H1.out.1.size)⟩;have HG:Hid (w.heap.size≤w1.heap.size):=H1.out.1.size;clear HI H1
   go_wp2_with fail
   go_ret
   exact⟨_,rfl,dy HE.out.1 HG.out,HE.out.2⟩
end
end Go.Proofs.YthaliljaglldjaaGreat
namespace Go.Proofs.YthaliljaglldjaaGreat
set_option maxHeartbeats 16000000
set_option maxRecDepth 20000
open Go.RowKit
section
def qJ (l:List Oper) (m:Nat) (late:List Nat):Bool :=
 (List.range l.length).all fun i=>decide (i=m) || late.contains i || l.zipIdx.any fun x=>decide (i<x.2) && (decide (x.2=m) || !late.contains x.2) && x.1.after.any fun e=>e.on==i && Region.binds .any e
theorem rY {l:List Oper} {m:Nat} {late:List Nat} (h:qJ l m late=true) {A:Array Bool} (hm:A.getD m false=true)
 (hd:∀ (i:Nat) (o:Oper),l[i]? = some o->A.getD i false=true->∀ e ∈ o.after,Region.binds .any e=true->A.getD e.on false=true):∀ i,i<l.length->late.contains i=false->A.getD i false=true:=by
 have key:∀ n i,i<l.length->l.length - i≤n->late.contains i=false->A.getD i false=true:=by
  intro n
  induction n with
  | zero=>intro i hi hn;omega
  | succ n ih =>
    intro i hi hn hl;have:=List.all_eq_true.1 h i (List.mem_range.2 hi);simp only [Bool.or_eq_true,decide_eq_true_eq]at this
    rcases this with (h1 | h1) | h1
    ·subst h1;exact hm
    ·rw [h1]at hl
     cases hl
    ·obtain⟨⟨o,k⟩,hx,h2⟩:=List.any_eq_true.1 h1;simp only [Bool.and_eq_true,decide_eq_true_eq,Bool.or_eq_true]at h2;obtain⟨⟨h3,h4⟩,h5⟩:=h2;have hk:=List.mem_zipIdx_iff_getElem?.1 hx;have hkl:=ji hk
     have hAk:A.getD k false=true:=by
      rcases h4 with h4 | h4
      ·subst h4;exact hm
      ·exact ih k hkl (by omega) (by simpa using h4)
     obtain⟨j,hj,h6⟩:=Array.any_eq_true.1 h5;simp only [Bool.and_eq_true,beq_iff_eq]at h6;have:=hd k o hk hAk _ (Array.getElem_mem hj) h6.2
     rwa [h6.1]at this
 exact fun i hi=>key l.length i hi (by omega)
theorem gM {P:Program} {Q:Exit->Act->World->Prop} {l:List Oper} {a0:Act} (hB:ef l a0.tmps.size=true) {R:World->World->Prop} {Φ Ψ:Nat->Value->World->Prop} {C D:World->Prop}
 {i:Nat} {o:Oper} {a:Act} {w:World} {L:Array Bool} (hI:GInv l R Φ (fun _=>false) C a0 L a w) (ho:l[i]? = some o)
 (hs:o.wp P a w (fun a' w'=>∃ v,a'=a.put o.dst v/\D w'/\Ψ i (o.dst.elim undef fun _=>v) w'/\∀ j u,j≠i->Φ j u w->Ψ j u w') Q) :
 o.wp P a w (GInv l R Ψ (fun _=>false) D a0 (L.setIfInBounds i true)) Q:=by
 obtain⟨at1,at2⟩:=gw hB;have ho':=ho;obtain⟨-,-,hd⟩:=at1 i o ho';refine Oper.wp_mono ?_ hs;rintro a' w' ⟨v,rfl,hD,hv,hR⟩
 have vother:∀ (j:Nat) (oj:Oper),j≠i->l[j]? = some oj->ba oj (a.put o.dst v)=ba oj a:=fun j oj hj hoj=>by
  cases hdo:o.dst with
  | none=>rfl
  | some d =>
    unfold ba
    cases hdj:oj.dst with
    | none=>rfl
    | some t =>
      have:=at2 i j o oj (Ne.symm hj) ho' hoj d hdo;exact bM a d v t (fun e=>this (by rw [hdj,e]))
 have vself:ba o (a.put o.dst v)=o.dst.elim undef fun _=>v:=by
  unfold ba
  cases hdo:o.dst with
  | none=>rfl
  | some d=>exact bN a d v (by rw [hI.sz];exact hd d hdo)
 have lold:∀ j,j≠i->(L.setIfInBounds i true).getD j false=true->L.getD j false=true:=fun j hj h=>by
  rwa [getD_set_ne false (Ne.symm hj)]at h
 exact {
  lsz:=by simpa using hI.lsz
  c:=hD
  sz:=by
   rw [<- hI.sz]
   cases o.dst with
   | none=>rfl
   | some d=>simp [Act.put]
  df:=by
   rw [<- hI.df]
   cases o.dst <;> rfl
  fr:=fun t ht=>by
   rw [<- hI.fr t ht]
   cases hdo:o.dst with
   | none=>rfl
   | some d=>exact bM a d v t (fun e=>ht o (List.mem_of_getElem? ho') (by rw [hdo,e]))
  phi:=fun j oj hj hl=>by
   by_cases e:j=i
   ·subst e;rw [ho']at hj
    cases hj
    rw [vself];exact hv
   ·rw [vother j oj e hj];exact hR _ _ e (hI.phi j oj hj (lold j e hl))
  blk:=fun j oj hj hl hc=>by cases hc
  ne:=fun j k oj ok hne hj hk hlj hlk hcj hck=>by cases hcj }
theorem oR {P:Program} {Q:Exit->Act->World->Prop} {l:List Oper} {a0:Act} (hB:ef l a0.tmps.size=true) (m:Nat) (late:List Nat) (_hlB:qJ l m late=true)
 (R:World->World->Prop) (Φ:Bool->Nat->Value->World->Prop) (C:Bool->World->Prop)
 (hΦ:∀ j v w w',R w w'->Φ false j v w->Φ false j v w') (hC:∀ w w',C false w->R w w'->C false w')
 {i:Nat} {o:Oper} {a:Act} {w:World} {A B:Array Bool}
 (step:i≠m->l[i]? = some o->C false w->Given l (Φ false) (fun _=>false) a0 o a w->o.wp P a w (fun a' w'=>∃ v,a'=a.put o.dst v/\R w w'/\Φ false i (o.dst.elim undef fun _=>v) w') Q)
 (turn:l[m]? = some o->C false w->Given l (Φ false) (fun _=>false) a0 o a w->o.wp P a w (fun a' w'=>∃ v,a'=a.put o.dst v/\C true w'/\Φ true m (o.dst.elim undef fun _=>v) w'/\∀ j u,j≠m->Φ false j u w->Φ true j u w') Q)
 (behind:late.contains i=true->l[i]? = some o->C true w->Given l (Φ true) (fun _=>false) a0 o a w->o.wp P a w (fun a' w'=>∃ v,a'=a.put o.dst v/\w'=w/\Φ true i (o.dst.elim undef fun _=>v) w') Q)
 (hI:GInv l R (Φ (A.getD m false)) (fun _=>false) (C (A.getD m false)) a0 B a w) (ho:l[i]? = some o) (hdep:∀ e ∈ o.after,Region.binds .any e=true->B.getD e.on false=true)
 (hBm:B.getD m false=A.getD m false) (hall:A.getD m false=true->∀ k ok,l[k]? = some ok->late.contains k=false->A.getD k false=true) (hAi:A.getD i false=false) (_hBA:∀ k,k<l.length->B.getD k false=A.getD k false) (hil:i<l.length) :
 o.wp P a w (GInv l R (Φ ((B.setIfInBounds i true).getD m false)) (fun _=>false) (C ((B.setIfInBounds i true).getD m false)) a0 (B.setIfInBounds i true)) Q:=by
 have hG:Given l (Φ (A.getD m false)) (fun _=>false) a0 o a w:=⟨fun e he hb oj hj=>hI.phi _ _ hj (hdep e he hb),hI.fr,hI.sz,fun e he f hf hbe hbf hne oi oj hi hj hci hcj=>by cases hci⟩;have hiB:i<B.size:=by rw [hI.lsz];exact hil
 cases hp:A.getD m false with
 | true =>
   rw [hp]at hI hG
   have him:i≠m:=fun e=>by
    subst e;rw [hp]at hAi
    cases hAi
   rw [getD_set_ne false him,hBm,hp]
   have hlate:late.contains i=true:=by
    cases h:late.contains i with
    | true=>rfl
    | false =>
      rw [hall hp i o ho h]at hAi
      cases hAi
   refine gM hB hI ho (Oper.wp_mono ?_ (behind hlate ho hI.c hG));rintro a' w' ⟨v,h1,rfl,h2⟩;exact⟨v,h1,hI.c,h2,fun j u _ h=>h⟩
 | false =>
   rw [hp]at hI hG
   by_cases him:i=m
   ·subst him;rw [aC hiB];exact gM hB hI ho (turn ho hI.c hG)
   ·rw [getD_set_ne false him,hBm,hp];refine gM hB hI ho (Oper.wp_mono ?_ (step him ho hI.c hG));rintro a' w' ⟨v,h1,hR,h2⟩;exact⟨v,h1,hC _ _ hI.c hR,h2,fun j u _ h=>hΦ _ _ _ _ hR h⟩
theorem iu {P:Program} {Q:Exit->Act->World->Prop} {id:Nat} {l:List Oper} {z:Oper} {t:List Oper} {a0:Act} {w0:World} (hm:P.follows .mixedOrders=true) (hB:ef l a0.tmps.size=true)
 (ht:(chainB l.length 0 (z :: t) && jM l z)=true)
 (m:Nat) (late:List Nat) (hml:m<l.length) (hlB:qJ l m late=true) (R:World->World->Prop) (Φ:Bool->Nat->Value->World->Prop) (C:Bool->World->Prop)
 (hΦ:∀ j v w w',R w w'->Φ false j v w->Φ false j v w') (hC0:C false w0.drew) (hC:∀ w w',C false w->R w w'->C false w')
 (hg:∀ (p:Bool) (i:Nat) (o:Oper) (g:Nat) (b:Bool),l[i]? = some o->o.guard=some (g,b)->∀ v w,Φ p g v w->v=.bool b)
 (step:∀ (i:Nat) (o:Oper) (a:Act) (w:World),i≠m->l[i]? = some o->C false w->Given l (Φ false) (fun _=>false) a0 o a w->o.wp P a w (fun a' w'=>∃ v,a'=a.put o.dst v/\R w w'/\Φ false i (o.dst.elim undef fun _=>v) w') Q)
 (turn:∀ (o:Oper) (a:Act) (w:World),l[m]? = some o->C false w->Given l (Φ false) (fun _=>false) a0 o a w->o.wp P a w (fun a' w'=>∃ v,a'=a.put o.dst v/\C true w'/\Φ true m (o.dst.elim undef fun _=>v) w'/\∀ j u,j≠m->Φ false j u w->Φ true j u w') Q)
 (behind:∀ (i:Nat) (o:Oper) (a:Act) (w:World),late.contains i=true->l[i]? = some o->C true w->Given l (Φ true) (fun _=>false) a0 o a w->o.wp P a w (fun a' w'=>∃ v,a'=a.put o.dst v/\w'=w/\Φ true i (o.dst.elim undef fun _=>v) w') Q)
 (done:∀ a w,C true w->a.defers=a0.defers->a.tmps.size=a0.tmps.size->(∀ s,(∀ oj ∈ l,oj.dst≠some s)->a.tmps.getD s undef=a0.tmps.getD s undef)->(∀ (i:Nat) (o:Oper),l[i]? = some o->Φ true i (ba o a) w)->aV P (l ++ (z :: t)).toArray Q (z :: t) a w) :
 (Code.region id (l ++ (z :: t)).toArray true).wp P Q a0 w0:=by
 obtain⟨at1,at2⟩:=gw hB;simp only [Bool.and_eq_true]at ht;obtain⟨ht,hz⟩:=ht
 have hat:∀ (i:Nat) (o:Oper),(l ++ (z :: t)).toArray[i]? = some o->(l[i]? = some o/\i<l.length)\/(∃ j,i=l.length+j/\(z :: t)[j]? = some o/\j<(z :: t).length):=fun i o ho=>by
  rw [List.getElem?_toArray,List.getElem?_append]at ho;split at ho
  ·exact .inl ⟨ho,by assumption⟩
  ·right
   rename_i h
   exact⟨i - l.length,by omega,ho,(ji ho)⟩
 have hget:∀ (i:Nat) (o:Oper),l[i]? = some o->(l ++ (z :: t)).toArray[i]? = some o:=fun i o ho=>by
  rw [List.getElem?_toArray,List.getElem?_append_left (ji ho)];exact ho
 refine ck hm (fun A a w=>A.size=l.length+(z :: t).length /\
  ((∃ j,1≤j/\j≤(z :: t).length/\(∀ i,i<l.length+j->A.getD i false=true)/\(∀ i,l.length+j≤i->A.getD i false=false)/\aV P (l ++ (z :: t)).toArray Q ((z :: t).drop j) a w) \/
   ((∀ i,l.length≤i->A.getD i false=false)/\(∀ (i:Nat) (o:Oper),l[i]? = some o->A.getD i false=true->∀ e ∈ o.after,Region.binds .any e=true->A.getD e.on false=true) /\
    ∃ B:Array Bool,(∀ i,i<l.length->B.getD i false=A.getD i false)/\GInv l R (Φ (A.getD m false)) (fun _=>false) (C (A.getD m false)) a0 B a w))) ?_ ?_ ?_ ?_
 ·intro i o ho e he
  rcases hat i o ho with ⟨ho,-⟩ | ⟨j,rfl,ho,-⟩
  ·exact(at1 i o ho).2.1 e he
  ·have:=(bu ht ho).1 e he;omega
 ·refine⟨by simp,.inr ⟨fun i _=>getD_replicate_false _ _,(fun i o _ h=>by rw [getD_replicate_false]at h;cases h),Array.replicate l.length false,fun i _=>by rw [getD_replicate_false,getD_replicate_false],?_⟩⟩
  exact {
   lsz:=by simp
   c:=by rw [getD_replicate_false];exact hC0
   sz:=rfl
   df:=rfl
   fr:=fun t _=>rfl
   phi:=fun i o _ h=>by rw [getD_replicate_false]at h;cases h
   blk:=fun i o _ h=>by rw [getD_replicate_false]at h;cases h
   ne:=fun i j oi oj _ _ _ h=>by rw [getD_replicate_false]at h;cases h }
 ·rintro A a w i o ⟨hA,hI⟩ ho hAi hdep
  have hiA:i<A.size:=by
   rcases hat i o ho with ⟨-,hi⟩ | ⟨j,rfl,-,hj⟩ <;> omega
  have hAf:A.getD i false=false:=by
   simp only [Array.getD,hiA,dif_pos]at hAi ⊢;exact hAi
  rcases hI with ⟨k,hk1,hk2,hon,hoff,hq⟩ | ⟨hoff,hdn,B,hBA,hI⟩
  ·rcases hat i o ho with ⟨-,hi⟩ | ⟨j,rfl,hj,hjl⟩
   ·have:=hon i (by omega);rw [this]at hAf
    cases hAf
   ·have hjk:j=k:=by
     rcases Nat.lt_trichotomy j k with h | h | h
     ·have:=hon (l.length+j) (by omega);rw [this]at hAf
      cases hAf
     ·exact h
     ·exfalso
      obtain⟨e,he,h1,h2⟩:=(bu ht hj).2 (by omega);have h3:=hdep e he h2;rw [h1,hoff _ (by omega)]at h3
      cases h3
    subst hjk
    have hdrop:(z :: t).drop j=o :: (z :: t).drop (j+1):=by
     rw [List.drop_eq_getElem_cons hjl,(List.getElem?_eq_some_iff.1 hj).2]
    rw [hdrop]at hq;obtain⟨hw,hq⟩:=hq;rw [if_pos hw];refine Oper.wp_mono ?_ hq;intro a' w' hq';refine⟨by simpa using hA,.inl ⟨j+1,by omega,by omega,fun i hi=>?_,fun i hi=>?_,hq'⟩⟩
    ·by_cases e:i=l.length+j
     ·subst e;exact aC hiA
     ·rw [getD_set_ne false (by omega)];exact hon i (by omega)
    ·rw [getD_set_ne false (by omega)];exact hoff i (by omega)
  ·rcases hat i o ho with ⟨ho',hi⟩ | ⟨j,rfl,hj,hjl⟩
   ·have hdB:∀ e ∈ o.after,Region.binds .any e=true->B.getD e.on false=true:=fun e he hb=>by
     rw [hBA _ (Nat.lt_trans ((at1 i o ho').2.1 e he) hi)];exact hdep e he hb
    have hw:Region.wanted o (yielded (l ++ (z :: t)).toArray a.tmps)=true:=by
     unfold Region.wanted
     cases hgd:o.guard with
     | none=>rfl
     | some gb =>
       obtain⟨g,b⟩:=gb;obtain⟨e,he,h1,h2⟩:=(at1 i o ho').1 g b hgd
       have hgi:g<i:=by
        have:=(at1 i o ho').2.1 e he;omega
       obtain⟨og,hog⟩:∃ og,l[g]? = some og:=⟨_,List.getElem?_eq_getElem (by omega)⟩;have hphi:=hI.phi g og hog (by have:=hdB e he h2;rwa [h1]at this);have hv:=hg _ i o g b ho' hgd _ _ hphi
       have hy:yielded (l ++ (z :: t)).toArray a.tmps g=some b:=by
        unfold yielded;rw [hget g og hog];unfold ba at hv
        cases hdg:og.dst with
        | none=>rw [hdg]at hv;simp [undef]at hv
        | some d =>
          rw [hdg]at hv;have hd:d<a.tmps.size:=by rw [hI.sz];exact(at1 g og hog).2.2 d hdg
          have hv:a.tmps.getD d undef=.bool b:=hv
          have:a.tmps[d]? = some (.bool b):=by
           rw [Array.getElem?_eq_getElem hd,← hv];simp [Array.getD,hd]
          simp [hdg,this]
       simp [hy]
    rw [if_pos hw];refine Oper.wp_mono ?_ (oR hB m late hlB R Φ C hΦ hC (step i o a w) (turn o a w) (behind i o a w) hI ho' hdB (hBA m hml) (fun hm1 k ok hok hl=>(rY hlB hm1 hdn k (ji hok) hl)) hAf (fun k hk=>hBA k hk) hi);rintro a' w' hI'
    rw [show (B.setIfInBounds i true).getD m false=(A.setIfInBounds i true).getD m false by
     by_cases e:i=m
     ·subst e;rw [aC hiA,aC (by rw [hI.lsz];exact hi)]
     ·rw [getD_set_ne false e,getD_set_ne false e]
      exact hBA m hml]at hI'
    refine⟨by simpa using hA,.inr ⟨fun x hx=>?_,fun x ox hox hxA e he hb=>?_,_,fun x hx=>?_,hI'⟩⟩
    ·rw [getD_set_ne false (by omega)];exact hoff x hx
    ·by_cases e1:x=i
     ·subst e1;rw [ho']at hox
      cases hox
      have h1:=(at1 x o ho').2.1 e he;rw [getD_set_ne false (by omega)];exact hdep e he hb
     ·rw [getD_set_ne false (Ne.symm e1)]at hxA;have h3:=hdn x ox hox hxA e he hb
      by_cases e2:i=e.on
      ·rw [<- e2];exact aC hiA
      ·rw [getD_set_ne false e2];exact h3
    ·by_cases e:i=x
     ·subst e;rw [aC hiA,aC (by rw [hI.lsz];exact hi)]
     ·rw [getD_set_ne false e,getD_set_ne false e];exact hBA x hx
   ·have hj0:j=0:=by
     rcases Nat.eq_zero_or_pos j with h | h
     ·exact h
     ·exfalso
      obtain⟨e,he,h1,h2⟩:=(bu ht hj).2 (by omega);have h3:=hdep e he h2;rw [h1,hoff _ (by omega)]at h3
      cases h3
    subst hj0;have hz':o=z:=by simpa using hj.symm
    subst hz';have hall:=gO hz hdep hdn;have hBall:∀ i,i<l.length->B.getD i false=true:=fun i hi=>by rw [hBA i hi];exact hall i hi
    rw [hall m hml]at hI;obtain⟨hw,hd⟩:=done a w hI.c hI.df hI.sz hI.fr (fun i o ho=>hI.phi i o ho (hBall i (ji ho)));rw [if_pos hw];refine Oper.wp_mono ?_ hd;intro a' w' hq';refine⟨by simpa using hA,.inl ⟨1,by omega,by simp,fun i hi=>?_,fun i hi=>?_,hq'⟩⟩
    ·by_cases e:i=l.length
     ·subst e;exact aC hiA
     ·rw [getD_set_ne false (by omega)];exact hall i (by omega)
    ·rw [getD_set_ne false (by omega)];exact hoff i (by omega)
 ·rintro A a w ⟨hA,⟨k,hk1,hk2,hon,hoff,hq⟩ | ⟨hoff,-⟩⟩ hall
  ·have hk:k=(z :: t).length:=by
    rcases Nat.lt_or_ge k (z :: t).length with h | h
    ·exfalso
     have h1:=hall (l.length+k) (by simp at h ⊢;omega);have h2:=hoff (l.length+k) aH;have h3:l.length+k<A.size:=by omega
     simp only [Array.getD,h3,dif_pos]at h1 h2;rw [h1]at h2
     cases h2
    ·omega
   subst hk
   simpa [aV]using hq
  ·exfalso
   have h1:=hall l.length (by simp);have h2:=hoff l.length aH;have h3:l.length<A.size:=by simp at hA;omega
   simp only [Array.getD,h3,dif_pos]at h1 h2;rw [h1]at h2
   cases h2
theorem bt {P:Program} {Q:Exit->Act->World->Prop} {id:Nat} {L:List Oper} {a0:Act} {w0:World} (k m:Nat) (late:List Nat) {z:Oper} {t:List Oper} (hm:P.follows .mixedOrders=true) (hk:L.drop k=z :: t) (hB:ef (L.take k) a0.tmps.size=true)
 (ht:(chainB (L.take k).length 0 (L.drop k) && jM (L.take k) z)=true) (hml:m<(L.take k).length) (hlB:qJ (L.take k) m late=true)
 (R:World->World->Prop) (Φ:Bool->Nat->Value->World->Prop) (C:Bool->World->Prop)
 (hΦ:∀ j v w w',R w w'->Φ false j v w->Φ false j v w') (hC0:C false w0.drew) (hC:∀ w w',C false w->R w w'->C false w')
 (hg:∀ (p:Bool) (i:Nat) (o:Oper) (g:Nat) (b:Bool),(L.take k)[i]? = some o->o.guard=some (g,b)->∀ v w,Φ p g v w->v=.bool b)
 (step:∀ (i:Nat) (o:Oper) (a:Act) (w:World),i≠m->(L.take k)[i]? = some o->C false w->Given (L.take k) (Φ false) (fun _=>false) a0 o a w->o.wp P a w (fun a' w'=>∃ v,a'=a.put o.dst v/\R w w'/\Φ false i (o.dst.elim undef fun _=>v) w') Q)
 (turn:∀ (o:Oper) (a:Act) (w:World),(L.take k)[m]? = some o->C false w->Given (L.take k) (Φ false) (fun _=>false) a0 o a w->o.wp P a w (fun a' w'=>∃ v,a'=a.put o.dst v/\C true w'/\Φ true m (o.dst.elim undef fun _=>v) w'/\∀ j u,j≠m->Φ false j u w->Φ true j u w') Q)
 (behind:∀ (i:Nat) (o:Oper) (a:Act) (w:World),late.contains i=true->(L.take k)[i]? = some o->C true w->Given (L.take k) (Φ true) (fun _=>false) a0 o a w->o.wp P a w (fun a' w'=>∃ v,a'=a.put o.dst v/\w'=w/\Φ true i (o.dst.elim undef fun _=>v) w') Q)
 (done:∀ a w,C true w->a.defers=a0.defers->a.tmps.size=a0.tmps.size->(∀ s,(∀ oj ∈ L.take k,oj.dst≠some s)->a.tmps.getD s undef=a0.tmps.getD s undef)->(∀ (i:Nat) (o:Oper),(L.take k)[i]? = some o->Φ true i (ba o a) w)->aV P L.toArray Q (L.drop k) a w) :
 (Code.region id L.toArray true).wp P Q a0 w0:=by
 rw [hk]at ht done;have hL:L.take k ++ (z :: t)=L:=by rw [<- hk,List.take_append_drop]
 revert hB ht hml hlB hg step turn behind done hL;generalize L.take k=l;intro hB ht hml hlB hg step turn behind done hL;clear hk;subst hL;exact iu hm hB ht m late hml hlB R Φ C hΦ hC0 hC hg step turn behind done
end
end Go.Proofs.YthaliljaglldjaaGreat
namespace Go.Proofs.YthaliljaglldjaaGreat
set_option maxHeartbeats 16000000
set_option maxRecDepth 20000
open Go.RowKit Go.ChangeMaps Go.MapKept
section
theorem iW (l:List (Int × Th)) (x:Int × Th):bB (l ++ [x])=bB l ++ bL x:=by simp [bB]
theorem eS (l:List (Int × Th)):(bB l).length=l.length * 17:=by
 induction l with
 | nil=>rfl
 | cons x l ih =>
   unfold bB at ih ⊢;rw [List.flatMap_cons,List.length_append,ih,ce,List.length_cons];omega
structure RowE (w:World) (base:Nat) (G:Nat->Prop) (u:Value) (l:List (Int × Th)):Prop where
 row:w.ownsRow base 117 17 u l.length (bB l)
 deep:∀ x ∈ l,DeepR w (fun b=>G b/\u.ownBlock≠some b) x.2
theorem DeepR.mono {w:World} {G G':Nat->Prop} {t:Th} (h:DeepR w G t) (hG:∀ b,G b->G' b):DeepR w G' t:=⟨h.v.mono hG,h.vs.mono hG,h.code,h.names⟩
theorem DeepR.keeps {w w':World} {G S:Nat->Prop} {t:Th} (h:DeepR w G t) (hk:Keeps S w w') (hS:∀ b,G b->b<w.heap.size->¬ S b):DeepR w' (fun b=>G b/\b<w.heap.size) t :=
 ⟨(SlAt.lt h.v).keeps hk fun b h1 h2=>hS b h2.1 h2.2 h1,(SlAt.lt h.vs).keeps hk fun b h1 h2=>hS b h2.1 h2.2 h1,h.code,h.names⟩
theorem RowE.nil (w:World) (base:Nat) (G:Nat->Prop):RowE w base G (S_) []:=⟨World.ownsRow_nil _ _ _ _,fun x hx=>by cases hx⟩
theorem RowE.below {w w':World} {base:Nat} {G:Nat->Prop} {u:Value} {l:List (Int × Th)} (h:RowE w base G u l) (hb:Bl w w'):RowE w' base G u l:=by
 obtain⟨⟨h1,h2⟩,h3⟩:=h;exact⟨⟨h1,h2.imp id fun⟨g,cap,cur,e1,e2,e3,e4⟩=>⟨g,cap,cur,e1,e2,ae hb e3,e4⟩⟩,fun x hx=>(h3 x hx).on hb⟩
theorem RowE.own {w:World} {base:Nat} {G:Nat->Prop} {u:Value} {l:List (Int × Th)} (h:RowE w base G u l):∀ b,u.ownBlock=some b->base≤b/\b<w.heap.size:=fun b hb=>by
 obtain⟨⟨h1,⟨rfl,-⟩ | ⟨g,cap,cur,rfl,h2,h3,-⟩⟩,-⟩:=h
 ·cases hb
 ·cases hb
  exact⟨h2,aw h3⟩
theorem RowE.form {w:World} {base:Nat} {G:Nat->Prop} {u:Value} {l:List (Int × Th)} (h:RowE w base G u l):∃ p c,u=.slice p l.length c:=by
 obtain⟨⟨h1,⟨rfl,h0⟩ | ⟨g,cap,cur,rfl,h2,h3,-⟩⟩,-⟩:=h
 ·exact⟨none,0,by rw [h0]⟩
 ·exact⟨_,_,rfl⟩
def oP:Array Value:=#[J 0,U 0,J 0,U 0,J 0,T_,S_,J 0,S_,J 0,J 0,J 0,J 0,U 0,.bool false,S_,S_]
theorem kT:(Tryz.prog.info? 117).map (fun i=>(i.zero,i.size,i.bytes))=some (some (.agg oP),17,200):=by kernel_rfl
theorem Tryz.underlyingLEntry:Tryz.prog.underlying 65=some (.slice 117):=by kernel_rfl
theorem RowE.more {w w':World} {base:Nat} {G G':Nat->Prop} {u v':Value} {l:List (Int × Th)} {y:Int × Th} (h:RowE w base G u l) (hy:DeepR w (fun b=>G' b/\u.ownBlock≠some b) y.2) (hG:∀ b,G b->G' b)
 (r1:w'.ownsRow base 117 17 v' (l ++ [y]).length (bB (l ++ [y]))) (hk:Keeps (fun b=>u.ownBlock=some b) w w') (r4:v'.ownBlock=u.ownBlock\/v'.ownBlock=some w.heap.size):RowE w' base G' v' (l ++ [y]):=by
 refine⟨r1,fun x hx=>?_⟩
 have keep:∀ {t:Th},DeepR w (fun b=>G' b/\u.ownBlock≠some b) t->DeepR w' (fun b=>G' b/\v'.ownBlock≠some b) t:=fun hd =>
  (hd.keeps hk fun b hb _=>hb.2).mono fun b hb=>⟨hb.1.1,fun e=>by
   rcases r4 with r4 | r4
   ·exact hb.1.2 (r4 ▸ e)
   ·rw [r4]at e;have e':w.heap.size=b:=by injection e
    have:=hb.2
    omega⟩
 rcases List.mem_append.1 hx with hx | hx
 ·exact keep ((h.deep x hx).mono fun b hb=>⟨hG b hb.1,hb.2⟩)
 ·rw [List.mem_singleton.1 hx];exact keep hy
theorem cD {P:Program} {w:World} {o:Oper} {a:Act} {K:Act->World->Prop} {Q:Exit->Act->World->Prop} (s x:Operand) (t:TypeId)
 (ho:o.op=.call { callee:=.builtin .append,args:=#[s,x],argTypes:=#[t,t] })
 (base:Nat) (e:TypeId) (i:TypeInfo) (z:Value) (size bytes:Nat) (ht:P.underlying t=some (.slice e)) (hi:P.info? e=some i) (hz:i.zero=some z)
 (hsize:i.size=size) (hby:i.bytes=bytes) (hzs:z.cells.size=size) (hsz:0<size)
 (v:Value) (n:Nat) (xs:List Value) (hs:a.eval s=v) (hown:w.ownsRow base e size v n xs)
 (ad:Addr) (m c:Nat) (news:List Value) (hx:a.eval x=.slice (some ad) m c) (hl:news.length=m * size) (hnews:∀ j u,news[j]? = some u->w.cell? (ad.add j)=some u) (h1:∀ u ∈ news,u.oneCell'=true)
 (h63:n+m≤maxLen) (hbytes:(n+m) * bytes≤140737488355328) (hbase:base≤w.heap.size)
 (h:∀ v' w',w'.ownsRow base e size v' (n+m) (xs ++ news)->w.grownBy w' v.ownBlock->(v'.ownBlock=v.ownBlock\/v'.ownBlock=some w.heap.size)->K (a.put o.dst v') w'):o.wp P a w K Q:=by
 obtain⟨v',w',hr,h2,h3,h4,h5⟩:=run_append_own_at (P:=P) w base t o.type e i z size bytes ht hi hz hsize hby hzs hsz v n xs hown ad m c news hl hnews h1 h63 hbytes hbase;unfold Oper.wp execOp;simp only [ho,resolve,invoke,builtin,Sem.run_bind,Sem.run_pure,Result.andThen_ok,List.map_toArray,List.map_cons,List.map_nil,hs,hx,hr];exact h v' w' h2 h3 h5
theorem hQ {w:World} {o:Oper} {a:Act} {K:Act->World->Prop} {Q:Exit->Act->World->Prop} (s x:Operand)
 (ho:o.op=.call { callee:=.builtin .append,args:=#[s,x],argTypes:=#[65,65] }) (base:Nat) {G G':Nat->Prop}
 (u:Value) (l:List (Int × Th)) (hs:a.eval s=u) (hown:RowE w base G u l) (y:Int × Th) {g c:Nat} (hx:a.eval x=.slice (some ⟨g,0,none⟩) 1 c) (hg:w.heap[g]? = some (.cells (bL y).toArray 117 (0,0)))
 (hy:DeepR w (fun b=>G' b/\u.ownBlock≠some b) y.2) (hone:(aF y.2).all (·.oneCell')=true) (hG:∀ b,G b->G' b)
 (hn:l.length≤1000000) (hbase:base≤w.heap.size)
 (h:∀ v' w',RowE w' base G' v' (l ++ [y])->Keeps (fun b=>u.ownBlock=some b) w w'->v'.ownBlock=u.ownBlock\/v'.ownBlock=some w.heap.size->K (a.put o.dst v') w'):o.wp Tryz.prog a w K Q:=by
 obtain⟨i,hi,hz,h1,h2⟩:=info_parts kT
 refine cD s x 65 ho base 117 i (.agg oP) 17 200 Tryz.underlyingLEntry hi hz h1 h2 rfl (by decide) u l.length _ hs hown.row ⟨g,0,none⟩ 1 c (bL y) hx (by rw [ce]) (fun j t hj=>by
  rw [Addr.add_lit,Nat.zero_add,ag hg]
  simpa using hj) (fun t ht=>?_) (by unfold maxLen;omega) (by omega) hbase ?_
 ·rcases List.mem_cons.1 ht with rfl | ht
  ·rfl
  ·exact Array.all_eq_true_iff_forall_mem.1 hone t (by simpa using ht)
 ·intro v' w' r1 r2 r4;have hk:Keeps (fun b=>u.ownBlock=some b) w w':=⟨r2.os,r2.tape,r2.output,r2.size,fun k hk hne=>r2.block k hk (fun e=>hne e.symm)⟩;refine h v' w' (hown.more hy hG ?_ hk r4) hk r4;rw [iW,List.length_append];exact r1
end
end Go.Proofs.YthaliljaglldjaaGreat
