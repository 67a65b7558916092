/- Part of the proof. -/
import Derived.Test.YthaliljaglldjaaGreatmAO
import Derived.Test.YthaliljaglldjaaGreatmAP
namespace Go.Proofs.YthaliljaglldjaaGreat
set_option maxHeartbeats 16000000
set_option maxRecDepth 20000
open Go.RowKit Go.ChangeMaps Go.MapKept
section
variable {w:World} {p:Nat} {M:WM} {F:Nat->Prop}
theorem vM (hW:IsW w p M F) (h tg:Int) (hs:be M h=true):Calls Tryz.prog 74 #[P_ p,.agg (wr 11 h 0 0 0 0 tg 0 0 false)] w fun e w'=>e=.returned (.bool true)/\Below w.heap.size w w':=by
 have hV:∀ w:World,Calls Tryz.prog 161 #[.agg O] w fun e w'=>e=.returned (.bool true)/\Below w.heap.size w w':=fun w=>eb w 0 0 (.inl ⟨rfl,rfl⟩)
 go_enter Tryz.func74,Tryz.ntmps74
 go_wp2_with fail
 refine(vX _ h 0 0 0 0 tg 0 0 0 ⟨#[]⟩ false none none none none 0 0 0 0 0 0 0 0).mono ?_;rintro e w1 ⟨rfl,hb1⟩;have B1:=ae hb1 (ai _ _);have aa:=aq B1;have hz1:w.heap.size<w1.heap.size:=by have:=hb1.size;simp at this;omega
 have HB1:Hid (Below w.heap.size w w1):=(br.alloc aH _).trans (hb1.mono (by simp;try omega));clear hb1
 go_wp2_with fail
 refine(bE _).mono ?_;rintro e w2 ⟨rfl,hb2⟩;have B2:=ae hb2 (aG _ _ B1);clear aa;have aa:=aq B2;have hz2:w.heap.size<w2.heap.size:=by have:=hb2.size;simp at this;omega
 have HB2:Hid (Below w.heap.size w w2):=(HB1.out.alloc (by first | omega | (simp;try omega)) _).trans (hb2.mono (by first | omega | (simp;try omega)));clear hb2 B1 HB1 hz1
 go_wp2_with fail
 refine(bE _).mono ?_;rintro e w3 ⟨rfl,hb3⟩;have B3:=ae hb3 B2;clear aa;have aa:=aq B3;have hz3:w.heap.size<w3.heap.size:=by have:=hb3.size;omega
 have HB3:Hid (Below w.heap.size w w3):=HB2.out.trans (hb3.mono (by first | omega | (simp;try omega)));clear hb3 B2 HB2 hz2
 go_wp2_with fail
 refine(cJ (hW.below HB3.out) h).mono ?_;rw [hs];rintro e _ ⟨rfl,rfl⟩
 go_wp2_with fail
 refine(hV _).mono ?_;rintro e w4 ⟨rfl,hb4⟩;have B4:=ae hb4 B3;clear aa;have aa:=aq B4;have hz4:w.heap.size<w4.heap.size:=by have:=hb4.size;omega
 have HB4:Hid (Below w.heap.size w w4):=HB3.out.trans (hb4.mono (by first | omega | (simp;try omega)));clear hb4 B3 HB3 hz3
 go_wp2_with fail
 refine(jc _).mono ?_;rintro e w5 ⟨rfl,hb5⟩;have B5:=ae hb5 B4;clear aa;have aa:=aq B5;have hz5:w.heap.size<w5.heap.size:=by have:=hb5.size;omega
 have HB5:Hid (Below w.heap.size w w5):=HB4.out.trans (hb5.mono (by first | omega | (simp;try omega)));clear hb5 B4 HB4 hz4
 go_wp2_with fail
 go_rounds 1
 have hB:=HB5.out;have hZ:w.heap.size≤w5.heap.size:=by omega
 go_ret
 exact⟨rfl,by go_grown⟩
end
section
variable {w:World} {p:Nat} {M:WM} {F:Nat->Prop}
theorem MakeIn.light (hW:IsW w p M F) {k h vk vn n l tg bi s:Int} {fu:Bool} (hp:Plain vk vn)
 (hform:∀ w,IsW w p M F->Calls Tryz.prog 74 #[P_ p,.agg (wr k h vk vn n l tg bi s fu)] w fun e w'=>e=.returned (.bool true)/\Bl w w')
 (hfits:∀ w,IsW w p M F->Calls Tryz.prog 78 #[P_ p,J 0,.agg (wr k h vk vn n l tg bi s fu)] w fun e w'=>e=.returned (.bool true)/\Bl w w')
 (k14:(k==14)=false) (k13:k=13->tg=0) (tgw:(Lit.int .i64 tg).wf=true) (biw:(Lit.int .i64 bi).wf=true) (home:0≤h/\h<M.made.length)
 (hA:ec k=true->(M.at tg).isSome=true) (hB:fI k=true->(M.at bi).isSome=true) (add:M.made.getD h.toNat 0<512->AddOk M (lt k h vk vn n l tg bi s fu)) :
 MakeIn w p M F k h n l tg bi s fu (U vk) (J vn) (T_) (S_) (J 0) (S_) (S_) (S_) (fun t=>t=lt k h vk vn n l tg bi s fu) where
 form w1 hb:=hform w1 (hW.below hb)
 names w1 hb:=qA w1 _ k h vk vn n l tg bi s fu hp
 fits w1 hb:=hfits w1 (hW.below hb)
 own w1 hb:=(lf w1 k h vk vn n l tg bi s fu hp).mono fun e w' h=>⟨_,rfl,h.1,h.2,qu _ _ _ _ _ _ _ _ _ _ _ _⟩
 k14:=k14
 k13:=k13
 tgw:=tgw
 biw:=biw
 home:=home
 hA:=hA
 hB:=hB
 add hr t ht:=by subst ht;exact⟨rfl,rfl,rfl,add hr⟩
def MadeL (w:World) (p:Nat) (M:WM) (F:Nat->Prop) (h:Int) (t:Th) (e:Ending) (w':World):Prop :=
 (M.made.getD h.toNat 0<512/\e=.returned (.tuple #[J (M.last+1),J 0])/\∃ F',IsW w' p (em M t) F'/\Grew F w F' w') \/
 (¬ M.made.getD h.toNat 0<512/\e=.returned (.tuple #[J 0,J 8])/\Bl w w')
theorem MadeG.light {h:Int} {t:Th} {e:Ending} {w':World} (hm:MadeG w p M F h (fun u=>u=t) e w'):MadeL w p M F h t e w':=by
 rcases hm with ⟨h1,h2,u,F',rfl,h4,h5⟩ | h
 ·exact .inl ⟨h1,h2,F',h4,h5⟩
 ·exact .inr h
theorem gS:Plain 0 0:=.inl ⟨rfl,rfl⟩
section
variable (hW:IsW w p M F) (hl:M.last+1≤1099511627776) {h:Int} (home:0≤h/\h<M.made.length)
include hW hl home
theorem xz:Calls Tryz.prog 14 #[P_ p,.agg (wr 2 h 0 0 0 0 0 0 0 false)] w (MadeL w p M F h (lt 2 h 0 0 0 0 0 0 0 false)) :=
 (ft hW (MakeIn.light hW gS (fun w hW=>xf hW h (sideB_iff.2 home)) (fun w _=>xd w _ 0 h 0 0 0 0 0 0 0 false) rfl (fun e=>absurd e (by decide)) rfl rfl home (fun e=>absurd e (by decide)) (fun e=>absurd e (by decide)) fun hr=>{
  wf:=⟨by show (1:Int)≤2/\(2:Int)≤16;decide,rfl,rfl,by show (0:Int)≤0/\(0:Int)≤255;decide⟩
  last:=hl
  home:=fun _=>home
  made:=fun _=>hr
  wrap:=fun e=>absurd (show cC 2=true from e) (by decide)
  gate:=fun e=>absurd (show (2:Int)=15 from e) (by decide)
  purse:=fun e=>absurd (show (2:Int)=9 from e) (by decide)
  facet:=fun e=>absurd (show (2:Int)=14 from e) (by decide) })).mono fun _ _ h=>h.light
theorem yG:Calls Tryz.prog 14 #[P_ p,.agg (wr 4 h 0 0 0 0 0 0 0 false)] w (MadeL w p M F h (lt 4 h 0 0 0 0 0 0 0 false)) :=
 (ft hW (MakeIn.light hW gS (fun w hW=>yd hW h (sideB_iff.2 home)) (fun w _=>xH w _ 0 h 0 0 0 0 0 0 0 false) rfl (fun e=>absurd e (by decide)) rfl rfl home (fun e=>absurd e (by decide)) (fun e=>absurd e (by decide)) fun hr=>{
  wf:=⟨by show (1:Int)≤4/\(4:Int)≤16;decide,rfl,rfl,by show (0:Int)≤0/\(0:Int)≤255;decide⟩
  last:=hl
  home:=fun _=>home
  made:=fun _=>hr
  wrap:=fun e=>absurd (show cC 4=true from e) (by decide)
  gate:=fun e=>absurd (show (4:Int)=15 from e) (by decide)
  purse:=fun e=>absurd (show (4:Int)=9 from e) (by decide)
  facet:=fun e=>absurd (show (4:Int)=14 from e) (by decide) })).mono fun _ _ h=>h.light
theorem yH {n:Int} (hn:0≤n/\n≤9007199254740992):Calls Tryz.prog 14 #[P_ p,.agg (wr 3 h 0 0 n 0 0 0 0 false)] w (MadeL w p M F h (lt 3 h 0 0 n 0 0 0 0 false)) :=
 (ft hW (MakeIn.light hW gS (fun w hW=>tW hW h n (sideB_iff.2 home) hn) (fun w _=>xP w _ 0 h 0 0 n 0 0 0 0 false) rfl (fun e=>absurd e (by decide)) rfl rfl home (fun e=>absurd e (by decide)) (fun e=>absurd e (by decide)) fun hr=>{
  wf:=⟨by show (1:Int)≤3/\(3:Int)≤16;decide,rfl,rfl,by show (0:Int)≤0/\(0:Int)≤255;decide⟩
  last:=hl
  home:=fun _=>home
  made:=fun _=>hr
  wrap:=fun e=>absurd (show cC 3=true from e) (by decide)
  gate:=fun e=>absurd (show (3:Int)=15 from e) (by decide)
  purse:=fun e=>absurd (show (3:Int)=9 from e) (by decide)
  facet:=fun e=>absurd (show (3:Int)=14 from e) (by decide) })).mono fun _ _ h=>h.light
theorem xB {n l:Int} (hn:0≤n/\n≤9007199254740992) (hl2:0≤l/\l≤n):Calls Tryz.prog 14 #[P_ p,.agg (wr 8 h 0 0 n l 0 0 0 false)] w (MadeL w p M F h (lt 8 h 0 0 n l 0 0 0 false)) :=
 (ft hW (MakeIn.light hW gS (fun w hW=>yK hW h n l (sideB_iff.2 home) hn hl2) (fun w _=>xj w _ 0 h 0 0 n l 0 0 0 false) rfl (fun e=>absurd e (by decide)) rfl rfl home (fun e=>absurd e (by decide)) (fun e=>absurd e (by decide)) fun hr=>{
  wf:=⟨by show (1:Int)≤8/\(8:Int)≤16;decide,rfl,rfl,by show (0:Int)≤0/\(0:Int)≤255;decide⟩
  last:=hl
  home:=fun _=>home
  made:=fun _=>hr
  wrap:=fun e=>absurd (show cC 8=true from e) (by decide)
  gate:=fun e=>absurd (show (8:Int)=15 from e) (by decide)
  purse:=fun e=>absurd (show (8:Int)=9 from e) (by decide)
  facet:=fun e=>absurd (show (8:Int)=14 from e) (by decide) })).mono fun _ _ h=>h.light
theorem ve:Calls Tryz.prog 14 #[P_ p,.agg (wr 10 h 0 0 0 0 0 0 0 false)] w (MadeL w p M F h (lt 10 h 0 0 0 0 0 0 0 false)) :=
 (ft hW (MakeIn.light hW gS (fun w hW=>sK hW h (sideB_iff.2 home)) (fun w _=>wu w _ 0 h 0 0 0 0 0 0 0 false) rfl (fun e=>absurd e (by decide)) rfl rfl home (fun e=>absurd e (by decide)) (fun e=>absurd e (by decide)) fun hr=>{
  wf:=⟨by show (1:Int)≤10/\(10:Int)≤16;decide,rfl,rfl,by show (0:Int)≤0/\(0:Int)≤255;decide⟩
  last:=hl
  home:=fun _=>home
  made:=fun _=>hr
  wrap:=fun e=>absurd (show cC 10=true from e) (by decide)
  gate:=fun e=>absurd (show (10:Int)=15 from e) (by decide)
  purse:=fun e=>absurd (show (10:Int)=9 from e) (by decide)
  facet:=fun e=>absurd (show (10:Int)=14 from e) (by decide) })).mono fun _ _ h=>h.light
end
end
section
variable {w:World} {p:Nat} {M:WM} {F:Nat->Prop}
structure Fair (t:Th):Prop where
 v:ay t.v=true
 vs:∀ x ∈ t.vs,ay x=true
 len:t.vs.length≤1024
theorem pD (hW:IsW w p M F) {r:Int} (hr:(Lit.int .i64 r).wf=true) {t:Th} (ht:M.at r=some t) (hf:Fair t) :
 Calls Tryz.prog 137 #[P_ p,J r] w fun e w'=>∃ vl' vals',e=.returned (.tuple #[.agg (aF { t with vl:=vl',vals:=vals' }),J 0])/\Bl w w' /\
  Deep w' (fun b=>w.heap.size≤b) { t with vl:=vl',vals:=vals' }/\(t.v.l = []->vl'=.slice none 0 0)/\(t.vals=.slice none 0 0->vals'=.slice none 0 0)/\dQ vals':=by
 have HW:Hid (IsW w p M F):=hW;have hIs:(M.at r).isSome=true:=by rw [ht];rfl
 have HIs:Hid _:=hIs;have hWA:=HW.out.below (w':=w.alloc (.cells (wr 0 0 0 0 0 0 0 0 0 false) 46)) (br.alloc aH _);have HWA:Hid (IsW (w.alloc (.cells (wr 0 0 0 0 0 0 0 0 0 false) 46)) p M F):=hWA;obtain⟨pa,pc,cg,cc,mg,mc,tb,fb,fn,bl,hV⟩:=hWA;have c2:=hV.c2;have hlk:=hV.look hr;rw [ht]at hlk;simp only [Option.map_some]at hlk;have hld:=aD (hV.blk r _ ht).1 rfl;have hO:=eL t (hV.blk r _ ht).2.2.lies hf.v hf.vs hf.len;have HO:Hid _:=hO;clear hV hW ht hIs hO hf;obtain⟨k,h,⟨vk,vn,vstr,vl,vr⟩,raw,vs,vals,n,l,tg,bi,s,fu,code,names⟩:=t;simp only [aF]at HO hld ⊢
 go_enter Tryz.func137,Tryz.ntmps137
 go_wp2_with fail
 refine(eF HWA.out).mono ?_;rintro e _ ⟨rfl,rfl⟩
 go_wp2_with fail
 refine(gN HWA.out hr).mono ?_;rw [HIs.out];rintro e _ ⟨rfl,rfl⟩
 go_wp2_with fail
 refine Calls.mono HO.out ?_;rintro e w1 ⟨vl',vals',rfl,hb1,hd1,hn1,hn2,hn3⟩;obtain⟨pv,cv,hv⟩:=hd1.v.form;obtain⟨ps,cs,hs⟩:=hd1.vs.form;simp only at hv hs;have B1:=ae hb1 (ai w _);have HB1:Hid (Bl w w1):=(br.alloc aH _).trans (hb1.mono (by simp));have hcode:=hd1.code;have hnames:=hd1.names;simp only at hcode hnames;subst hv hs hcode hnames;have hst:=aS (c':=#[U k,J h,U vk,J vn,.string vstr,.slice pv vl.length cv,J vr,.slice ps vs.length cs,J n,J l,J tg,J bi,U s,.bool fu,S_,S_]) B1 rfl rfl (by simp [go_sem]);have G1:Hid _:=ah (c':=#[U k,J h,U vk,J vn,.string vstr,.slice pv vl.length cv,J vr,.slice ps vs.length cs,J n,J l,J tg,J bi,U s,.bool fu,S_,S_]) B1
 have HD:Hid (Deep (w1.setRow w.heap.size (X_ k h vk vn vstr (.slice pv vl.length cv) vr (.slice ps vs.length cs) n l tg bi s fu)) (fun b=>w.heap.size≤b) ⟨k,h,⟨vk,vn,vstr,vl,vr⟩,.slice pv vl.length cv,vs,.slice ps vs.length cs,n,l,tg,bi,s,fu,S_,S_⟩) :=
  hd1.of_blocks (Lists.of fun b hb=>aj _ _ _ _ (by simp at hb;omega)) (fun b hb=>by simp at hb;show w.heap.size≤b;omega)
 have HN:Hid ((vl = []->Value.slice pv vl.length cv=.slice none 0 0)/\(vals=.slice none 0 0->Value.slice ps vs.length cs=.slice none 0 0)/\dQ (.slice ps vs.length cs)):=⟨hn1,hn2,hn3⟩;clear hb1 B1 c2 hlk hld hd1 hn1 hn2 hn3 HO
 go_wp2_with fail
 exact bodyPost_ret (cQ rfl _ _ _ _ _ rfl G1.out rfl) rfl ⟨_,_,rfl,Below.setRow HB1.out aH _,HD.out,HN.out.1,HN.out.2.1,HN.out.2.2⟩
end
end Go.Proofs.YthaliljaglldjaaGreat
